/- Texts joined. No conditions. -/
import Derived.Test.YtcmimhffgmckjaaGreatDoorV12
namespace Go.Proofs.YtcmimhffgmckjaaGreatDoor
noncomputable section
open Go.RowKit
set_option maxRecDepth 100000
theorem uO (m:List ai) {q:ByteArray} (h:iN m=some q):aA Tryz.prog 100 [eL ai.c m] (St q):=by
 refine pM Tryz.func100 Z (by kernel_rfl) Z (jI (oN as' (jA (jH (jI (oN mv (oC h (fun _=>qm _) Z Z Z Z fun v1 _ h=>oN (Mc.not Z) (jA ?_))))))));refine jN Z h (fun q2 h=>?_) (fun q2 h=>?_)
 ·refine jI (oN as' (jA (jK ?_)))
  cases h
  exact bP Z Z Z
 ·refine jG (jI (oN mv (oN (Mc.lenL HL Z) (jD h fun g3 h=>oA (EvA.mkN (c:=cS) (default:ByteArray) zH Z Z g3 Z Z Z) (oN (Mc.asg (hS false 0 0 1 ((List.replicate (m.length:Int).toNat (default:ByteArray)).length)) Z) (jA ?_))))));refine T.jF (G:=Nat) h (fun s4 gh=>True) (fun s4 gh=>[(3,hS false 0 gh 1 s4.length)]) (fun s4 gh=>[bE false gh 1 9 (s4.map cS)]) (fun s4 u19 h hg=>?_) (fun s4 h=>?_)
  ·refine jI (oN mv (jB h fun v20 cv20 h=>oA (EvA.callT Z Z (yC s4 (⟨#[47]⟩:ByteArray) cv20) (.cons (Fz.own (g:=false) (ver:=u19) (l:=s4) Z Z Z nofun qD) (.cons (qC Z) .nil)) Z) (oN as' (jA (jK ?_)))))
   cases h
   exact bP Z Z Z
  ·refine jI (oN mv (oN (Mc.lenL HL Z) (oN mv (jA (jE ?_)))));refine jO (S:=(List ByteArray)×Int) (G:=Nat) (fG m) (fun s8 gh=>True) (fun s8 gh=>[(14,I s8.2),(13,I (m.length:Int)),(12,eL ai.c m),(3,hS false 0 gh 1 s8.1.length)]) (fun s8 gh=>[bE false gh 1 9 (s8.1.map cS)]) (s0:=((List.replicate (m.length:Int).toNat (default:ByteArray)),U)) 0 h trivial (kw Z Z) (fun s8 u10 ws8 h hg=>?_);refine jI (oN (Mc.ilt Z Z) (jA (jH ?_)));refine jN Z h (fun q11 h=>?_) (fun q11 h=>?_)
   ·refine jG (jH (jE (jI (oN mv (jD h fun g12 h=>oN (Mc.ixL HL Z Z g12 qD) (oN (lf (.agg (ai.c (J m s8.2))) EO Z) (oA (EvA.al IQ Z Z) (oN as' (oV (sr (ai.c (⟨(J m s8.2).Kind,((J m s8.2).Expr)⟩:ai)) EO Z Z Z Z) (jA (jP (dG [dF,dF,dF,([1],false),dF,dF,dF,dF,([1],false),dF,dF,dF,([0],true)]) (by kernel_rfl) (by kernel_rfl) (fN Z mv (fN Z mv (fN Z (fa EP Z) ?_))))))))))))));refine fR [1] Z (fun G hG=>EvA.loadhp (I ((J m s8.2).Kind)) Mx Z (hG.a0 Z) Z Z Z Z) (jD h fun g13 h=>fN Z (Mc.ixafp Tryz.underlying126 ty9 Z Z g13) (fN Z (Mc.ldG (c:=cS) (l:=zZ) (St (J zZ ((J m s8.2).Kind))) ty9 Z JA (ay (l:=zZ) Z g13) Z Z) (jD h fun g14 h=>fN Z (Mc.cat Z Z g14) (fN Z (fa EP Z) (fR [1] Z (fun G hG=>EvA.loadhp (.agg (aa.c ((J m s8.2).Expr))) fJ Z (hG.a0 Z) Z Z Z Z) (fC h (fun _=>mV _) Z Z Z Z Z fun v15 _ h=>jD h fun g16 h=>fN Z (Mc.cat Z Z g16) (jD h fun g17 h=>fN Z (Mc.ixO (g:=false) zH Z Z nofun g17) (fV 0 [] Z Z (fun G hG=>EvA.stO (g:=false) (l:=s8.1) (cs:=[St (((J zZ ((J m s8.2).Kind))++(⟨#[32]⟩:ByteArray))++v15)]) (((J zZ ((J m s8.2).Kind))++(⟨#[32]⟩:ByteArray))++v15) ty9 Z Z (hG.a0 Z) nofun (ay Z g17) Z Z Z) (jR (T.clean (H0:=[bE false u10 1 9 ((s8.1.set s8.2.toNat (((J zZ ((J m s8.2).Kind))++(⟨#[32]⟩:ByteArray))++v15)).map cS),some ⟨0,4,133,[(ai.c (⟨(J m s8.2).Kind,((J m s8.2).Expr)⟩:ai))]⟩]) (e0:=au [(14,I s8.2),(13,I (m.length:Int)),(12,eL ai.c m),(3,hS false 0 u10 1 s8.1.length)]) Z (Mb Z (Mb Z (Mb Z (Mb Z Ma)))) ?_))))))))));refine jC (jW h fun g18 h=>oN (Mc.add Z Z g18) (oN mv (jA ?_)));obtain rfl:=Mg h;exact ⟨((s8.1.set s8.2.toNat (((J zZ ((J m s8.2).Kind))++(⟨#[32]⟩:ByteArray))++v15)),(s8.2+(1:Int))),u10,Z,trivial,mR Z (.cons (.list (g:=false) (ver:=u10) (l:=(s8.1.set s8.2.toNat (((J zZ ((J m s8.2).Kind))++(⟨#[32]⟩:ByteArray))++v15))) qD) .nil) (aj (.fz (qC Z)) (aj (.fz (qC Z)) (aj (.fz (qC Z)) (aj (.eqv (congrArg (hS false 0 u10 1) (by simp:s8.1.length=(s8.1.set s8.2.toNat (((J zZ ((J m s8.2).Kind))++(⟨#[32]⟩:ByteArray))++v15)).length)) (.hS (g:=false) (b:=0) (ver:=u10) (s:=1) (n:=(s8.1.set s8.2.toNat (((J zZ ((J m s8.2).Kind))++(⟨#[32]⟩:ByteArray))++v15)).length) Z)) aN))))⟩
   ·refine jM (lX h fun h=>?_)
    cases h
    exact ⟨u10,trivial,kw Z Z⟩
set_option maxHeartbeats 4000000 in
theorem vI (text:ByteArray) {q:(List ai)×Bool} (h:jp text=some q):aA Tryz.prog 44 [St text] (.tup [eL ai.c q.1,Bo q.2]):=by
 refine pM Tryz.func44 Z (by kernel_rfl) Z (jI (oN as' (oN as' (jA (jH (T.reserve (jC (oN (Mc.asg (hS true 0 0 4 (([]:List ai).length)) Z) (jA ?_)))))))));obtain ⟨Ks1,es1,ws1,h,ks1⟩:=sumL h;refine T.join (S:=(List ai)) (G:=(Bool×Nat)) (fun s1=>Ks1 s1=some q) (fun s1 gh=>(gh.1=true->s1=[])) (fun s1 gh=>[(4,hS gh.1 0 gh.2 4 s1.length),(0,St text)]) (fun s1 gh=>[bE gh.1 gh.2 4 133 (s1.map ai.c)]) (fun s1 gh h n25=>?_) ?_
 ·clear ks1;subst es1;obtain ⟨b24,u23⟩:=gh;refine jH (jI (oN mv (jB h fun v26 cv26 h=>oA (EvA.callT Z Z (uO s1 cv26) (.cons (Fz.own (g:=b24) (ver:=u23) (l:=s1) Z Z Z n25 ai.isF) .nil) Z) (oN mv (oN (Mc.sne Z Z) (jA ?_))))));refine jN Z h (fun q27 h=>?_) (fun q27 h=>?_)
  ·refine jI (oN as' (oN as' (jA (jK ?_))));obtain rfl:=Mg h
   repeat (first|refine cn ?_|refine cu ?_)
   exact jQ (vs:=[.nil,Bo false]) (.cons (.tmp Z) (.cons (.tmp Z) .nil)) (.tupL (.cons .nil0 (.cons (qC Z) .nil)))
  ·refine jG (jI (oN mv (oN (Mc.asg (hS b24 0 u23 4 s1.length) Z) (oN as' (jA (jK ?_))))));obtain rfl:=Mg h
   repeat (first|refine cn ?_|refine cu ?_)
   exact jQ (vs:=[hS b24 0 u23 4 s1.length,Bo true]) (.cons (.tmp Z) (.cons (.tmp Z) .nil)) (.tupL (.cons (Fz.own (g:=b24) (ver:=u23) (l:=s1) Z Z Z n25 ai.isF) (.cons (qC Z) .nil)))
 ·refine jI (oN mv (oC h (fun _=>xM _ _) Z Z Z Z fun v2 _ h=>oN (Mc.lenL zH Z) (oN mv (jA (jE ?_)))));refine jO (S:=(List ai)×Int) (G:=(Bool×Nat)) (gp v2) (fun s8 gh=>(gh.1=true->s8.1=[])) (fun s8 gh=>[(16,I s8.2),(15,I (v2.length:Int)),(14,eL cS v2),(4,hS gh.1 0 gh.2 4 s8.1.length),(0,St text)]) (fun s8 gh=>[bE gh.1 gh.2 4 133 (s8.1.map ai.c)]) (s0:=(([]:List ai),U)) (true,0) h qD (kw Z Z) (fun s8 gh ws8 h n12=>?_);obtain ⟨b11,u10⟩:=gh;refine jI (oN (Mc.ilt Z Z) (jA (jH ?_)));refine jN Z h (fun q13 h=>?_) (fun q13 h=>?_)
  ·refine jG (jH (jE (jI (jD h fun g14 h=>oN (Mc.ixL zH Z Z g14 qD) (oN (lf (St (J v2 s8.2)) ty9 Z) (oN as' (jA (jI (oN mv (oC h (fun _=>zS _ _) Z Z Z Z fun v15 _ h=>oN mv (oN (Mc.ext (St v15.1) Z Z) (oN (Mc.ext (St v15.2.1) Z Z) (oN (Mc.ext (Bo v15.2.2) Z Z) ?_)))))))))))));refine oN as' (oN as' (oN as' (jA (jI (oN (Mc.slG (c:=cS) zZ Tryz.underlying126 ty9 Z Z Z Ii) (oN mv (oC h (fun _=>gZ _ _) Z Z Z Z fun v16 _ h=>oN as' (jA (jI (oN mv (oC h (fun _=>um _) Z Z Z Z fun v17 _ h=>oN mv (oN (Mc.ext (.agg (aa.c v17.1)) Z Z) (oN (Mc.ext (Bo v17.2) Z Z) ?_)))))))))))));refine oA (EvA.al vD Z Z) (oV (sr [I v17.1.Op,St v17.1.Name,eL TXimpl_RelExpr.c v17.1.Kids] fJ Z Z Z Z) (oN as' (jA (jH (jH (T.clean (H0:=[bE b11 u10 4 133 (s8.1.map ai.c),some ⟨0,3,129,[[I v17.1.Op,St v17.1.Name,eL TXimpl_RelExpr.c v17.1.Kids]]⟩]) (e0:=au [(12,Bo v17.2),(11,.hp 1 0 3 0 0),(10,I v16),(16,I s8.2),(15,I (v2.length:Int)),(14,eL cS v2),(4,hS b11 0 u10 4 s8.1.length),(0,St text)]) Z (Mb Z (Mb Z (Mb Z (Mb Z (Mb Z (Mb Z (Mb Z (Mb Z Ma)))))))) (jC (oN mv (oN (Mc.ilt Z Z) (oN mv ?_))))))))));refine TO.jB h 3 (fun s18=>[(39,Bo s18),(11,.hp 1 0 3 0 0),(10,I v16),(16,I s8.2),(15,I (v2.length:Int)),(14,eL cS v2),(4,hS b11 0 u10 4 s8.1.length),(0,St text)]) (fun s18=>[bE b11 u10 4 133 (s8.1.map ai.c),some ⟨0,3,129,[[I v17.1.Op,St v17.1.Name,eL TXimpl_RelExpr.c v17.1.Kids]]⟩]) (fun s18 q19 h js18=>?_) (fun s18 q19 h js18=>?_) (fun s18 h=>?_)
   ·refine gS Z q19 (gS Z q19 (oN (Mc.pickT Z q19 (Bo true) Z) ?_))
    cases h
    exact js18 _ _ (kw Z Z)
   ·refine gN Z q19 mv (gN Z q19 (Mc.not Z) (oN (Mc.pickF Z q19 (Bo (!v17.2)) Z) ?_))
    cases h
    exact js18 _ _ (kw Z Z)
   ·refine jA ?_;refine jN Z h (fun q20 h=>?_) (fun q20 h=>?_)
    ·refine jI (oN as' (oN as' (jA (jK (lX h fun h=>?_)))));obtain rfl:=Mg h;replace h:=congrArg some (show _=_ from ks1);obtain rfl:=Mg h
     repeat (first|refine cn ?_|refine cu ?_)
     exact jQ (vs:=[.nil,Bo false]) (.cons (.tmp Z) (.cons (.tmp Z) .nil)) (.tupL (.cons .nil0 (.cons (qC Z) .nil)))
    ·refine jG (jC (oN mv (oN mv (oA (lh (.agg [I v17.1.Op,St v17.1.Name,eL TXimpl_RelExpr.c v17.1.Kids]) fJ Z Z Z) (oN (Mc.build [I v16,I v17.1.Op,St v17.1.Name,eL TXimpl_RelExpr.c v17.1.Kids] Tryz.underlying133 IQ EP Z Z) (oN (Mc.mkF (c:=ai.c) ([(⟨v16,(⟨v17.1.Op,v17.1.Name,v17.1.Kids⟩:aa)⟩:ai)]:List ai) [[I v16,I v17.1.Op,St v17.1.Name,eL TXimpl_RelExpr.c v17.1.Kids]] HL Z Z Z qD ai.isF Z) (jL h fun g21 h=>oA (EvA.app1 (g:=b11) (l:=s8.1) (⟨v16,(⟨v17.1.Op,v17.1.Name,v17.1.Kids⟩:aa)⟩:ai) HL (by kernel_rfl) Z Z Z n12 (bG.fz (l:=([(⟨v16,(⟨v17.1.Op,v17.1.Name,v17.1.Kids⟩:aa)⟩:ai)]:List ai)) Z qD) g21) (oN (Mc.asg (hS false 0 (u10+1) 4 ((s8.1++[(⟨v16,(⟨v17.1.Op,v17.1.Name,v17.1.Kids⟩:aa)⟩:ai)]).length)) Z) (jA (jC (jW h fun g22 h=>oN (Mc.add Z Z g22) (oN mv (jA ?_)))))))))))));obtain rfl:=Mg h;exact ⟨((s8.1++[(⟨v16,(⟨v17.1.Op,v17.1.Name,v17.1.Kids⟩:aa)⟩:ai)]),(s8.2+V)),(false,u10+1),Z,nofun,mR Z (.cons (.list (g:=false) (ver:=u10+1) (l:=(s8.1++[(⟨v16,(⟨v17.1.Op,v17.1.Name,v17.1.Kids⟩:aa)⟩:ai)])) ai.isF) .nil) (aj (.fz (qC Z)) (aj (.fz (qC Z)) (aj (.fz (qC Z)) (aj (.hS (g:=false) (b:=0) (ver:=u10+1) (s:=4) (n:=(s8.1++[(⟨v16,(⟨v17.1.Op,v17.1.Name,v17.1.Kids⟩:aa)⟩:ai)]).length) Z) (aj (.fz (qC Z)) aN)))))⟩
  ·refine jM (lX h fun h=>?_);obtain rfl:=Mg h;exact ⟨s8.1,(b11,u10),ks1,n12,kw Z Z⟩
theorem yD (name:ByteArray) {q:(List ai)×Bool} (h:kx name=some q):aA Tryz.prog 14 [St name] (.tup [eL ai.c q.1,Bo q.2]):=by
 refine pM Tryz.func14 Z (by kernel_rfl) Z (jI (oN as' (oN as' (jA (jI (oN mv (oC h (fun _=>wN _) Z Z Z Z fun v1 _ h=>oC h (fun _=>vI _) Z Z Z Z fun v2 _ h=>oN (Mc.ext (eL ai.c v2.1) Z Z) (oN (Mc.ext (Bo v2.2) Z Z) (oN as' (oN as' (jA (jK ?_))))))))))));obtain rfl:=Mg h
 repeat (first|refine cn ?_|refine cu ?_)
 exact jQ (vs:=[eL ai.c v2.1,Bo v2.2]) (.cons (.tmp Z) (.cons (.tmp Z) .nil)) (.tupL (.cons (qC Z) (.cons (qC Z) .nil)))
theorem mW (x:Mi) (loc:Int) (i:Int) (k_:Int) {q:Bool} (h:dR x loc i k_=some q):aA Tryz.prog 262 [.agg (Mi.c x),I loc,I i,I k_] (Bo q):=by
 refine pM Tryz.func262 Z (by kernel_rfl) Z (jI (oN (Mc.bxF [eL cI x.From,eL (cL cI) x.Order] Z Z Z) (oN as' (jA (jH (jP (fun _=>([],false)) (by kernel_rfl) (by kernel_rfl) (fN Z (fa wI Z) (fN Z (lf (eL (cL cI) x.Order) Dx Z) (fN Z mv (jD h fun g1 h=>fN Z (Mc.ixL xE Z Z g1 qD) (fN Z (lf (eL cI (J x.Order loc)) oH Z) (fN Z mv (fC h (fun _=>gT _ _) Z Z Z Z Z fun v2 _ h=>fN Z (fa wI Z) ?_)))))))))))));refine fN Z (lf (eL (cL cI) x.Order) Dx Z) (fN Z mv (fN Z (Mc.ixL xE Z Z g1 qD) (fN Z (lf (eL cI (J x.Order loc)) oH Z) (fN Z mv (fC h (fun _=>gT _ _) Z Z Z Z Z fun v3 _ h=>fN Z as' (fN Z as' (jR (jH (T.clean (H0:=[]) (e0:=au [(10,I v3),(9,I v2)]) Z (Mb Z (Mb Z Ma)) (jC (oN mv (oN (Mc.ige Z Z) (oN mv ?_)))))))))))));refine TO.jB h 3 (fun s4=>[(30,Bo s4),(10,I v3),(9,I v2)]) (fun s4=>[]) (fun s4 q5 h js4=>?_) (fun s4 q5 h js4=>?_) (fun s4 h=>?_)
 ·refine gN Z q5 mv (gN Z q5 (Mc.ige Z Z) (oN (Mc.pickT Z q5 (Bo (decide (U<=v3))) Z) ?_))
  cases h
  exact js4 _ _ (kw Z Z)
 ·refine gS Z q5 (gS Z q5 (oN (Mc.pickF Z q5 (Bo false) Z) ?_))
  cases h
  exact js4 _ _ (kw Z Z)
 ·refine oN mv ?_;refine TO.jB h 4 (fun s6=>[(35,Bo s6)]) (fun s6=>[]) (fun s6 q7 h js6=>?_) (fun s6 q7 h js6=>?_) (fun s6 h=>?_)
  ·refine gN Z q7 mv (gN Z q7 mv (gN Z q7 (Mc.ilt Z Z) (oN (Mc.pickT Z q7 (Bo (decide (v2<v3))) Z) ?_)))
   cases h
   exact js6 _ _ (kw Z Z)
  ·refine gS Z q7 (gS Z q7 (gS Z q7 (oN (Mc.pickF Z q7 (Bo false) Z) ?_)))
   cases h
   exact js6 _ _ (kw Z Z)
  ·refine oN as' (jA (jK ?_))
   cases h
   exact bP Z Z Z
theorem xP (y:Mh) {q:Bool} (h:p5 y=some q):aA Tryz.prog 264 [.agg (Mh.c y)] (Bo q):=by
 refine pM Tryz.func264 Z (by kernel_rfl) Z (jI (oN (Mc.bxF (Mh.c y) Z Z Z) (oN as' (jA (jI (oN (fa nE Z) (oN (lf (I y.Op) Mx Z) (oN (Mc.ieq Z Z) (oN as' (jA (jK ?_)))))))))))
 cases h
 exact bP Z Z Z
theorem dE (s:List Mh) {q:Int} (h:aW s=some q):aA Tryz.prog 283 [eL Mh.c s,.fn (.func 264) []] (I q):=by
 refine pM Tryz.func283 Z (by kernel_rfl) Z (jI (oN as' (jA ?_)));obtain ⟨Ks1,es1,ws1,h,ks1⟩:=sumL h;refine T.join (S:=Unit) (G:=Unit) (fun s1=>Ks1 s1=some q) (fun s1 gh=>True) (fun s1 gh=>[]) (fun s1 gh=>[]) (fun s1 gh h hg=>?_) ?_
 ·clear ks1;subst es1;refine jI (oN as' (jA (jK ?_)))
  cases h
  exact bP Z Z Z
 ·refine jI (oN mv (oN (Mc.lenL sG Z) (oN mv (jA (jE ?_)))));refine T.lU h (fun s4=>[(8,I s4),(7,I (s.length:Int)),(0,eL Mh.c s),(1,.fn (.func 264) [])]) (fun s4=>[]) (kw Z Z) (fun s4 ws4 h=>?_);refine jI (oN (Mc.ilt Z Z) (jA (jH ?_)));refine jN Z h (fun q6 h=>?_) (fun q6 h=>?_)
  ·refine jG (jH (jE (jI (oN mv (oN as' (jA (jI (oN mv (oN mv (oN mv (jD h fun g7 h=>oN (Mc.ixL sG Z Z g7 qD) (oN (lf (.agg (Mh.c (J s s4))) nD Z) (oC h (fun _=>xP _) Z Z Z Z fun v8 _ h=>jA ?_)))))))))))));refine jN Z h (fun q9 h=>?_) (fun q9 h=>?_)
   ·refine jI (oN mv (oN as' (jA (jK (lX h fun h=>?_)))));obtain rfl:=Mg h;replace h:=congrArg some (show _=_ from ks1)
    cases h
    exact bP Z Z Z
   ·refine jG (jC (jW h fun g10 h=>oN (Mc.add Z Z g10) (oN mv (jA ?_))));exact lE h (kw Z Z)
  ·refine jM (lX h fun h=>?_)
   cases h
   exact ⟨(),(),ks1,trivial,kw Z Z⟩
theorem da (s:List Mh) {q:Bool} (h:aD s=some q):aA Tryz.prog 263 [eL Mh.c s,.fn (.func 264) []] (Bo q):=by
 refine pM Tryz.func263 Z (by kernel_rfl) Z (jI (oN as' (jA (jI (oN mv (oN mv (oC h (fun _=>dE _) Z Z Z Z fun v1 _ h=>oN (Mc.ige Z Z) (oN as' (jA (jK ?_))))))))))
 cases h
 exact bP Z Z Z
theorem iz (e_:Mj) (writes:Bool) {q:Bool} (h:di e_ writes=some q):aA Tryz.prog 265 [.agg (Mj.c e_),Bo writes] (Bo q):=by
 refine pM Tryz.func265 Z (by kernel_rfl) Z (jI (oN (Mc.bxF [I e_.Thread,I e_.Index,I e_.Loc,Bo e_.Reads,Bo e_.db] Z Z Z) (oN as' (jA (jI (oN (fa pO Z) (oN (lf (Bo e_.db) ty4 Z) (oN mv (oN (Mc.beq bt4 Z Z) (oN mv ?_))))))))));refine TO.jB h 5 (fun s1=>[(14,Bo s1)]) (fun s1=>[]) (fun s1 q2 h js1=>?_) (fun s1 q2 h js1=>?_) (fun s1 h=>?_)
 ·refine gN Z q2 (fa pO Z) (gN Z q2 (lf (Bo e_.Reads) ty4 Z) (gN Z q2 mv (gN Z q2 (Mc.bne bt4 Z Z) (oN (Mc.pickT Z q2 (Bo (!(e_.Reads==writes))) Z) ?_))))
  cases h
  exact js1 _ _ (kw Z Z)
 ·refine gS Z q2 (gS Z q2 (gS Z q2 (gS Z q2 (oN (Mc.pickF Z q2 (Bo false) Z) ?_))))
  cases h
  exact js1 _ _ (kw Z Z)
 ·refine oN as' (jA (jK ?_))
  cases h
  exact bP Z Z Z
set_option maxHeartbeats 4000000 in
theorem zT (p:List (List Mh)) (x:Mi) (list:List Mj) (name:ByteArray) (i:Int) (k_:Int) {q:Bool} (h:o7 p x list name i k_=some q):aA Tryz.prog 219 [eL (cL Mh.c) p,.agg (Mi.c x),eL Mj.c list,St name,I i,I k_] (Bo q):=by
 refine pM Tryz.func219 Z (by kernel_rfl) Z (jI (oN (Mc.bxF [eL cI x.From,eL (cL cI) x.Order] Z Z Z) (oN as' (jA (jH (T.reserve (T.reserve (jP (dG [dF,dF,dF,dF,dF,dF,dF,dF,([0],true),([1],true),([0],true),([1],true)]) (by kernel_rfl) (by kernel_rfl) (fN Z mv (fN Z mv (jD h fun g1 h=>fN Z (Mc.ixL vF Z Z g1 qD) (fN Z (lf (.agg (Mj.c (J list i))) zG Z) (fN Z mv (fN Z mv ?_))))))))))))));refine jD h fun g2 h=>fN Z (Mc.ixL vF Z Z g2 qD) (fN Z (lf (.agg (Mj.c (J list k_))) zG Z) (fW 0 [] Z Z (fun G hG=>EvA.alR 0 Eh Z Z (hG.a0 Z)) (fW 1 [] Z Z (fun G hG=>EvA.alR 1 Eh Z Z (hG.a0 Z)) (fV 0 [] Z Z (fun G hG=>EvA.st (cs:=(Mj.c (J list i))) ⟨0,5,74,[(Mj.c (J list i))]⟩ zG Z Z (hG.a0 Z) Z Z Z Z Z Z) (fV 1 [] Z Z (fun G hG=>EvA.st (cs:=(Mj.c (J list k_))) ⟨0,5,74,[(Mj.c (J list k_))]⟩ zG Z Z (hG.a0 Z) Z Z Z Z Z Z) (jR (jI (oN (fa pO Z) (oA (lh (I ((J list i).Thread)) Mx Z Z Z) (oN (Mc.ige Z Z) (oN mv ?_)))))))))));refine TO.jB h 6 (fun s3=>[(33,Bo s3),(14,.hp 1 0 5 0 0),(13,.hp 0 0 5 0 0),(7,.fp (Mi.c x) 0),(0,eL (cL Mh.c) p),(3,St name),(4,I i),(5,I k_)]) (fun s3=>[some ⟨0,5,74,[(Mj.c (J list i))]⟩,some ⟨0,5,74,[(Mj.c (J list k_))]⟩]) (fun s3 q4 h js3=>?_) (fun s3 q4 h js3=>?_) (fun s3 h=>?_)
 ·refine gN Z q4 (fa pO Z) (gA Z q4 (lh (I ((J list i).Thread)) Mx Z Z Z) (gN Z q4 (fa pO Z) (gA Z q4 (lh (I ((J list k_).Thread)) Mx Z Z Z) (gN Z q4 (Mc.ieq Z Z) (oN (Mc.pickT Z q4 (Bo (((J list i).Thread)==((J list k_).Thread))) Z) ?_)))))
  cases h
  exact js3 _ _ (kw Z Z)
 ·refine gS Z q4 (gS Z q4 (gS Z q4 (gS Z q4 (gS Z q4 (oN (Mc.pickF Z q4 (Bo false) Z) ?_)))))
  cases h
  exact js3 _ _ (kw Z Z)
 ·refine oN mv ?_;refine TO.jB h 6 (fun s5=>[(40,Bo s5),(14,.hp 1 0 5 0 0),(13,.hp 0 0 5 0 0),(7,.fp (Mi.c x) 0),(0,eL (cL Mh.c) p),(3,St name),(4,I i),(5,I k_)]) (fun s5=>[some ⟨0,5,74,[(Mj.c (J list i))]⟩,some ⟨0,5,74,[(Mj.c (J list k_))]⟩]) (fun s5 q6 h js5=>?_) (fun s5 q6 h js5=>?_) (fun s5 h=>?_)
  ·refine gN Z q6 (fa pO Z) (gA Z q6 (lh (I ((J list i).Index)) Mx Z Z Z) (gN Z q6 (fa pO Z) (gA Z q6 (lh (I ((J list k_).Index)) Mx Z Z Z) (gN Z q6 (Mc.ilt Z Z) (oN (Mc.pickT Z q6 (Bo (decide (((J list i).Index)<((J list k_).Index)))) Z) ?_)))))
   cases h
   exact js5 _ _ (kw Z Z)
  ·refine gS Z q6 (gS Z q6 (gS Z q6 (gS Z q6 (gS Z q6 (oN (Mc.pickF Z q6 (Bo false) Z) ?_)))))
   cases h
   exact js5 _ _ (kw Z Z)
  ·refine oN as' (jA ?_);obtain ⟨Ks7,es7,ws7,h,ks7⟩:=sumL h;refine T.join (S:=Unit) (G:=Unit) (fun s7=>Ks7 s7=some q) (fun s7 gh=>True) (fun s7 gh=>[(4,I i),(5,I k_)]) (fun s7 gh=>[some ⟨0,5,74,[(Mj.c (J list i))]⟩,some ⟨0,5,74,[(Mj.c (J list k_))]⟩]) (fun s7 gh h hg=>?_) ?_
   ·clear ks7;subst es7;refine jI (oN mv (oN mv (oN (Mc.ieq Z Z) (oN as' (jA (jK ?_))))))
    cases h
    exact bP Z Z Z
   ·refine jI (oN mv (jA (jE (jI (oN (Mc.seq Z Z) (oN as' (jA ?_)))))));refine jN Z h (fun q8 h=>?_) (fun q8 h=>?_)
    ·refine jI (oN mv (oN as' (jA (jK ?_))));obtain rfl:=Mg h;replace h:=congrArg some (show _=_ from ks7)
     cases h
     exact bP Z Z Z
    ·refine jI (oN (Mc.seq Z Z) (oN as' (jA ?_)));refine jN Z h (fun q9 h=>?_) (fun q9 h=>?_)
     ·refine jI (oN (fa pO Z) (oA (lh (I ((J list i).Loc)) Mx Z Z Z) (oN (fa pO Z) (oA (lh (I ((J list k_).Loc)) Mx Z Z Z) (oN (Mc.ieq Z Z) (oN as' (jA (jK ?_))))))));obtain rfl:=Mg h;replace h:=congrArg some (show _=_ from ks7)
      cases h
      exact bP Z Z Z
     ·refine jI (oN (Mc.seq Z Z) (oN as' (jA ?_)));refine jN Z h (fun q10 h=>?_) (fun q10 h=>?_)
      ·refine jI (oN (fa pO Z) (oA (lh (I ((J list i).Thread)) Mx Z Z Z) (oN (fa pO Z) (oA (lh (I ((J list k_).Thread)) Mx Z Z Z) (oN (Mc.ine Z Z) (oN mv ?_))))));refine TO.jB h 4 (fun s11=>[(63,Bo s11)]) (fun s11=>[some ⟨0,5,74,[(Mj.c (J list i))]⟩,some ⟨0,5,74,[(Mj.c (J list k_))]⟩]) (fun s11 q12 h js11=>?_) (fun s11 q12 h js11=>?_) (fun s11 h=>?_)
       ·refine gS Z q12 (gS Z q12 (gS Z q12 (oN (Mc.pickT Z q12 (Bo true) Z) ?_)))
        cases h
        exact js11 _ _ (kw Z Z)
       ·refine gN Z q12 (fa pO Z) (gA Z q12 (lh (I ((J list i).Thread)) Mx Z Z Z) (gN Z q12 (Mc.ilt Z Z) (oN (Mc.pickF Z q12 (Bo (decide (((J list i).Thread)<U))) Z) ?_)))
        cases h
        exact js11 _ _ (kw Z Z)
       ·refine oN as' (jA (jK ?_));obtain rfl:=Mg h;replace h:=congrArg some (show _=_ from ks7)
        cases h
        exact bP Z Z Z
      ·refine jI (oN (Mc.seq Z Z) (oN as' (jA ?_)));refine jN Z h (fun q13 h=>?_) (fun q13 h=>?_)
       ·refine jI (oN (fa wI Z) (oN (lf (eL cI x.From) oH Z) (oN mv (jD h fun g14 h=>oN (Mc.ixL bf Z Z g14 qD) (oN (lf (I (J x.From k_)) Mx Z) (oN mv (oN (Mc.ieq Z Z) (oN as' (jA (jK ?_))))))))));obtain rfl:=Mg h;replace h:=congrArg some (show _=_ from ks7)
        cases h
        exact bP Z Z Z
       ·refine jI (oN (Mc.seq Z Z) (oN as' (jA ?_)));refine jN Z h (fun q15 h=>?_) (fun q15 h=>?_)
        ·refine jH (T.clean (H0:=[some ⟨0,5,74,[(Mj.c (J list i))]⟩,some ⟨0,5,74,[(Mj.c (J list k_))]⟩]) (e0:=au [(13,.hp 0 0 5 0 0),(7,.fp (Mi.c x) 0),(4,I i),(5,I k_)]) Z (Mb Z (Mb Z (Mb Z (Mb Z Ma)))) (jC (oN (lf (.agg (Mi.c x)) tG Z) (oN (fa pO Z) (oA (lh (I ((J list i).Loc)) Mx Z Z Z) (oN mv (oN mv (oC h (fun _=>mW _ _ _ _) Z Z Z Z fun v16 _ h=>oN as' (jA (jK ?_))))))))));obtain rfl:=Mg h;replace h:=congrArg some (show _=_ from ks7)
         cases h
         exact bP Z Z Z
        ·refine jI (oN (Mc.seq Z Z) (oN as' (jA ?_)));refine jN Z h (fun q17 h=>?_) (fun q17 h=>?_)
         ·refine T.jU h (fun s18=>[(12,Bo s18)]) (fun s18=>[some ⟨0,5,74,[(Mj.c (J list i))]⟩,some ⟨0,5,74,[(Mj.c (J list k_))]⟩]) (fun s18 h=>?_) (fun s18 h=>?_)
          ·refine jK ?_;obtain rfl:=Mg h;replace h:=congrArg some (show _=_ from ks7)
           cases h
           exact bP Z Z Z
          ·refine T.clean (H0:=[some ⟨0,5,74,[(Mj.c (J list i))]⟩,some ⟨0,5,74,[(Mj.c (J list k_))]⟩]) (e0:=au [(14,.hp 1 0 5 0 0),(13,.hp 0 0 5 0 0),(7,.fp (Mi.c x) 0),(4,I i),(5,I k_)]) Z (Mb Z (Mb Z (Mb Z (Mb Z (Mb Z Ma))))) (T.drawG (dG [dF,([0],false),dF,dF,([1],false),dF,dF,dF,dF,dF,dF,dF,dF,dF,([0],false),dF,dF,dF,dF,dF,dF,dF,dF,dF]) (by kernel_rfl) (by kernel_rfl) (tN Z (fa pO Z) (tR [0] Z (fun G hG=>EvA.loadhp (Bo ((J list i).Reads)) ty4 Z (hG.a0 Z) Z Z Z Z) (tN Z mv ?_))));rcases C8 h with ⟨q19,h⟩ | ⟨q19,h⟩
           ·refine My Z q19 Z (fa pO Z) (tgR Z q19 [1] Z (fun G hG=>EvA.loadhp (Bo ((J list k_).db)) ty4 Z (hG.a0 Z) Z Z Z Z) (tN Z (Mc.pickT Z q19 (Bo ((J list k_).db)) Z) (tN Z mv ?_)));rcases C8 h with ⟨q20,h⟩ | ⟨q20,h⟩
            ·refine My Z q20 Z mv (My Z q20 Z mv (My Z q20 Z (Mc.ine Z Z) (tN Z (Mc.pickT Z q20 (Bo (i != k_)) Z) (tN Z mv ?_))));rcases C8 h with ⟨q21,h⟩ | ⟨q21,h⟩
             ·refine My Z q21 Z (lf (.agg (Mi.c x)) tG Z) (My Z q21 Z (fa pO Z) (tgR Z q21 [0] Z (fun G hG=>EvA.loadhp (I ((J list i).Loc)) Mx Z (hG.a0 Z) Z Z Z Z) (My Z q21 Z (fa wI Z) (My Z q21 Z (lf (eL cI x.From) oH Z) (My Z q21 Z mv (jD h fun g22 h=>My Z q21 Z (Mc.ixL bf Z Z g22 qD) (My Z q21 Z (lf (I (J x.From i)) Mx Z) (My Z q21 Z mv (jB h fun v23 cv23 h=>My Z q21 Z (Mc.call Z Z Z (mW x ((J list i).Loc) (J x.From i) k_ cv23) Z) (tN Z (Mc.pickT Z q21 (Bo v23) Z) (tN Z as' (TG.nil ?_))))))))))))
              cases h
              exact ⟨(),trivial,kw Z Z⟩
             ·refine MB Z q21 (MB Z q21 (MB Z q21 (MB Z q21 (MB Z q21 (MB Z q21 (MB Z q21 (MB Z q21 (MB Z q21 (MB Z q21 (tN Z (Mc.pickF Z q21 (Bo false) Z) (tN Z as' (TG.nil ?_))))))))))))
              cases h
              exact ⟨(),trivial,kw Z Z⟩
            ·refine MB Z q20 (MB Z q20 (MB Z q20 (tN Z (Mc.pickF Z q20 (Bo false) Z) (tN Z mv (MB Z Z (MB Z Z (MB Z Z (MB Z Z (MB Z Z (MB Z Z (MB Z Z (MB Z Z (MB Z Z (MB Z Z (tN Z (Mc.pickF Z Z (Bo false) Z) ?_)))))))))))))));refine tN Z as' (TG.nil ?_)
             cases h
             exact ⟨(),trivial,kw Z Z⟩
           ·refine MB Z q19 (MB Z q19 (tN Z (Mc.pickF Z q19 (Bo false) Z) (tN Z mv (MB Z Z (MB Z Z (MB Z Z (tN Z (Mc.pickF Z Z (Bo false) Z) (tN Z mv (MB Z Z (MB Z Z (MB Z Z (MB Z Z (MB Z Z (MB Z Z (MB Z Z ?_)))))))))))))));refine MB Z Z (MB Z Z (MB Z Z (tN Z (Mc.pickF Z Z (Bo false) Z) (tN Z as' (TG.nil ?_)))))
            cases h
            exact ⟨(),trivial,kw Z Z⟩
         ·refine jI (oN (Mc.seq Z Z) (oN as' (jA ?_)));refine jN Z h (fun q24 h=>?_) (fun q24 h=>?_)
          ·refine T.jU h (fun s25=>[(12,Bo s25)]) (fun s25=>[some ⟨0,5,74,[(Mj.c (J list i))]⟩,some ⟨0,5,74,[(Mj.c (J list k_))]⟩]) (fun s25 h=>?_) (fun s25 h=>?_)
           ·refine jK ?_;obtain rfl:=Mg h;replace h:=congrArg some (show _=_ from ks7)
            cases h
            exact bP Z Z Z
           ·refine T.clean (H0:=[some ⟨0,5,74,[(Mj.c (J list i))]⟩,some ⟨0,5,74,[(Mj.c (J list k_))]⟩]) (e0:=au [(15,Bo s5),(14,.hp 1 0 5 0 0),(13,.hp 0 0 5 0 0),(0,eL (cL Mh.c) p)]) Z (Mb Z (Mb Z (Mb Z (Mb Z Ma)))) (T.drawG (dG [dF,dF,dF,dF,([0],false),dF,dF,dF,([0],false),dF,([1],false),dF,dF,dF,dF]) (by kernel_rfl) (by kernel_rfl) (tN Z mv (tN Z mv ?_)));rcases C8 h with ⟨q26,h⟩ | ⟨q26,h⟩
            ·refine My Z q26 Z mv (My Z q26 Z (fa pO Z) (tgR Z q26 [0] Z (fun G hG=>EvA.loadhp (I ((J list i).Thread)) Mx Z (hG.a0 Z) Z Z Z Z) (jD h fun g27 h=>My Z q26 Z (Mc.ixL lF Z Z g27 qD) (My Z q26 Z (lf (eL Mh.c (J p ((J list i).Thread))) xC Z) (My Z q26 Z (fa pO Z) (tgR Z q26 [0] Z (fun G hG=>EvA.loadhp (I ((J list i).Index)) Mx Z (hG.a0 Z) Z Z Z Z) (My Z q26 Z (fa pO Z) (tgR Z q26 [1] Z (fun G hG=>EvA.loadhp (I ((J list k_).Index)) Mx Z (hG.a0 Z) Z Z Z Z) (jD h fun g28 h=>My Z q26 Z (Mc.slL sG Z (.yes Z) (.yes Z) g28 qD) (jB h fun v29 cv29 h=>My Z q26 Z (Mc.call Z Z Z (da (((J p ((J list i).Thread)).drop ((J list i).Index).toNat).take (((J list k_).Index).toNat-((J list i).Index).toNat)) cv29) Z) (tN Z (Mc.pickT Z q26 (Bo v29) Z) (tN Z as' ?_))))))))))));refine TG.nil ?_
             cases h
             exact ⟨(),trivial,kw Z Z⟩
            ·refine MB Z q26 (MB Z q26 (MB Z q26 (MB Z q26 (MB Z q26 (MB Z q26 (MB Z q26 (MB Z q26 (MB Z q26 (MB Z q26 (MB Z q26 (tN Z (Mc.pickF Z q26 (Bo false) Z) (tN Z as' (TG.nil ?_)))))))))))))
             cases h
             exact ⟨(),trivial,kw Z Z⟩
          ·refine jH (T.clean (H0:=[some ⟨0,5,74,[(Mj.c (J list i))]⟩,some ⟨0,5,74,[(Mj.c (J list k_))]⟩]) (e0:=au [(41,St name),(14,.hp 1 0 5 0 0),(13,.hp 0 0 5 0 0),(4,I i),(5,I k_)]) Z (Mb Z (Mb Z (Mb Z (Mb Z (Mb Z Ma))))) (jC (oN (Mc.seq Z Z) (oN as' (jA ?_)))));refine jN Z h (fun q30 h=>?_) (fun q30 h=>?_)
           ·refine jI (oA (lh (.agg (Mj.c (J list i))) zG Z Z Z) (oC h (fun _=>iz _ _) Z Z Z Z fun v31 _ h=>oN mv ?_));refine TO.jB h 3 (fun s32=>[(129,Bo s32)]) (fun s32=>[some ⟨0,5,74,[(Mj.c (J list i))]⟩,some ⟨0,5,74,[(Mj.c (J list k_))]⟩]) (fun s32 q33 h js32=>?_) (fun s32 q33 h js32=>?_) (fun s32 h=>?_)
            ·refine gA Z q33 (lh (.agg (Mj.c (J list k_))) zG Z Z Z) (jB h fun v34 cv34 h=>gN Z q33 (Mc.call Z Z Z (iz (⟨(J list k_).Thread,(J list k_).Index,(J list k_).Loc,(J list k_).Reads,(J list k_).db⟩:Mj) false cv34) Z) (oN (Mc.pickT Z q33 (Bo v34) Z) ?_))
             cases h
             exact js32 _ _ (kw Z Z)
            ·refine gS Z q33 (gS Z q33 (oN (Mc.pickF Z q33 (Bo false) Z) ?_))
             cases h
             exact js32 _ _ (kw Z Z)
            ·refine oN as' (jA (jK ?_));obtain rfl:=Mg h;replace h:=congrArg some (show _=_ from ks7)
             cases h
             exact bP Z Z Z
           ·refine jI (oN (Mc.seq Z Z) (oN as' (jA ?_)));refine jN Z h (fun q35 h=>?_) (fun q35 h=>?_)
            ·refine jI (oA (lh (.agg (Mj.c (J list i))) zG Z Z Z) (oC h (fun _=>iz _ _) Z Z Z Z fun v36 _ h=>oN mv ?_));refine TO.jB h 3 (fun s37=>[(137,Bo s37)]) (fun s37=>[some ⟨0,5,74,[(Mj.c (J list i))]⟩,some ⟨0,5,74,[(Mj.c (J list k_))]⟩]) (fun s37 q38 h js37=>?_) (fun s37 q38 h js37=>?_) (fun s37 h=>?_)
             ·refine gA Z q38 (lh (.agg (Mj.c (J list k_))) zG Z Z Z) (jB h fun v39 cv39 h=>gN Z q38 (Mc.call Z Z Z (iz (⟨(J list k_).Thread,(J list k_).Index,(J list k_).Loc,(J list k_).Reads,(J list k_).db⟩:Mj) true cv39) Z) (oN (Mc.pickT Z q38 (Bo v39) Z) ?_))
              cases h
              exact js37 _ _ (kw Z Z)
             ·refine gS Z q38 (gS Z q38 (oN (Mc.pickF Z q38 (Bo false) Z) ?_))
              cases h
              exact js37 _ _ (kw Z Z)
             ·refine oN as' (jA (jK ?_));obtain rfl:=Mg h;replace h:=congrArg some (show _=_ from ks7)
              cases h
              exact bP Z Z Z
            ·refine jG ?_
             cases h
             exact ⟨(),(),ks7,trivial,kw Z Z⟩
theorem yE (i:Int) (k_:Int) (a2:List (List Mh)) (a3:Mi) (a4:List Mj) (a5:ByteArray) {q:Bool} (h:qM i k_ a2 a3 a4 a5=some q):aA Tryz.prog 218 [I i,I k_,.fp ((cL (cL Mh.c)) a2) 0,.fp (Mi.c a3) 0,.fp ((cL Mj.c) a4) 0,.fp (cS a5) 0] (Bo q):=by
 refine pM Tryz.func218 Z (by kernel_rfl) Z (jI (oN as' (jA (jI (oN (lf (eL (cL Mh.c) a2) HE Z) (oN (lf (.agg (Mi.c a3)) tG Z) (oN (lf (eL Mj.c a4) JY Z) (oN (lf (St a5) ty9 Z) (oN mv (oN mv (oC h (fun _=>zT _ _ _ _ _ _) Z Z Z Z fun v1 _ h=>oN as' (jA (jK ?_)))))))))))))
 cases h
 exact bP Z Z Z
theorem nU (n:Int) (is0:List (List Mh)) (is1:Mi) (is2:List Mj) (is3:ByteArray) {q:(LI)} (h:iO n is0 is1 is2 is3=some q):aA Tryz.prog 217 [I n,.fn (.func 218) [.fp ((cL (cL Mh.c)) is0) 0,.fp (Mi.c is1) 0,.fp ((cL Mj.c) is2) 0,.fp (cS is3) 0]] (eL cI q):=by
 refine pM Tryz.func217 Z (by kernel_rfl) Z (jI (oN as' (jA (jI (oN mv (jD h fun g1 h=>oA (EvA.mkN (c:=cI) (default:Int) bf Z Z g1 Z Z Z) (oN (Mc.asg (hS false 0 0 1 ((List.replicate n.toNat (default:Int)).length)) Z) (jA ?_))))))));refine T.jF (G:=Nat) h (fun s2 gh=>True) (fun s2 gh=>[(5,hS false 0 gh 1 s2.length)]) (fun s2 gh=>[bE false gh 1 3 (s2.map cI)]) (fun s2 u27 h hg=>?_) (fun s2 h=>?_)
 ·refine jI (oN mv (oN (Mc.asg (hS false 0 u27 1 s2.length) Z) (jA (jK ?_))));obtain rfl:=Mg h
  repeat (first|refine cn ?_|refine cu ?_)
  exact jQ (vs:=[hS false 0 u27 1 s2.length]) (.cons (.tmp Z) .nil) (Fz.own (g:=false) (ver:=u27) (l:=s2) Z Z Z nofun qD)
 ·refine jI (oN mv (oN mv (jA (jE ?_))));refine jO (S:=(LI)×Int) (G:=Nat) (gF n is0 is1 is2 is3) (fun s6 gh=>True) (fun s6 gh=>[(11,I s6.2),(10,I n),(5,hS false 0 gh 1 s6.1.length),(0,I n),(1,.fn (.func 218) [.fp ((cL (cL Mh.c)) is0) 0,.fp (Mi.c is1) 0,.fp ((cL Mj.c) is2) 0,.fp (cS is3) 0])]) (fun s6 gh=>[bE false gh 1 3 (s6.1.map cI)]) (s0:=((List.replicate n.toNat (default:Int)),U)) 0 h trivial (kw Z Z) (fun s6 u8 ws6 h hg=>?_);refine jI (oN (Mc.ilt Z Z) (jA (jH ?_)));refine jN Z h (fun q9 h=>?_) (fun q9 h=>?_)
  ·refine jG ?_;refine T.jF (G:=Nat) h (fun s10 gh=>True) (fun s10 gh=>[(11,I s6.2),(10,I n),(5,hS false 0 gh 1 s10.length),(0,I n),(1,.fn (.func 218) [.fp ((cL (cL Mh.c)) is0) 0,.fp (Mi.c is1) 0,.fp ((cL Mj.c) is2) 0,.fp (cS is3) 0])]) (fun s10 gh=>[bE false gh 1 3 (s10.map cI)]) (fun s10 u25 h hg=>?_) (fun s10 h=>?_)
   ·refine jC (jW h fun g26 h=>oN (Mc.add Z Z g26) (oN mv (jA ?_)));obtain rfl:=Mg h;exact ⟨(s10,(s6.2+V)),u25,Z,trivial,kw Z Z⟩
   ·refine jE (jI (oN mv (oN as' (jA (jI (oN mv (oN mv (jA (jE ?_)))))))));refine jO (S:=(LI)×Int) (G:=Nat) (fU n is0 is1 is2 is3 s6) (fun s14 gh=>True) (fun s14 gh=>[(15,I s14.2),(14,I n),(6,I s6.2),(11,I s6.2),(10,I n),(5,hS false 0 gh 1 s14.1.length),(0,I n),(1,.fn (.func 218) [.fp ((cL (cL Mh.c)) is0) 0,.fp (Mi.c is1) 0,.fp ((cL Mj.c) is2) 0,.fp (cS is3) 0])]) (fun s14 gh=>[bE false gh 1 3 (s14.1.map cI)]) (s0:=(s6.1,U)) u8 h trivial (kw Z Z) (fun s14 u16 ws14 h hg=>?_);refine jI (oN (Mc.ilt Z Z) (jA (jH ?_)));refine jN Z h (fun q17 h=>?_) (fun q17 h=>?_)
    ·refine jG ?_;refine T.jF (G:=Nat) h (fun s18 gh=>True) (fun s18 gh=>[(15,I s14.2),(14,I n),(6,I s6.2),(11,I s6.2),(10,I n),(5,hS false 0 gh 1 s18.length),(0,I n),(1,.fn (.func 218) [.fp ((cL (cL Mh.c)) is0) 0,.fp (Mi.c is1) 0,.fp ((cL Mj.c) is2) 0,.fp (cS is3) 0])]) (fun s18 gh=>[bE false gh 1 3 (s18.map cI)]) (fun s18 u23 h hg=>?_) (fun s18 h=>?_)
     ·refine jC (jW h fun g24 h=>oN (Mc.add Z Z g24) (oN mv (jA ?_)));obtain rfl:=Mg h;exact ⟨(s18,(s14.2+V)),u23,Z,trivial,kw Z Z⟩
     ·refine jE (jI (oN mv (oN as' (jA (jI (oN mv (oN mv (oN mv (oC h (fun _=>yE _ _ _ _ _ _) Z Z Z Z fun v19 _ h=>jA ?_)))))))));refine jN Z h (fun q20 h=>?_) (fun q20 h=>?_)
      ·refine jP (dG [dF,dF,dF,([0],false),dF,dF,dF,dF,([0],true)]) (by kernel_rfl) (by kernel_rfl) (fN Z mv (fN Z mv (jD h fun g21 h=>fN Z (Mc.ixO (g:=false) bf Z Z nofun g21) (fR [0] Z (fun G hG=>EvA.ldO (g:=false) (l:=s14.1) (I (J s14.1 s6.2)) Mx Z (hG.a0 Z) nofun (ay Z g21) Z) (fN Z mv (jD h fun g22 h=>fN Z (Mc.shl Z Z g22) (fN Z (Mc.bor Z Z) (fN Z (Mc.ixO (g:=false) bf Z Z nofun g21) (fV 0 [] Z Z (fun G hG=>EvA.stO (g:=false) (l:=s14.1) (cs:=[I (bOr .i64 (J s14.1 s6.2) (FD .i64 V s14.2))]) (bOr .i64 (J s14.1 s6.2) (FD .i64 V s14.2)) Mx Z Z (hG.a0 Z) nofun (ay Z g21) Z Z Z) (jR ?_))))))))));obtain rfl:=Mg h;exact ⟨u16,trivial,yc Z (Mb Z (Mb Z (Mb Z (Mb Z (Mb Z (Mb (congrArg (hS false 0 u16 1) (by simp:s14.1.length=(s14.1.set s6.2.toNat (bOr .i64 (J s14.1 s6.2) (FD .i64 (1:Int) s14.2))).length)) (Mb Z (Mb Z Ma))))))))⟩
      ·refine jG ?_
       cases h
       exact ⟨u16,trivial,kw Z Z⟩
    ·refine jM (lX h fun h=>?_)
     cases h
     exact ⟨u16,trivial,kw Z Z⟩
  ·refine jM (lX h fun h=>?_)
   cases h
   exact ⟨u8,trivial,kw Z Z⟩
theorem Ah (p:List (List Mh)) (x:Mi) (name:ByteArray) {q:(LI)} (h:gX p x name=some q):aA Tryz.prog 160 [eL (cL Mh.c) p,.agg (Mi.c x),St name] (eL cI q):=by
 refine pM Tryz.func160 Z (by kernel_rfl) Z (jI (oN (Mc.bxF [eL (cL Mh.c) p] Z Z Z) (oN (Mc.bxF [eL cI x.From,eL (cL cI) x.Order] Z Z Z) (oN (Mc.bxF [St name] Z Z Z) (oN as' (jA (jI (oN (lf (eL (cL Mh.c) p) HE Z) (oC h (fun _=>jl _) Z Z Z Z fun v1 _ h=>oA (EvA.al LZ Z Z) (oV (sr [eL Mj.c v1] JY Z Z Z Z) (TO.cut (e0:=au [(7,.fp ((cL Mj.c) v1) 0),(5,.fp (cS name) 0),(4,.fp (Mi.c x) 0),(3,.fp ((cL (cL Mh.c)) p) 0)]) (H0:=[]) (mR Z .nil (aj (.fz (Fz.fpL (ver:=0) (s:=1) (ty:=71) (rows:=[[eL Mj.c v1]]) Z Z Z (.cons (qC Z) .nil))) (aj (.fz (qC Z)) (aj (.fz (qC Z)) (aj (.fz (qC Z)) aN))))) (jA (jI (oN (lf (eL Mj.c v1) JY Z) ?_))))))))))))));refine oN (Mc.lenL vF Z) (oN (Mc.mkfn [.fp ((cL (cL Mh.c)) p) 0,.fp (Mi.c x) 0,.fp ((cL Mj.c) v1) 0,.fp (cS name) 0] Z Z) (oC h (fun _=>nU _ _ _ _ _) Z Z Z Z fun v2 _ h=>oN as' (jA (jK ?_))))
 cases h
 exact bP Z Z Z
theorem vJ (x:Int) (a1:LI) {q:Bool} (h:ni x a1=some q):aA Tryz.prog 250 [I x,.fp ((cL cI) a1) 0] (Bo q):=by
 refine pM Tryz.func250 Z (by kernel_rfl) Z (jI (oN as' (jA (jI (oN mv (oN (Mc.ilt Z Z) (oN mv ?_)))))));refine TO.jB h 6 (fun s1=>[(12,Bo s1)]) (fun s1=>[]) (fun s1 q2 h js1=>?_) (fun s1 q2 h js1=>?_) (fun s1 h=>?_)
 ·refine gS Z q2 (gS Z q2 (gS Z q2 (gS Z q2 (gS Z q2 (oN (Mc.pickT Z q2 (Bo true) Z) ?_)))))
  cases h
  exact js1 _ _ (kw Z Z)
 ·refine gN Z q2 mv (gN Z q2 (lf (eL cI a1) oH Z) (gN Z q2 (Mc.lenL bf Z) (jD h fun g3 h=>gN Z q2 (Mc.shr Z Z g3) (gN Z q2 (Mc.igt Z Z) (oN (Mc.pickF Z q2 (Bo (decide (U<(dH .i64 x (a1.length:Int))))) Z) ?_)))))
  cases h
  exact js1 _ _ (kw Z Z)
 ·refine oN as' (jA (jK ?_))
  cases h
  exact bP Z Z Z
theorem gW (s:LI) (f0:LI) {q:Int} (h:bv s f0=some q):aA Tryz.prog 189 [eL cI s,.fn (.func 250) [.fp ((cL cI) f0) 0]] (I q):=by
 refine pM Tryz.func189 Z (by kernel_rfl) Z (jI (oN as' (jA ?_)));obtain ⟨Ks1,es1,ws1,h,ks1⟩:=sumL h;refine T.join (S:=Unit) (G:=Unit) (fun s1=>Ks1 s1=some q) (fun s1 gh=>True) (fun s1 gh=>[]) (fun s1 gh=>[]) (fun s1 gh h hg=>?_) ?_
 ·clear ks1;subst es1;refine jI (oN as' (jA (jK ?_)))
  cases h
  exact bP Z Z Z
 ·refine jI (oN mv (oN (Mc.lenL bf Z) (oN mv (jA (jE ?_)))));refine T.lU h (fun s4=>[(8,I s4),(7,I (s.length:Int)),(0,eL cI s),(1,.fn (.func 250) [.fp ((cL cI) f0) 0])]) (fun s4=>[]) (kw Z Z) (fun s4 ws4 h=>?_);refine jI (oN (Mc.ilt Z Z) (jA (jH ?_)));refine jN Z h (fun q6 h=>?_) (fun q6 h=>?_)
  ·refine jG (jH (jE (jI (oN mv (oN as' (jA (jI (oN mv (oN mv (oN mv (jD h fun g7 h=>oN (Mc.ixL bf Z Z g7 qD) (oN (lf (I (J s s4)) Mx Z) (oC h (fun _=>vJ _ _) Z Z Z Z fun v8 _ h=>jA ?_)))))))))))));refine jN Z h (fun q9 h=>?_) (fun q9 h=>?_)
   ·refine jI (oN mv (oN as' (jA (jK (lX h fun h=>?_)))));obtain rfl:=Mg h;replace h:=congrArg some (show _=_ from ks1)
    cases h
    exact bP Z Z Z
   ·refine jG (jC (jW h fun g10 h=>oN (Mc.add Z Z g10) (oN mv (jA ?_))));exact lE h (kw Z Z)
  ·refine jM (lX h fun h=>?_)
   cases h
   exact ⟨(),(),ks1,trivial,kw Z Z⟩
theorem fK (s:LI) (f0:LI) {q:Bool} (h:bh s f0=some q):aA Tryz.prog 249 [eL cI s,.fn (.func 250) [.fp ((cL cI) f0) 0]] (Bo q):=by
 refine pM Tryz.func249 Z (by kernel_rfl) Z (jI (oN as' (jA (jI (oN mv (oN mv (oC h (fun _=>gW _ _) Z Z Z Z fun v1 _ h=>oN (Mc.ige Z Z) (oN as' (jA (jK ?_))))))))))
 cases h
 exact bP Z Z Z
theorem eH (r_:LI) {q:Bool} (h:cE r_=some q):aA Tryz.prog 198 [eL cI r_] (Bo q):=by
 refine pM Tryz.func198 Z (by kernel_rfl) Z (jI (oN (Mc.bxF [eL cI r_] Z Z Z) (oN as' (jA (jI (oN (lf (eL cI r_) oH Z) (oN (Mc.lenL bf Z) (oN (Mc.ile Z Z) (oN mv ?_)))))))));refine TO.jB h 5 (fun s1=>[(11,Bo s1)]) (fun s1=>[]) (fun s1 q2 h js1=>?_) (fun s1 q2 h js1=>?_) (fun s1 h=>?_)
 ·refine gN Z q2 (lf (eL cI r_) oH Z) (gN Z q2 (Mc.mkfn [.fp ((cL cI) r_) 0] Z Z) (jB h fun v3 cv3 h=>gN Z q2 (Mc.call Z Z Z (fK r_ r_ cv3) Z) (gN Z q2 (Mc.not Z) (oN (Mc.pickT Z q2 (Bo (!v3)) Z) ?_))))
  cases h
  exact js1 _ _ (kw Z Z)
 ·refine gS Z q2 (gS Z q2 (gS Z q2 (gS Z q2 (oN (Mc.pickF Z q2 (Bo false) Z) ?_))))
  cases h
  exact js1 _ _ (kw Z Z)
 ·refine oN as' (jA (jK ?_))
  cases h
  exact bP Z Z Z
theorem kQ (r_:LI) (i:Int) (k_:Int) {q:Bool} (h:fS r_ i k_=some q):aA Tryz.prog 221 [eL cI r_,I i,I k_] (Bo q):=by
 refine pM Tryz.func221 Z (by kernel_rfl) Z (jI (oN as' (jA (jI (oN mv (oN mv (jD h fun g1 h=>oN (Mc.ixL bf Z Z g1 qD) (oN (lf (I (J r_ i)) Mx Z) (oN mv (jD h fun g2 h=>oN (Mc.shr Z Z g2) (oN (Mc.band Z Z) (oN (Mc.ieq Z Z) (oN as' ?_)))))))))))));refine jA (jK ?_)
 cases h
 exact bP Z Z Z
theorem ut (i:Int) (k_:Int) (a2:LI) {q:Bool} (h:kX i k_ a2=some q):aA Tryz.prog 220 [I i,I k_,.fp ((cL cI) a2) 0] (Bo q):=by
 refine pM Tryz.func220 Z (by kernel_rfl) Z (jI (oN as' (jA (jI (oN (lf (eL cI a2) oH Z) (oN mv (oN mv (oC h (fun _=>kQ _ _ _) Z Z Z Z fun v1 _ h=>oN as' (jA (jK ?_))))))))))
 cases h
 exact bP Z Z Z
theorem lm (n:Int) (is0:LI) {q:(LI)} (h:fH n is0=some q):aA Tryz.prog 217 [I n,.fn (.func 220) [.fp ((cL cI) is0) 0]] (eL cI q):=by
 refine pM Tryz.func217 Z (by kernel_rfl) Z (jI (oN as' (jA (jI (oN mv (jD h fun g1 h=>oA (EvA.mkN (c:=cI) (default:Int) bf Z Z g1 Z Z Z) (oN (Mc.asg (hS false 0 0 1 ((List.replicate n.toNat (default:Int)).length)) Z) (jA ?_))))))));refine T.jF (G:=Nat) h (fun s2 gh=>True) (fun s2 gh=>[(5,hS false 0 gh 1 s2.length)]) (fun s2 gh=>[bE false gh 1 3 (s2.map cI)]) (fun s2 u27 h hg=>?_) (fun s2 h=>?_)
 ·refine jI (oN mv (oN (Mc.asg (hS false 0 u27 1 s2.length) Z) (jA (jK ?_))));obtain rfl:=Mg h
  repeat (first|refine cn ?_|refine cu ?_)
  exact jQ (vs:=[hS false 0 u27 1 s2.length]) (.cons (.tmp Z) .nil) (Fz.own (g:=false) (ver:=u27) (l:=s2) Z Z Z nofun qD)
 ·refine jI (oN mv (oN mv (jA (jE ?_))));refine jO (S:=(LI)×Int) (G:=Nat) (eD n is0) (fun s6 gh=>True) (fun s6 gh=>[(11,I s6.2),(10,I n),(5,hS false 0 gh 1 s6.1.length),(0,I n),(1,.fn (.func 220) [.fp ((cL cI) is0) 0])]) (fun s6 gh=>[bE false gh 1 3 (s6.1.map cI)]) (s0:=((List.replicate n.toNat (default:Int)),U)) 0 h trivial (kw Z Z) (fun s6 u8 ws6 h hg=>?_);refine jI (oN (Mc.ilt Z Z) (jA (jH ?_)));refine jN Z h (fun q9 h=>?_) (fun q9 h=>?_)
  ·refine jG ?_;refine T.jF (G:=Nat) h (fun s10 gh=>True) (fun s10 gh=>[(11,I s6.2),(10,I n),(5,hS false 0 gh 1 s10.length),(0,I n),(1,.fn (.func 220) [.fp ((cL cI) is0) 0])]) (fun s10 gh=>[bE false gh 1 3 (s10.map cI)]) (fun s10 u25 h hg=>?_) (fun s10 h=>?_)
   ·refine jC (jW h fun g26 h=>oN (Mc.add Z Z g26) (oN mv (jA ?_)));obtain rfl:=Mg h;exact ⟨(s10,(s6.2+V)),u25,Z,trivial,kw Z Z⟩
   ·refine jE (jI (oN mv (oN as' (jA (jI (oN mv (oN mv (jA (jE ?_)))))))));refine jO (S:=(LI)×Int) (G:=Nat) (dS n is0 s6) (fun s14 gh=>True) (fun s14 gh=>[(15,I s14.2),(14,I n),(6,I s6.2),(11,I s6.2),(10,I n),(5,hS false 0 gh 1 s14.1.length),(0,I n),(1,.fn (.func 220) [.fp ((cL cI) is0) 0])]) (fun s14 gh=>[bE false gh 1 3 (s14.1.map cI)]) (s0:=(s6.1,U)) u8 h trivial (kw Z Z) (fun s14 u16 ws14 h hg=>?_);refine jI (oN (Mc.ilt Z Z) (jA (jH ?_)));refine jN Z h (fun q17 h=>?_) (fun q17 h=>?_)
    ·refine jG ?_;refine T.jF (G:=Nat) h (fun s18 gh=>True) (fun s18 gh=>[(15,I s14.2),(14,I n),(6,I s6.2),(11,I s6.2),(10,I n),(5,hS false 0 gh 1 s18.length),(0,I n),(1,.fn (.func 220) [.fp ((cL cI) is0) 0])]) (fun s18 gh=>[bE false gh 1 3 (s18.map cI)]) (fun s18 u23 h hg=>?_) (fun s18 h=>?_)
     ·refine jC (jW h fun g24 h=>oN (Mc.add Z Z g24) (oN mv (jA ?_)));obtain rfl:=Mg h;exact ⟨(s18,(s14.2+V)),u23,Z,trivial,kw Z Z⟩
     ·refine jE (jI (oN mv (oN as' (jA (jI (oN mv (oN mv (oN mv (oC h (fun _=>ut _ _ _) Z Z Z Z fun v19 _ h=>jA ?_)))))))));refine jN Z h (fun q20 h=>?_) (fun q20 h=>?_)
      ·refine jP (dG [dF,dF,dF,([0],false),dF,dF,dF,dF,([0],true)]) (by kernel_rfl) (by kernel_rfl) (fN Z mv (fN Z mv (jD h fun g21 h=>fN Z (Mc.ixO (g:=false) bf Z Z nofun g21) (fR [0] Z (fun G hG=>EvA.ldO (g:=false) (l:=s14.1) (I (J s14.1 s6.2)) Mx Z (hG.a0 Z) nofun (ay Z g21) Z) (fN Z mv (jD h fun g22 h=>fN Z (Mc.shl Z Z g22) (fN Z (Mc.bor Z Z) (fN Z (Mc.ixO (g:=false) bf Z Z nofun g21) (fV 0 [] Z Z (fun G hG=>EvA.stO (g:=false) (l:=s14.1) (cs:=[I (bOr .i64 (J s14.1 s6.2) (FD .i64 V s14.2))]) (bOr .i64 (J s14.1 s6.2) (FD .i64 V s14.2)) Mx Z Z (hG.a0 Z) nofun (ay Z g21) Z Z Z) (jR ?_))))))))));obtain rfl:=Mg h;exact ⟨u16,trivial,yc Z (Mb Z (Mb Z (Mb Z (Mb Z (Mb Z (Mb (congrArg (hS false 0 u16 1) (by simp:s14.1.length=(s14.1.set s6.2.toNat (bOr .i64 (J s14.1 s6.2) (FD .i64 (1:Int) s14.2))).length)) (Mb Z (Mb Z Ma))))))))⟩
      ·refine jG ?_
       cases h
       exact ⟨u16,trivial,kw Z Z⟩
    ·refine jM (lX h fun h=>?_)
     cases h
     exact ⟨u16,trivial,kw Z Z⟩
  ·refine jM (lX h fun h=>?_)
   cases h
   exact ⟨u8,trivial,kw Z Z⟩
theorem vK (r_:LI) {q:(LI)} (h:jq r_=some q):aA Tryz.prog 161 [eL cI r_] (eL cI q):=by
 refine pM Tryz.func161 Z (by kernel_rfl) Z (jI (oN (Mc.bxF [eL cI r_] Z Z Z) (oN as' (jA (jH (jI (oN (lf (eL cI r_) oH Z) (oC h (fun _=>eH _) Z Z Z Z fun v1 _ h=>oN (Mc.not Z) (jA ?_)))))))));refine jN Z h (fun q2 h=>?_) (fun q2 h=>?_)
 ·refine jI (oN as' (jA (jK ?_)));obtain rfl:=Mg h
  repeat (first|refine cn ?_|refine cu ?_)
  exact jQ (vs:=[.nil]) (.cons (.tmp Z) .nil) .nil0
 ·refine jG (jI (oN (lf (eL cI r_) oH Z) (oN (Mc.lenL bf Z) (oN (Mc.mkfn [.fp ((cL cI) r_) 0] Z Z) (oC h (fun _=>lm _ _) Z Z Z Z fun v3 _ h=>oN as' (jA (jK ?_)))))))
  cases h
  exact bP Z Z Z
set_option maxHeartbeats 4000000 in
theorem qo (r_:LI) {q:(LI)} (h:gG r_=some q):aA Tryz.prog 162 [eL cI r_] (eL cI q):=by
 refine pM Tryz.func162 Z (by kernel_rfl) Z (jI (oN as' (jA (jH (jI (oN mv (oC h (fun _=>eH _) Z Z Z Z fun v1 _ h=>oN (Mc.not Z) (jA ?_))))))));refine jN Z h (fun q2 h=>?_) (fun q2 h=>?_)
 ·refine jI (oN as' (jA (jK ?_)));obtain rfl:=Mg h
  repeat (first|refine cn ?_|refine cu ?_)
  exact jQ (vs:=[.nil]) (.cons (.tmp Z) .nil) .nil0
 ·refine jG (jI (oN mv (jB h fun v3 cv3 h=>?_)));refine oG Z Z Z ((kF r_ cv3).own Z (wz qD) zm 0 Z) (fun g4 v5 n6=>?_);refine oN (Mc.asg (hS g4 0 v5 1 v3.length) Z) (jA ?_);refine T.jF (G:=(Bool×Nat)) h (fun s7 gh=>(gh.1=true->s7=[])) (fun s7 gh=>[(3,hS gh.1 0 gh.2 1 s7.length)]) (fun s7 gh=>[bE gh.1 gh.2 1 3 (s7.map cI)]) (fun s7 gh h n49=>?_) (fun s7 h=>?_)
  ·obtain ⟨b48,u47⟩:=gh;refine jI (oN mv (oN (Mc.asg (hS b48 0 u47 1 s7.length) Z) (jA (jK ?_))));obtain rfl:=Mg h
   repeat (first|refine cn ?_|refine cu ?_)
   exact jQ (vs:=[hS b48 0 u47 1 s7.length]) (.cons (.tmp Z) .nil) (Fz.own (g:=b48) (ver:=u47) (l:=s7) Z Z Z n49 qD)
  ·refine jI (oN mv (oN (Mc.lenO (g:=g4) bf Z (Bi (fun x=>List.eq_nil_of_length_eq_zero (n6 x)) Z)) (oN mv (jA (jE ?_)))));refine jO (S:=(LI)×Int) (G:=(Bool×Nat)) (iW v3) (fun s16 gh=>(gh.1=true->s16.1=[])) (fun s16 gh=>[(13,I s16.2),(12,I (v3.length:Int)),(3,hS gh.1 0 gh.2 1 s16.1.length)]) (fun s16 gh=>[bE gh.1 gh.2 1 3 (s16.1.map cI)]) (s0:=(v3,U)) (g4,v5) h (fun x=>List.eq_nil_of_length_eq_zero (n6 x)) (kw Z Z) (fun s16 gh ws16 h n20=>?_);obtain ⟨b19,u18⟩:=gh;refine jI (oN (Mc.ilt Z Z) (jA (jH ?_)));refine jN Z h (fun q21 h=>?_) (fun q21 h=>?_)
   ·refine jG ?_;refine T.jF (G:=(Bool×Nat)) h (fun s22 gh=>(gh.1=true->s22=[])) (fun s22 gh=>[(13,I s16.2),(12,I (v3.length:Int)),(3,hS gh.1 0 gh.2 1 s22.length)]) (fun s22 gh=>[bE gh.1 gh.2 1 3 (s22.map cI)]) (fun s22 gh h n45=>?_) (fun s22 h=>?_)
    ·obtain ⟨b44,u43⟩:=gh;refine jC (jW h fun g46 h=>oN (Mc.add Z Z g46) (oN mv (jA ?_)));obtain rfl:=Mg h;exact ⟨(s22,(s16.2+V)),(b44,u43),Z,n45,kw Z Z⟩
    ·refine jE (jI (oN mv (oN as' (jA (jI (oN mv (oN (Mc.lenO (g:=b19) bf Z (Bi n20 Z)) (oN mv (jA (jE ?_))))))))));refine jO (S:=(LI)×Int) (G:=(Bool×Nat)) (iV s16) (fun s28 gh=>(gh.1=true->s28.1=[])) (fun s28 gh=>[(18,I s28.2),(17,I (s16.1.length:Int)),(4,I s16.2),(13,I s16.2),(12,I (v3.length:Int)),(3,hS gh.1 0 gh.2 1 s28.1.length)]) (fun s28 gh=>[bE gh.1 gh.2 1 3 (s28.1.map cI)]) (s0:=(s16.1,U)) (b19,u18) h n20 (kw Z Z) (fun s28 gh ws28 h n32=>?_);obtain ⟨b31,u30⟩:=gh;refine jI (oN (Mc.ilt Z Z) (jA (jH ?_)));refine jN Z h (fun q33 h=>?_) (fun q33 h=>?_)
     ·refine jG ?_;refine T.jF (G:=(Bool×Nat)) h (fun s34 gh=>(gh.1=true->s34=[])) (fun s34 gh=>[(18,I s28.2),(17,I (s16.1.length:Int)),(4,I s16.2),(13,I s16.2),(12,I (v3.length:Int)),(3,hS gh.1 0 gh.2 1 s34.length)]) (fun s34 gh=>[bE gh.1 gh.2 1 3 (s34.map cI)]) (fun s34 gh h n41=>?_) (fun s34 h=>?_)
      ·obtain ⟨b40,u39⟩:=gh;refine jC (jW h fun g42 h=>oN (Mc.add Z Z g42) (oN mv (jA ?_)));obtain rfl:=Mg h;exact ⟨(s34,(s28.2+V)),(b40,u39),Z,n41,kw Z Z⟩
      ·refine jE (jI (oN mv (oN as' (jA (jI (oN mv (oN mv (oN mv (jB h fun v35 cv35 h=>oA (EvA.callT Z Z (kQ s28.1 s28.2 s16.2 cv35) (.cons (Fz.own (g:=b31) (ver:=u30) (l:=s28.1) Z Z Z n32 qD) (.cons (qC Z) (.cons (qC Z) .nil))) Z) (jA ?_))))))))));refine jN Z h (fun q36 h=>?_) (fun q36 h=>?_)
       ·refine T.drawH (dG [dF,dF,dF,([0],false),dF,dF,dF,([0],false),dF,dF,([0],true)]) (by kernel_rfl) (by kernel_rfl) (fN Z mv (fN Z mv (jD h fun g37 h=>?_)));obtain rfl:=Ar n32 rfl g37;refine fN Z (Mc.ixO (g:=false) bf Z Z nofun g37) (fR [0] Z (fun G hG=>EvA.ldO (g:=false) (l:=s28.1) (I (J s28.1 s28.2)) Mx Z (hG.a0 Z) nofun (ay Z g37) Z) (fN Z mv (fN Z mv (jD h fun g38 h=>fN Z (Mc.ixO (g:=false) bf Z Z nofun g38) (fR [0] Z (fun G hG=>EvA.ldO (g:=false) (l:=s28.1) (I (J s28.1 s16.2)) Mx Z (hG.a0 Z) nofun (ay Z g38) Z) (fN Z (Mc.bor Z Z) (fN Z (Mc.ixO (g:=false) bf Z Z nofun g37) (fV 0 [] Z Z (fun G hG=>EvA.stO (g:=false) (l:=s28.1) (cs:=[I (bOr .i64 (J s28.1 s28.2) (J s28.1 s16.2))]) (bOr .i64 (J s28.1 s28.2) (J s28.1 s16.2)) Mx Z Z (hG.a0 Z) nofun (ay Z g37) Z Z Z) (jR ?_)))))))));obtain rfl:=Mg h;exact ⟨(false,u30),nofun,yc Z (Mb Z (Mb Z (Mb Z (Mb Z (Mb Z (Mb (congrArg (hS false 0 u30 1) (by simp:s28.1.length=(s28.1.set s28.2.toNat (bOr .i64 (J s28.1 s28.2) (J s28.1 s16.2))).length)) Ma))))))⟩
       ·refine jG ?_
        cases h
        exact ⟨(b31,u30),n32,kw Z Z⟩
     ·refine jM (lX h fun h=>?_)
      cases h
      exact ⟨(b31,u30),n32,kw Z Z⟩
   ·refine jM (lX h fun h=>?_)
    cases h
    exact ⟨(b19,u18),n20,kw Z Z⟩
theorem kR (a:LI) (b:LI) {q:Bool} (h:eF a b=some q):aA Tryz.prog 226 [eL cI a,eL cI b] (Bo q):=by
 refine pM Tryz.func226 Z (by kernel_rfl) Z (jI (oN as' (jA (jI (oN mv (oN (Mc.lenL bf Z) (oN mv (oN (Mc.lenL bf Z) (oN (Mc.ieq Z Z) (oN mv ?_))))))))));refine TO.jB h 3 (fun s1=>[(13,Bo s1),(1,eL cI b)]) (fun s1=>[]) (fun s1 q2 h js1=>?_) (fun s1 q2 h js1=>?_) (fun s1 h=>?_)
 ·refine gN Z q2 mv (jB h fun v3 cv3 h=>gN Z q2 (Mc.call Z Z Z (eH a cv3) Z) (oN (Mc.pickT Z q2 (Bo v3) Z) ?_))
  cases h
  exact js1 _ _ (kw Z Z)
 ·refine gS Z q2 (gS Z q2 (oN (Mc.pickF Z q2 (Bo false) Z) ?_))
  cases h
  exact js1 _ _ (kw Z Z)
 ·refine oN mv ?_;refine TO.jB h 3 (fun s4=>[(17,Bo s4)]) (fun s4=>[]) (fun s4 q5 h js4=>?_) (fun s4 q5 h js4=>?_) (fun s4 h=>?_)
  ·refine gN Z q5 mv (jB h fun v6 cv6 h=>gN Z q5 (Mc.call Z Z Z (eH b cv6) Z) (oN (Mc.pickT Z q5 (Bo v6) Z) ?_))
   cases h
   exact js4 _ _ (kw Z Z)
  ·refine gS Z q5 (gS Z q5 (oN (Mc.pickF Z q5 (Bo false) Z) ?_))
   cases h
   exact js4 _ _ (kw Z Z)
  ·refine oN as' (jA (jK ?_))
   cases h
   exact bP Z Z Z
theorem vL (x:Int) (y:Int) {q:Int} (h:nu x y=some q):aA Tryz.prog 223 [I x,I y] (I q):=by
 refine pM Tryz.func223 Z (by kernel_rfl) Z (jI (oN as' (jA (jI (oN mv (oN mv (oN (Mc.bor Z Z) (oN as' (jA (jK ?_))))))))))
 cases h
 exact bP Z Z Z
theorem lH (a:LI) (b:LI) {q:(LI)} (h:fZ a b=some q):aA Tryz.prog 222 [eL cI a,eL cI b,.fn (.func 223) []] (eL cI q):=by
 refine pM Tryz.func222 Z (by kernel_rfl) Z (jI (oN as' (jA (jH (jI (oN mv (oN mv (oC h (fun _=>kR _ _) Z Z Z Z fun v1 _ h=>oN (Mc.not Z) (jA ?_)))))))));refine jN Z h (fun q2 h=>?_) (fun q2 h=>?_)
 ·refine jI (oN as' (jA (jK ?_)));obtain rfl:=Mg h
  repeat (first|refine cn ?_|refine cu ?_)
  exact jQ (vs:=[.nil]) (.cons (.tmp Z) .nil) .nil0
 ·refine jG (jI (oN mv (oN (Mc.lenL bf Z) (jD h fun g3 h=>oA (EvA.mkN (c:=cI) (default:Int) bf Z Z g3 Z Z Z) (oN (Mc.asg (hS false 0 0 1 ((List.replicate (a.length:Int).toNat (default:Int)).length)) Z) (jA ?_))))));refine T.jF (G:=Nat) h (fun s4 gh=>True) (fun s4 gh=>[(7,hS false 0 gh 1 s4.length)]) (fun s4 gh=>[bE false gh 1 3 (s4.map cI)]) (fun s4 u17 h hg=>?_) (fun s4 h=>?_)
  ·refine jI (oN mv (oN (Mc.asg (hS false 0 u17 1 s4.length) Z) (jA (jK ?_))));obtain rfl:=Mg h
   repeat (first|refine cn ?_|refine cu ?_)
   exact jQ (vs:=[hS false 0 u17 1 s4.length]) (.cons (.tmp Z) .nil) (Fz.own (g:=false) (ver:=u17) (l:=s4) Z Z Z nofun qD)
  ·refine jI (oN mv (oN (Mc.lenL bf Z) (oN mv (jA (jE ?_)))));refine jO (S:=(LI)×Int) (G:=Nat) (eQ a b) (fun s8 gh=>True) (fun s8 gh=>[(18,I s8.2),(17,I (a.length:Int)),(7,hS false 0 gh 1 s8.1.length),(0,eL cI a),(1,eL cI b),(2,.fn (.func 223) [])]) (fun s8 gh=>[bE false gh 1 3 (s8.1.map cI)]) (s0:=((List.replicate (a.length:Int).toNat (default:Int)),U)) 0 h trivial (kw Z Z) (fun s8 u10 ws8 h hg=>?_);refine jI (oN (Mc.ilt Z Z) (jA (jH ?_)));refine jN Z h (fun q11 h=>?_) (fun q11 h=>?_)
   ·refine jG (jH (jE (jI (oN mv (oN as' (jA (jP (dG [dF,dF,dF,dF,dF,dF,dF,dF,dF,dF,dF,dF,dF,([0],true)]) (by kernel_rfl) (by kernel_rfl) (fN Z mv (fN Z mv (fN Z mv (fN Z mv (fN Z mv (jD h fun g12 h=>fN Z (Mc.ixL bf Z Z g12 qD) (fN Z (lf (I (J a s8.2)) Mx Z) ?_))))))))))))));refine fN Z mv (fN Z mv (jD h fun g13 h=>fN Z (Mc.ixL bf Z Z g13 qD) (fN Z (lf (I (J b s8.2)) Mx Z) (fC h (fun _=>vL _ _) Z Z Z Z Z fun v14 _ h=>jD h fun g15 h=>fN Z (Mc.ixO (g:=false) bf Z Z nofun g15) (fV 0 [] Z Z (fun G hG=>EvA.stO (g:=false) (l:=s8.1) (cs:=[I v14]) v14 Mx Z Z (hG.a0 Z) nofun (ay Z g15) Z Z Z) (jR (T.clean (H0:=[bE false u10 1 3 ((s8.1.set s8.2.toNat v14).map cI)]) (e0:=au [(18,I s8.2),(17,I (a.length:Int)),(7,hS false 0 u10 1 s8.1.length),(0,eL cI a),(1,eL cI b),(2,.fn (.func 223) [])]) Z (Mb Z (Mb Z (Mb Z (Mb Z (Mb Z (Mb Z Ma)))))) (jC (jW h fun g16 h=>oN (Mc.add Z Z g16) (oN mv (jA ?_)))))))))));obtain rfl:=Mg h;exact ⟨((s8.1.set s8.2.toNat v14),(s8.2+(1:Int))),u10,Z,trivial,yc Z (Mb Z (Mb Z (Mb (congrArg (hS false 0 u10 1) (by simp:s8.1.length=(s8.1.set s8.2.toNat v14).length)) (Mb Z (Mb Z (Mb Z Ma))))))⟩
   ·refine jM (lX h fun h=>?_)
    cases h
    exact ⟨u10,trivial,kw Z Z⟩
theorem xQ (a:LI) (b:LI) {q:(LI)} (h:mf a b=some q):aA Tryz.prog 163 [eL cI a,eL cI b] (eL cI q):=by
 refine pM Tryz.func163 Z (by kernel_rfl) Z (jI (oN as' (jA (jI (oN mv (oN mv (oC h (fun _=>lH _ _) Z Z Z Z fun v1 _ h=>oN as' (jA (jK ?_)))))))))
 cases h
 exact bP Z Z Z
theorem wP (x:Int) (y:Int) {q:Int} (h:nY x y=some q):aA Tryz.prog 224 [I x,I y] (I q):=by
 refine pM Tryz.func224 Z (by kernel_rfl) Z (jI (oN as' (jA (jI (oN mv (oN mv (oN (Mc.band Z Z) (oN as' (jA (jK ?_))))))))))
 cases h
 exact bP Z Z Z
theorem mO (a:LI) (b:LI) {q:(LI)} (h:gH a b=some q):aA Tryz.prog 222 [eL cI a,eL cI b,.fn (.func 224) []] (eL cI q):=by
 refine pM Tryz.func222 Z (by kernel_rfl) Z (jI (oN as' (jA (jH (jI (oN mv (oN mv (oC h (fun _=>kR _ _) Z Z Z Z fun v1 _ h=>oN (Mc.not Z) (jA ?_)))))))));refine jN Z h (fun q2 h=>?_) (fun q2 h=>?_)
 ·refine jI (oN as' (jA (jK ?_)));obtain rfl:=Mg h
  repeat (first|refine cn ?_|refine cu ?_)
  exact jQ (vs:=[.nil]) (.cons (.tmp Z) .nil) .nil0
 ·refine jG (jI (oN mv (oN (Mc.lenL bf Z) (jD h fun g3 h=>oA (EvA.mkN (c:=cI) (default:Int) bf Z Z g3 Z Z Z) (oN (Mc.asg (hS false 0 0 1 ((List.replicate (a.length:Int).toNat (default:Int)).length)) Z) (jA ?_))))));refine T.jF (G:=Nat) h (fun s4 gh=>True) (fun s4 gh=>[(7,hS false 0 gh 1 s4.length)]) (fun s4 gh=>[bE false gh 1 3 (s4.map cI)]) (fun s4 u17 h hg=>?_) (fun s4 h=>?_)
  ·refine jI (oN mv (oN (Mc.asg (hS false 0 u17 1 s4.length) Z) (jA (jK ?_))));obtain rfl:=Mg h
   repeat (first|refine cn ?_|refine cu ?_)
   exact jQ (vs:=[hS false 0 u17 1 s4.length]) (.cons (.tmp Z) .nil) (Fz.own (g:=false) (ver:=u17) (l:=s4) Z Z Z nofun qD)
  ·refine jI (oN mv (oN (Mc.lenL bf Z) (oN mv (jA (jE ?_)))));refine jO (S:=(LI)×Int) (G:=Nat) (fg a b) (fun s8 gh=>True) (fun s8 gh=>[(18,I s8.2),(17,I (a.length:Int)),(7,hS false 0 gh 1 s8.1.length),(0,eL cI a),(1,eL cI b),(2,.fn (.func 224) [])]) (fun s8 gh=>[bE false gh 1 3 (s8.1.map cI)]) (s0:=((List.replicate (a.length:Int).toNat (default:Int)),U)) 0 h trivial (kw Z Z) (fun s8 u10 ws8 h hg=>?_);refine jI (oN (Mc.ilt Z Z) (jA (jH ?_)));refine jN Z h (fun q11 h=>?_) (fun q11 h=>?_)
   ·refine jG (jH (jE (jI (oN mv (oN as' (jA (jP (dG [dF,dF,dF,dF,dF,dF,dF,dF,dF,dF,dF,dF,dF,([0],true)]) (by kernel_rfl) (by kernel_rfl) (fN Z mv (fN Z mv (fN Z mv (fN Z mv (fN Z mv (jD h fun g12 h=>fN Z (Mc.ixL bf Z Z g12 qD) (fN Z (lf (I (J a s8.2)) Mx Z) ?_))))))))))))));refine fN Z mv (fN Z mv (jD h fun g13 h=>fN Z (Mc.ixL bf Z Z g13 qD) (fN Z (lf (I (J b s8.2)) Mx Z) (fC h (fun _=>wP _ _) Z Z Z Z Z fun v14 _ h=>jD h fun g15 h=>fN Z (Mc.ixO (g:=false) bf Z Z nofun g15) (fV 0 [] Z Z (fun G hG=>EvA.stO (g:=false) (l:=s8.1) (cs:=[I v14]) v14 Mx Z Z (hG.a0 Z) nofun (ay Z g15) Z Z Z) (jR (T.clean (H0:=[bE false u10 1 3 ((s8.1.set s8.2.toNat v14).map cI)]) (e0:=au [(18,I s8.2),(17,I (a.length:Int)),(7,hS false 0 u10 1 s8.1.length),(0,eL cI a),(1,eL cI b),(2,.fn (.func 224) [])]) Z (Mb Z (Mb Z (Mb Z (Mb Z (Mb Z (Mb Z Ma)))))) (jC (jW h fun g16 h=>oN (Mc.add Z Z g16) (oN mv (jA ?_)))))))))));obtain rfl:=Mg h;exact ⟨((s8.1.set s8.2.toNat v14),(s8.2+(1:Int))),u10,Z,trivial,yc Z (Mb Z (Mb Z (Mb (congrArg (hS false 0 u10 1) (by simp:s8.1.length=(s8.1.set s8.2.toNat v14).length)) (Mb Z (Mb Z (Mb Z Ma))))))⟩
   ·refine jM (lX h fun h=>?_)
    cases h
    exact ⟨u10,trivial,kw Z Z⟩
theorem yF (a:LI) (b:LI) {q:(LI)} (h:nJ a b=some q):aA Tryz.prog 164 [eL cI a,eL cI b] (eL cI q):=by
 refine pM Tryz.func164 Z (by kernel_rfl) Z (jI (oN as' (jA (jI (oN mv (oN mv (oC h (fun _=>mO _ _) Z Z Z Z fun v1 _ h=>oN as' (jA (jK ?_)))))))))
 cases h
 exact bP Z Z Z
theorem vM (x:Int) (y:Int) {q:Int} (h:ny x y=some q):aA Tryz.prog 225 [I x,I y] (I q):=by
 refine pM Tryz.func225 Z (by kernel_rfl) Z (jI (oN as' (jA (jI (oN mv (oN mv (oN (Mc.bandNot Z Z) (oN as' (jA (jK ?_))))))))))
 cases h
 exact bP Z Z Z
theorem lI (a:LI) (b:LI) {q:(LI)} (h:f9 a b=some q):aA Tryz.prog 222 [eL cI a,eL cI b,.fn (.func 225) []] (eL cI q):=by
 refine pM Tryz.func222 Z (by kernel_rfl) Z (jI (oN as' (jA (jH (jI (oN mv (oN mv (oC h (fun _=>kR _ _) Z Z Z Z fun v1 _ h=>oN (Mc.not Z) (jA ?_)))))))));refine jN Z h (fun q2 h=>?_) (fun q2 h=>?_)
 ·refine jI (oN as' (jA (jK ?_)));obtain rfl:=Mg h
  repeat (first|refine cn ?_|refine cu ?_)
  exact jQ (vs:=[.nil]) (.cons (.tmp Z) .nil) .nil0
 ·refine jG (jI (oN mv (oN (Mc.lenL bf Z) (jD h fun g3 h=>oA (EvA.mkN (c:=cI) (default:Int) bf Z Z g3 Z Z Z) (oN (Mc.asg (hS false 0 0 1 ((List.replicate (a.length:Int).toNat (default:Int)).length)) Z) (jA ?_))))));refine T.jF (G:=Nat) h (fun s4 gh=>True) (fun s4 gh=>[(7,hS false 0 gh 1 s4.length)]) (fun s4 gh=>[bE false gh 1 3 (s4.map cI)]) (fun s4 u17 h hg=>?_) (fun s4 h=>?_)
  ·refine jI (oN mv (oN (Mc.asg (hS false 0 u17 1 s4.length) Z) (jA (jK ?_))));obtain rfl:=Mg h
   repeat (first|refine cn ?_|refine cu ?_)
   exact jQ (vs:=[hS false 0 u17 1 s4.length]) (.cons (.tmp Z) .nil) (Fz.own (g:=false) (ver:=u17) (l:=s4) Z Z Z nofun qD)
  ·refine jI (oN mv (oN (Mc.lenL bf Z) (oN mv (jA (jE ?_)))));refine jO (S:=(LI)×Int) (G:=Nat) (eT a b) (fun s8 gh=>True) (fun s8 gh=>[(18,I s8.2),(17,I (a.length:Int)),(7,hS false 0 gh 1 s8.1.length),(0,eL cI a),(1,eL cI b),(2,.fn (.func 225) [])]) (fun s8 gh=>[bE false gh 1 3 (s8.1.map cI)]) (s0:=((List.replicate (a.length:Int).toNat (default:Int)),U)) 0 h trivial (kw Z Z) (fun s8 u10 ws8 h hg=>?_);refine jI (oN (Mc.ilt Z Z) (jA (jH ?_)));refine jN Z h (fun q11 h=>?_) (fun q11 h=>?_)
   ·refine jG (jH (jE (jI (oN mv (oN as' (jA (jP (dG [dF,dF,dF,dF,dF,dF,dF,dF,dF,dF,dF,dF,dF,([0],true)]) (by kernel_rfl) (by kernel_rfl) (fN Z mv (fN Z mv (fN Z mv (fN Z mv (fN Z mv (jD h fun g12 h=>fN Z (Mc.ixL bf Z Z g12 qD) (fN Z (lf (I (J a s8.2)) Mx Z) ?_))))))))))))));refine fN Z mv (fN Z mv (jD h fun g13 h=>fN Z (Mc.ixL bf Z Z g13 qD) (fN Z (lf (I (J b s8.2)) Mx Z) (fC h (fun _=>vM _ _) Z Z Z Z Z fun v14 _ h=>jD h fun g15 h=>fN Z (Mc.ixO (g:=false) bf Z Z nofun g15) (fV 0 [] Z Z (fun G hG=>EvA.stO (g:=false) (l:=s8.1) (cs:=[I v14]) v14 Mx Z Z (hG.a0 Z) nofun (ay Z g15) Z Z Z) (jR (T.clean (H0:=[bE false u10 1 3 ((s8.1.set s8.2.toNat v14).map cI)]) (e0:=au [(18,I s8.2),(17,I (a.length:Int)),(7,hS false 0 u10 1 s8.1.length),(0,eL cI a),(1,eL cI b),(2,.fn (.func 225) [])]) Z (Mb Z (Mb Z (Mb Z (Mb Z (Mb Z (Mb Z Ma)))))) (jC (jW h fun g16 h=>oN (Mc.add Z Z g16) (oN mv (jA ?_)))))))))));obtain rfl:=Mg h;exact ⟨((s8.1.set s8.2.toNat v14),(s8.2+(1:Int))),u10,Z,trivial,yc Z (Mb Z (Mb Z (Mb (congrArg (hS false 0 u10 1) (by simp:s8.1.length=(s8.1.set s8.2.toNat v14).length)) (Mb Z (Mb Z (Mb Z Ma))))))⟩
   ·refine jM (lX h fun h=>?_)
    cases h
    exact ⟨u10,trivial,kw Z Z⟩
theorem xR (a:LI) (b:LI) {q:(LI)} (h:mg a b=some q):aA Tryz.prog 165 [eL cI a,eL cI b] (eL cI q):=by
 refine pM Tryz.func165 Z (by kernel_rfl) Z (jI (oN as' (jA (jI (oN mv (oN mv (oC h (fun _=>lI _ _) Z Z Z Z fun v1 _ h=>oN as' (jA (jK ?_)))))))))
 cases h
 exact bP Z Z Z
theorem vN (a:LI) (b:LI) {q:(LI)} (h:jr a b=some q):aA Tryz.prog 166 [eL cI a,eL cI b] (eL cI q):=by
 refine pM Tryz.func166 Z (by kernel_rfl) Z (jI (oN as' (jA (jH (jI (oN mv (oN mv (oC h (fun _=>kR _ _) Z Z Z Z fun v1 _ h=>oN (Mc.not Z) (jA ?_)))))))));refine jN Z h (fun q2 h=>?_) (fun q2 h=>?_)
 ·refine jI (oN as' (jA (jK ?_)));obtain rfl:=Mg h
  repeat (first|refine cn ?_|refine cu ?_)
  exact jQ (vs:=[.nil]) (.cons (.tmp Z) .nil) .nil0
 ·refine jG (jI (oN mv (oN (Mc.lenL bf Z) (jD h fun g3 h=>oA (EvA.mkN (c:=cI) (default:Int) bf Z Z g3 Z Z Z) (oN (Mc.asg (hS false 0 0 1 ((List.replicate (a.length:Int).toNat (default:Int)).length)) Z) (jA ?_))))));refine T.jF (G:=Nat) h (fun s4 gh=>True) (fun s4 gh=>[(5,hS false 0 gh 1 s4.length)]) (fun s4 gh=>[bE false gh 1 3 (s4.map cI)]) (fun s4 u29 h hg=>?_) (fun s4 h=>?_)
  ·refine jI (oN mv (oN (Mc.asg (hS false 0 u29 1 s4.length) Z) (jA (jK ?_))));obtain rfl:=Mg h
   repeat (first|refine cn ?_|refine cu ?_)
   exact jQ (vs:=[hS false 0 u29 1 s4.length]) (.cons (.tmp Z) .nil) (Fz.own (g:=false) (ver:=u29) (l:=s4) Z Z Z nofun qD)
  ·refine jI (oN mv (oN (Mc.lenL bf Z) (oN mv (jA (jE ?_)))));refine jO (S:=(LI)×Int) (G:=Nat) (jX a b) (fun s8 gh=>True) (fun s8 gh=>[(17,I s8.2),(16,I (a.length:Int)),(5,hS false 0 gh 1 s8.1.length),(0,eL cI a),(1,eL cI b)]) (fun s8 gh=>[bE false gh 1 3 (s8.1.map cI)]) (s0:=((List.replicate (a.length:Int).toNat (default:Int)),U)) 0 h trivial (kw Z Z) (fun s8 u10 ws8 h hg=>?_);refine jI (oN (Mc.ilt Z Z) (jA (jH ?_)));refine jN Z h (fun q11 h=>?_) (fun q11 h=>?_)
   ·refine jG ?_;refine T.jF (G:=Nat) h (fun s12 gh=>True) (fun s12 gh=>[(17,I s8.2),(16,I (a.length:Int)),(5,hS false 0 gh 1 s12.length),(0,eL cI a),(1,eL cI b)]) (fun s12 gh=>[bE false gh 1 3 (s12.map cI)]) (fun s12 u27 h hg=>?_) (fun s12 h=>?_)
    ·refine jC (jW h fun g28 h=>oN (Mc.add Z Z g28) (oN mv (jA ?_)));obtain rfl:=Mg h;exact ⟨(s12,(s8.2+V)),u27,Z,trivial,kw Z Z⟩
    ·refine jE (jI (oN mv (oN as' (jA (jI (oN mv (oN (Mc.lenL bf Z) (oN mv (jA (jE ?_))))))))));refine jO (S:=(LI)×Int) (G:=Nat) (iX a b s8) (fun s16 gh=>True) (fun s16 gh=>[(22,I s16.2),(21,I (b.length:Int)),(6,I s8.2),(17,I s8.2),(16,I (a.length:Int)),(5,hS false 0 gh 1 s16.1.length),(0,eL cI a),(1,eL cI b)]) (fun s16 gh=>[bE false gh 1 3 (s16.1.map cI)]) (s0:=(s8.1,U)) u10 h trivial (kw Z Z) (fun s16 u18 ws16 h hg=>?_);refine jI (oN (Mc.ilt Z Z) (jA (jH ?_)));refine jN Z h (fun q19 h=>?_) (fun q19 h=>?_)
     ·refine jG ?_;refine T.jF (G:=Nat) h (fun s20 gh=>True) (fun s20 gh=>[(22,I s16.2),(21,I (b.length:Int)),(6,I s8.2),(17,I s8.2),(16,I (a.length:Int)),(5,hS false 0 gh 1 s20.length),(0,eL cI a),(1,eL cI b)]) (fun s20 gh=>[bE false gh 1 3 (s20.map cI)]) (fun s20 u25 h hg=>?_) (fun s20 h=>?_)
      ·refine jC (jW h fun g26 h=>oN (Mc.add Z Z g26) (oN mv (jA ?_)));obtain rfl:=Mg h;exact ⟨(s20,(s16.2+V)),u25,Z,trivial,kw Z Z⟩
      ·refine jE (jI (oN mv (oN as' (jA (jI (oN mv (oN mv (oN mv (oC h (fun _=>kQ _ _ _) Z Z Z Z fun v21 _ h=>jA ?_)))))))));refine jN Z h (fun q22 h=>?_) (fun q22 h=>?_)
       ·refine jP (dG [dF,dF,dF,([0],false),dF,dF,dF,dF,dF,dF,([0],true)]) (by kernel_rfl) (by kernel_rfl) (fN Z mv (fN Z mv (jD h fun g23 h=>fN Z (Mc.ixO (g:=false) bf Z Z nofun g23) (fR [0] Z (fun G hG=>EvA.ldO (g:=false) (l:=s16.1) (I (J s16.1 s8.2)) Mx Z (hG.a0 Z) nofun (ay Z g23) Z) (fN Z mv (fN Z mv (jD h fun g24 h=>fN Z (Mc.ixL bf Z Z g24 qD) (fN Z (lf (I (J b s16.2)) Mx Z) (fN Z (Mc.bor Z Z) (fN Z (Mc.ixO (g:=false) bf Z Z nofun g23) (fV 0 [] Z Z (fun G hG=>EvA.stO (g:=false) (l:=s16.1) (cs:=[I (bOr .i64 (J s16.1 s8.2) (J b s16.2))]) (bOr .i64 (J s16.1 s8.2) (J b s16.2)) Mx Z Z (hG.a0 Z) nofun (ay Z g23) Z Z Z) (jR ?_))))))))))));obtain rfl:=Mg h;exact ⟨u18,trivial,yc Z (Mb Z (Mb Z (Mb Z (Mb Z (Mb Z (Mb (congrArg (hS false 0 u18 1) (by simp:s16.1.length=(s16.1.set s8.2.toNat (bOr .i64 (J s16.1 s8.2) (J b s16.2))).length)) (Mb Z (Mb Z Ma))))))))⟩
       ·refine jG ?_
        cases h
        exact ⟨u18,trivial,kw Z Z⟩
     ·refine jM (lX h fun h=>?_)
      cases h
      exact ⟨u18,trivial,kw Z Z⟩
   ·refine jM (lX h fun h=>?_)
    cases h
    exact ⟨u10,trivial,kw Z Z⟩
theorem xS:∀ (nf:Nat) (p:List (List Mh)) (x:Mi) (e_:aa) {q:(LI)} (h:cN nf p x e_=some q),aA Tryz.prog 104 [eL (cL Mh.c) p,.agg (Mi.c x),.agg (aa.c e_)] (eL cI q):=by
 intro nf
 induction nf with
 | zero=>intros;rename_i h;cases h
 | succ nf ih=>
  intro p x e_ q h;replace h:cK (cN nf) p x e_=some q:=h;refine pM Tryz.func104 Z (by kernel_rfl) Z (jI (oN (Mc.bxF [eL cI x.From,eL (cL cI) x.Order] Z Z Z) (oN (Mc.bxF (aa.c e_) Z Z Z) (oN as' (jA (jH (jI (oN (fa pJ Z) (oN (lf (I e_.Op) Mx Z) (oN (Mc.ieq Z Z) (jA ?_)))))))))));refine jN Z h (fun q1 h=>?_) (fun q1 h=>?_)
  ·refine jI (oN mv (oN (lf (.agg (Mi.c x)) tG Z) (oN (fa pJ Z) (oN (lf (St e_.Name) ty9 Z) (oC h (fun _=>Ah _ _ _) Z Z Z Z fun v2 _ h=>oN as' (jA (jK ?_)))))))
   cases h
   exact bP Z Z Z
  ·refine jG (jH (jP (fun _=>([],false)) (by kernel_rfl) (by kernel_rfl) (fN Z mv (fN Z (lf (.agg (Mi.c x)) tG Z) (fN Z (fa pJ Z) (fN Z (lf (eL TXimpl_RelExpr.c e_.Kids) Dy Z) (jD h fun g3 h=>fN Z (Mc.res (Mc.ixL zI Z Z g3 TXimpl_RelExpr.len) (r' := .fp (aa.c (J e_.Kids U).out) 0) (fun _ _ hr=>xe (TXimpl_RelExpr.out_c _) hr)) (fN Z (lf (.agg (aa.c ((J e_.Kids U).out))) fJ Z) (fC h (fun _=>ih _ _ _) Z Z Z Z Z fun v4 _ h=>fN Z as' (jR (jH (jI (oN (fa pJ Z) ?_)))))))))))));refine oN (lf (I e_.Op) Mx Z) (jA (jE (jI (oN (Mc.ieq Z Z) (oN as' (jA ?_))))));refine jN Z h (fun q5 h=>?_) (fun q5 h=>?_)
   ·refine jH (T.clean (H0:=[]) (e0:=au [(7,eL cI v4)]) Z (Mb Z Ma) (jC (oN mv (oC h (fun _=>vK _) Z Z Z Z fun v6 _ h=>oN as' (jA (jK ?_))))))
    cases h
    exact bP Z Z Z
   ·refine jH (T.clean (H0:=[]) (e0:=au [(25,I e_.Op),(7,eL cI v4),(5,.fp (aa.c e_) 0),(4,.fp (Mi.c x) 0),(0,eL (cL Mh.c) p)]) Z (Mb Z (Mb Z (Mb Z (Mb Z (Mb Z Ma))))) (jC (oN (Mc.ieq Z Z) (oN as' (jA ?_)))));refine jN Z h (fun q7 h=>?_) (fun q7 h=>?_)
    ·refine jI (oN mv (oC h (fun _=>qo _) Z Z Z Z fun v8 _ h=>oN as' (jA (jK ?_))))
     cases h
     exact bP Z Z Z
    ·refine jG (jH (jP (fun _=>([],false)) (by kernel_rfl) (by kernel_rfl) (fN Z mv (fN Z (lf (.agg (Mi.c x)) tG Z) (fN Z (fa pJ Z) (fN Z (lf (eL TXimpl_RelExpr.c e_.Kids) Dy Z) (jD h fun g9 h=>fN Z (Mc.res (Mc.ixL zI Z Z g9 TXimpl_RelExpr.len) (r' := .fp (aa.c (J e_.Kids V).out) 0) (fun _ _ hr=>xe (TXimpl_RelExpr.out_c _) hr)) (fN Z (lf (.agg (aa.c ((J e_.Kids V).out))) fJ Z) (fC h (fun _=>ih _ _ _) Z Z Z Z Z fun v10 _ h=>fN Z as' (jR (jH (jI (oN (fa pJ Z) ?_)))))))))))));refine oN (lf (I e_.Op) Mx Z) (jA (jE (jI (oN (Mc.ieq Z Z) (oN as' (jA ?_))))));refine jN Z h (fun q11 h=>?_) (fun q11 h=>?_)
     ·refine jH (T.clean (H0:=[]) (e0:=au [(8,eL cI v10),(7,eL cI v4)]) Z (Mb Z (Mb Z Ma)) (jC (oN mv (oN mv (oC h (fun _=>xQ _ _) Z Z Z Z fun v12 _ h=>oN as' (jA (jK ?_)))))))
      cases h
      exact bP Z Z Z
     ·refine jH (T.clean (H0:=[]) (e0:=au [(42,I e_.Op),(8,eL cI v10),(7,eL cI v4)]) Z (Mb Z (Mb Z (Mb Z Ma))) (jC (oN (Mc.ieq Z Z) (oN as' (jA ?_)))));refine jN Z h (fun q13 h=>?_) (fun q13 h=>?_)
      ·refine jI (oN mv (oN mv (oC h (fun _=>yF _ _) Z Z Z Z fun v14 _ h=>oN as' (jA (jK ?_)))))
       cases h
       exact bP Z Z Z
      ·refine jI (oN (Mc.ieq Z Z) (oN as' (jA ?_)));refine jN Z h (fun q15 h=>?_) (fun q15 h=>?_)
       ·refine jI (oN mv (oN mv (oC h (fun _=>xR _ _) Z Z Z Z fun v16 _ h=>oN as' (jA (jK ?_)))))
        cases h
        exact bP Z Z Z
       ·refine jG (jI (oN mv (oN mv (oC h (fun _=>vN _ _) Z Z Z Z fun v17 _ h=>oN as' (jA (jK ?_))))))
        cases h
        exact bP Z Z Z
theorem yG (p:List (List Mh)) (x:Mi) (e_:aa) {q:(LI)} (h:qN p x e_=some q):aA Tryz.prog 104 [eL (cL Mh.c) p,.agg (Mi.c x),.agg (aa.c e_)] (eL cI q):=by
 obtain ⟨nf,h⟩:=vo h;exact xS nf p x e_ h
theorem mX (r_:LI) {q:Bool} (h:dU r_=some q):aA Tryz.prog 168 [eL cI r_] (Bo q):=by
 refine pM Tryz.func168 Z (by kernel_rfl) Z (jI (oN as' (jA ?_)));obtain ⟨Ks1,es1,ws1,h,ks1⟩:=sumL h;refine T.join (S:=Unit) (G:=Unit) (fun s1=>Ks1 s1=some q) (fun s1 gh=>True) (fun s1 gh=>[]) (fun s1 gh=>[]) (fun s1 gh h hg=>?_) ?_
 ·clear ks1;subst es1;refine jI (oN as' (jA (jK ?_)))
  cases h
  exact bP Z Z Z
 ·refine jI (oN mv (oN (Mc.lenL bf Z) (oN mv (jA (jE ?_)))));refine T.lU h (fun s4=>[(6,I s4),(5,I (r_.length:Int)),(0,eL cI r_)]) (fun s4=>[]) (kw Z Z) (fun s4 ws4 h=>?_);refine jI (oN (Mc.ilt Z Z) (jA (jH ?_)));refine jN Z h (fun q6 h=>?_) (fun q6 h=>?_)
  ·refine jG (jH (jE (jI (oN mv (oN as' (jA (jI (oN mv (oN mv (oN mv (oC h (fun _=>kQ _ _ _) Z Z Z Z fun v7 _ h=>jA ?_)))))))))));refine jN Z h (fun q8 h=>?_) (fun q8 h=>?_)
   ·refine jI (oN as' (jA (jK (lX h fun h=>?_))));obtain rfl:=Mg h;replace h:=congrArg some (show _=_ from ks1)
    cases h
    exact bP Z Z Z
   ·refine jG (jC (jW h fun g9 h=>oN (Mc.add Z Z g9) (oN mv (jA ?_))));exact lE h (kw Z Z)
  ·refine jM (lX h fun h=>?_)
   cases h
   exact ⟨(),(),ks1,trivial,kw Z Z⟩
theorem vO (r_:LI) {q:Bool} (h:ju r_=some q):aA Tryz.prog 167 [eL cI r_] (Bo q):=by
 refine pM Tryz.func167 Z (by kernel_rfl) Z (jI (oN as' (jA (jI (oN mv (oC h (fun _=>eH _) Z Z Z Z fun v1 _ h=>oN mv ?_))))));refine TO.jB h 4 (fun s2=>[(9,Bo s2)]) (fun s2=>[]) (fun s2 q3 h js2=>?_) (fun s2 q3 h js2=>?_) (fun s2 h=>?_)
 ·refine gN Z q3 mv (jB h fun v4 cv4 h=>gN Z q3 (Mc.call Z Z Z (qo r_ cv4) Z) (jB h fun v5 cv5 h=>gN Z q3 (Mc.call Z Z Z (mX v4 cv5) Z) (oN (Mc.pickT Z q3 (Bo v5) Z) ?_)))
  cases h
  exact js2 _ _ (kw Z Z)
 ·refine gS Z q3 (gS Z q3 (gS Z q3 (oN (Mc.pickF Z q3 (Bo false) Z) ?_)))
  cases h
  exact js2 _ _ (kw Z Z)
 ·refine oN as' (jA (jK ?_))
  cases h
  exact bP Z Z Z
theorem qZ (x:Int) {q:Int} (h:mo x=some q):aA Tryz.prog 267 [.v (.int .u64 x)] (I q):=by
 refine pM Tryz.func267 Z (by kernel_rfl) Z (jI (oN as' (jA (jI (oN mv (jD h fun g1 h=>oN (Mc.shr Z Z g1) (oN (Mc.band Z Z) (oN mv (oN (Mc.band Z Z) (jW h fun g2 h=>oN (Mc.add Z Z g2) (oN as' (jA (jI ?_)))))))))))));refine oN mv (jD h fun g3 h=>oN (Mc.shr Z Z g3) (oN (Mc.band Z Z) (oN mv (oN (Mc.band Z Z) (jW h fun g4 h=>oN (Mc.add Z Z g4) (oN as' (jA (jI (oN mv (jD h fun g5 h=>oN (Mc.shr Z Z g5) (oN mv (jW h fun g6 h=>?_))))))))))));refine jB h fun w7 ew7 h=>?_;replace ew7:=osi ew7;refine oN (Mc.res (Mc.add Z Z g6) (r' := .v (.int .u64 w7)) (fun _ _ hr=>by rw [<- ew7];exact hr)) (oN (Mc.band Z Z) (oN as' (jA (jH (T.clean (H0:=[]) (e0:=au [(0,.v (.int .u64 (cm .u64 w7 (1085102592571150095:Int))))]) Z (Mb Z Ma) (jC (oN mv (oN mv (jD h fun g8 h=>oN (Mc.shr Z Z g8) (jW h fun g9 h=>oN (Mc.add Z Z g9) (oN as' (jA (jI ?_)))))))))))));refine oN mv (oN mv (jD h fun g10 h=>oN (Mc.shr Z Z g10) (jW h fun g11 h=>oN (Mc.add Z Z g11) (oN as' (jA (jI (oN mv (oN mv (jD h fun g12 h=>oN (Mc.shr Z Z g12) (jW h fun g13 h=>oN (Mc.add Z Z g13) (oN as' ?_)))))))))));refine jA (jI (oN mv (jW h fun g14 h=>oN (Mc.iconv LC.und Tryz.underlying3 Z g14) (oN (Mc.band Z Z) (oN as' (jA (jK ?_)))))))
 cases h
 exact bP Z Z Z
theorem sK (x:Int) {q:Int} (h:nN x=some q):aA Tryz.prog 227 [.v (.int .u64 x)] (I q):=by
 refine pM Tryz.func227 Z (by kernel_rfl) Z (jI (oN as' (jA (jH ?_))));refine T.cond Z (fun q=>absurd (q.symm.trans Z) (by decide)) (fun _=>?_);refine jG (jI (oN mv (oC h (fun _=>qZ _) Z Z Z Z fun v1 _ h=>oN as' (jA (jK ?_)))))
 cases h
 exact bP Z Z Z
theorem xU (r_:LI) {q:Int} (h:tY r_=some q):aA Tryz.prog 169 [eL cI r_] (I q):=by
 refine pM Tryz.func169 Z (by kernel_rfl) Z (jI (oN as' (jA (jH (jI (oN mv (oC h (fun _=>eH _) Z Z Z Z fun v1 _ h=>oN (Mc.not Z) (jA ?_))))))));refine jN Z h (fun q2 h=>?_) (fun q2 h=>?_)
 ·refine jI (oN as' (jA (jK ?_)))
  cases h
  exact bP Z Z Z
 ·refine jG (jI (oN as' (jA ?_)));refine T.jU h (fun s3=>[(3,I s3)]) (fun s3=>[]) (fun s3 h=>?_) (fun s3 h=>?_)
  ·refine jI (oN mv (oN as' (jA (jK ?_))))
   cases h
   exact bP Z Z Z
  ·refine jI (oN mv (oN (Mc.lenL bf Z) (oN mv (jA (jE ?_)))));refine T.lU h (fun s6=>[(11,I s6.1),(10,I (r_.length:Int)),(9,eL cI r_),(3,I s6.2)]) (fun s6=>[]) (kw Z Z) (fun s6 ws6 h=>?_);refine jI (oN (Mc.ilt Z Z) (jA (jH ?_)));refine jN Z h (fun q8 h=>?_) (fun q8 h=>?_)
   ·refine jG (jH (jE (jI (jD h fun g9 h=>oN (Mc.ixL bf Z Z g9 qD) (oN (lf (I (J r_ s6.1)) Mx Z) (oN as' (jA (jC (oN mv (oN mv (jW h fun g10 h=>oN (Mc.iconv Mx.und Tryz.underlying155 Z g10) (oC h (fun _=>sK _) Z Z Z Z fun v11 _ h=>jW h fun g12 h=>?_))))))))))));refine oN (Mc.add Z Z g12) (oN as' (jA (jC (jW h fun g13 h=>oN (Mc.add Z Z g13) (oN mv (jA ?_))))));exact lE h (kw Z Z)
   ·refine jM (lX h fun h=>?_)
    cases h
    exact ⟨(),trivial,kw Z Z⟩
theorem wQ (kind:Int) (r_:LI) {q:Bool} (h:nZ kind r_=some q):aA Tryz.prog 105 [I kind,eL cI r_] (Bo q):=by
 refine pM Tryz.func105 Z (by kernel_rfl) Z (jI (oN as' (jA (jH (jI (oN mv (jA (jE (jI (oN (Mc.ieq Z Z) (oN as' (jA ?_))))))))))));refine jN Z h (fun q1 h=>?_) (fun q1 h=>?_)
 ·refine jI (oN mv (oC h (fun _=>vO _) Z Z Z Z fun v2 _ h=>oN as' (jA (jK ?_))))
  cases h
  exact bP Z Z Z
 ·refine jI (oN (Mc.ieq Z Z) (oN as' (jA ?_)));refine jN Z h (fun q3 h=>?_) (fun q3 h=>?_)
  ·refine jI (oN mv (oC h (fun _=>mX _) Z Z Z Z fun v4 _ h=>oN as' (jA (jK ?_))))
   cases h
   exact bP Z Z Z
  ·refine jG (jI (oN mv (oC h (fun _=>xU _) Z Z Z Z fun v5 _ h=>oN (Mc.ieq Z Z) (oN as' (jA (jK ?_))))))
   cases h
   exact bP Z Z Z
theorem vP (p:List (List Mh)) (x:Mi) (m:List ai) {q:Int×(LI)} (h:gI p x m=some q):aA Tryz.prog 47 [eL (cL Mh.c) p,.agg (Mi.c x),eL ai.c m] (.tup [I q.1,eL cI q.2]):=by
 refine pM Tryz.func47 Z (by kernel_rfl) Z (jI (oN (Mc.bxF [eL cI x.From,eL (cL cI) x.Order] Z Z Z) (oN as' (oN as' (jA ?_)))));obtain ⟨Ks1,es1,ws1,h,ks1⟩:=sumL h;refine T.join (S:=Unit) (G:=Unit) (fun s1=>Ks1 s1=some q) (fun s1 gh=>True) (fun s1 gh=>[]) (fun s1 gh=>[]) (fun s1 gh h hg=>?_) ?_
 ·clear ks1;subst es1;refine jI (oN as' (oN as' (jA (jK ?_))));obtain rfl:=Mg h
  repeat (first|refine cn ?_|refine cu ?_)
  exact jQ (vs:=[I (-1:Int),.nil]) (.cons (.tmp Z) (.cons (.tmp Z) .nil)) (.tupL (.cons (qC Z) (.cons .nil0 .nil)))
 ·refine jI (oN mv (oN (Mc.lenL HL Z) (oN mv (jA (jE ?_)))));refine T.lU h (fun s4=>[(13,I s4),(12,I (m.length:Int)),(11,eL ai.c m),(4,.fp (Mi.c x) 0),(0,eL (cL Mh.c) p)]) (fun s4=>[]) (kw Z Z) (fun s4 ws4 h=>?_);refine jI (oN (Mc.ilt Z Z) (jA (jH ?_)));refine jN Z h (fun q6 h=>?_) (fun q6 h=>?_)
  ·refine jG (jH (jE (jI (oN mv (jD h fun g7 h=>oN (Mc.ixL HL Z Z g7 qD) (oN (lf (.agg (ai.c (J m s4))) EO Z) (oA (EvA.al IQ Z Z) (oN as' (oV (sr (ai.c (⟨(J m s4).Kind,((J m s4).Expr)⟩:ai)) EO Z Z Z Z) (jA (jI (oN mv (oN (lf (.agg (Mi.c x)) tG Z) (oN (fa EP Z) ?_))))))))))))));refine oA (lh (.agg (aa.c ((J m s4).Expr))) fJ Z Z Z) (oC h (fun _=>yG _ _ _) Z Z Z Z fun v8 _ h=>oN as' (jA (jI (oN (fa EP Z) (oA (lh (I ((J m s4).Kind)) Mx Z Z Z) (oN mv (oC h (fun _=>wQ _ _) Z Z Z Z fun v9 _ h=>oN (Mc.not Z) (jA ?_))))))));refine jN Z h (fun q10 h=>?_) (fun q10 h=>?_)
   ·refine jH (T.clean (H0:=[some ⟨0,4,133,[(ai.c (⟨(J m s4).Kind,((J m s4).Expr)⟩:ai))]⟩]) (e0:=au [(10,eL cI v8),(8,I s4)]) Z (Mb Z (Mb Z Ma)) (jC (oN mv (oN mv (oN as' (oN as' (jA (jK (lX h fun h=>?_)))))))));obtain rfl:=Mg h;replace h:=congrArg some (show _=_ from ks1);obtain rfl:=Mg h
    repeat (first|refine cn ?_|refine cu ?_)
    exact jQ (vs:=[I s4,eL cI v8]) (.cons (.tmp Z) (.cons (.tmp Z) .nil)) (.tupL (.cons (qC Z) (.cons (qC Z) .nil)))
   ·refine jG (T.clean (H0:=[some ⟨0,4,133,[(ai.c (⟨(J m s4).Kind,((J m s4).Expr)⟩:ai))]⟩]) (e0:=au [(13,I s4),(12,I (m.length:Int)),(11,eL ai.c m),(4,.fp (Mi.c x) 0),(0,eL (cL Mh.c) p)]) Z (Mb Z (Mb Z (Mb Z (Mb Z (Mb Z Ma))))) (jC (jW h fun g11 h=>oN (Mc.add Z Z g11) (oN mv (jA ?_)))));exact lE h (mR Z .nil (aj (.fz (qC Z)) (aj (.fz (qC Z)) (aj (.fz (qC Z)) (aj (.fz (qC Z)) (aj (.fz (qC Z)) aN))))))
  ·refine jM (lX h fun h=>?_)
   cases h
   exact ⟨(),(),ks1,trivial,kw Z Z⟩
theorem vQ (p:List (List Mh)) (x:Mi) (m:List ai) {q:Int×Bool} (h:jv p x m=some q):aA Tryz.prog 15 [eL (cL Mh.c) p,.agg (Mi.c x),eL ai.c m] (.tup [I q.1,Bo q.2]):=by
 refine pM Tryz.func15 Z (by kernel_rfl) Z (jI (oN (Mc.bxF [eL cI x.From,eL (cL cI) x.Order] Z Z Z) (oN as' (oN as' (jA (jH (jI (oN mv (oN (lf (.agg (Mi.c x)) tG Z) (oC h (fun _=>qH _ _) Z Z Z Z fun v1 _ h=>oN (Mc.not Z) (oN mv ?_)))))))))));refine TO.jB h 4 (fun s2=>[(18,Bo s2),(4,.fp (Mi.c x) 0),(0,eL (cL Mh.c) p),(2,eL ai.c m)]) (fun s2=>[]) (fun s2 q3 h js2=>?_) (fun s2 q3 h js2=>?_) (fun s2 h=>?_)
 ·refine gS Z q3 (gS Z q3 (gS Z q3 (oN (Mc.pickT Z q3 (Bo true) Z) ?_)))
  cases h
  exact js2 _ _ (kw Z Z)
 ·refine gN Z q3 mv (jB h fun v4 cv4 h=>gN Z q3 (Mc.call Z Z Z (qm m cv4) Z) (gN Z q3 (Mc.not Z) (oN (Mc.pickF Z q3 (Bo (!v4)) Z) ?_)))
  cases h
  exact js2 _ _ (kw Z Z)
 ·refine jA ?_;refine jN Z h (fun q5 h=>?_) (fun q5 h=>?_)
  ·refine jI (oN as' (oN as' (jA (jK ?_))));obtain rfl:=Mg h
   repeat (first|refine cn ?_|refine cu ?_)
   exact jQ (vs:=[I (-1:Int),Bo false]) (.cons (.tmp Z) (.cons (.tmp Z) .nil)) (.tupL (.cons (qC Z) (.cons (qC Z) .nil)))
  ·refine jG (jI (oN mv (oN (lf (.agg (Mi.c x)) tG Z) (oN mv (oC h (fun _=>vP _ _ _) Z Z Z Z fun v6 _ h=>oN mv (oN (Mc.ext (I v6.1) Z Z) (oN (Mc.ext (eL cI v6.2) Z Z) (oN as' (oN as' (jA (jI (oN mv (oN as' (oN as' ?_))))))))))))));refine jA (jK ?_);obtain rfl:=Mg h
   repeat (first|refine cn ?_|refine cu ?_)
   exact jQ (vs:=[I v6.1,Bo true]) (.cons (.tmp Z) (.cons (.tmp Z) .nil)) (.tupL (.cons (qC Z) (.cons (qC Z) .nil)))
set_option maxHeartbeats 4000000 in
theorem rL (v:az) (t:Int) (index:Int) (reg:Int) (aH:Nat) (ko:Nat) (jm:Nat) (gw1:Bool) (hgw1:gw1=true->v.values=[]) {q:az×Int} (h:eZ v t index reg=some q):dC Tryz.prog 207 [.hp 0 aH 6 0 0,I t,I index,I reg] [some ⟨aH,6,185,[[eL (cL Mh.c) v.p,eL cI v.x.From,eL (cL cI) v.x.Order,eL Mj.c v.events,hS gw1 1 ko 1 v.values.length,hS false 2 jm 1 v.busy.length]]⟩,bE gw1 ko 1 3 (v.values.map cI),bE false jm 1 4 (v.busy.map cB)] (J5 (I q.2) fun ver=>[some ⟨aH,6,185,[[eL (cL Mh.c) q.1.p,eL cI q.1.x.From,eL (cL cI) q.1.x.Order,eL Mj.c q.1.events,hS gw1 1 ko 1 v.values.length,hS false 2 jm 1 q.1.busy.length]]⟩,bE gw1 ko 1 3 (v.values.map cI),bE false jm 1 4 (q.1.busy.map cB)]):=by
 refine dC.mkS Tryz.func207 Z (by kernel_rfl) Z (by kernel_rfl) (e0:=au [(0,.hp 0 aH 6 0 0),(1,I t),(2,I index),(3,I reg)]) (Mb Z (Mb Z (Mb Z (Mb Z Ma)))) (jI (oN as' (jA (jI (oN as' (jA ?_))))));refine T.jU h (fun s1=>[(9,I s1)]) (fun s1=>[some ⟨aH,6,185,[[eL (cL Mh.c) v.p,eL cI v.x.From,eL (cL cI) v.x.Order,eL Mj.c v.events,hS gw1 1 ko 1 v.values.length,hS false 2 jm 1 v.busy.length]]⟩,bE gw1 ko 1 3 (v.values.map cI),bE false jm 1 4 (v.busy.map cB)]) (fun s1 h=>?_) (fun s1 h=>?_)
 ·refine jI (oN mv (oN as' (jA (jK ?_))));obtain rfl:=Mg h
  repeat (first|refine cn ?_|refine cu ?_)
  exact ⟨au [(8,I s1)],[some ⟨aH,6,185,[[eL (cL Mh.c) v.p,eL cI v.x.From,eL (cL cI) v.x.Order,eL Mj.c v.events,hS gw1 1 ko 1 v.values.length,hS false 2 jm 1 v.busy.length]]⟩,bE gw1 ko 1 3 (v.values.map cI),bE false jm 1 4 (v.busy.map cB)],kw Z Z,jQ (vs:=[I s1]) (.cons (.tmp Z) .nil) ⟨0,Z,Z⟩⟩
 ·refine jI (oN mv (oN (nl Z) (oN (fa vE Z) (oA (lh (eL Mj.c v.events) JY Z Z Z) (oN (Mc.lenL vF Z) (oN mv (jA (jE ?_))))))));refine T.lU h (fun s4=>[(17,I s4.1),(16,I (v.events.length:Int)),(15,eL Mj.c v.events),(9,I s4.2),(0,.hp 0 aH 6 0 0),(1,I t),(2,I index),(3,I reg)]) (fun s4=>[some ⟨aH,6,185,[[eL (cL Mh.c) v.p,eL cI v.x.From,eL (cL cI) v.x.Order,eL Mj.c v.events,hS gw1 1 ko 1 v.values.length,hS false 2 jm 1 v.busy.length]]⟩,bE gw1 ko 1 3 (v.values.map cI),bE false jm 1 4 (v.busy.map cB)]) (kw Z Z) (fun s4 ws4 h=>?_);refine jI (oN (Mc.ilt Z Z) (jA (jH ?_)));refine jN Z h (fun q6 h=>?_) (fun q6 h=>?_)
  ·refine jG ?_;refine T.jU h (fun s7=>[(9,I s7),(17,I s4.1),(16,I (v.events.length:Int)),(15,eL Mj.c v.events),(0,.hp 0 aH 6 0 0),(1,I t),(2,I index),(3,I reg)]) (fun s7=>[some ⟨aH,6,185,[[eL (cL Mh.c) v.p,eL cI v.x.From,eL (cL cI) v.x.Order,eL Mj.c v.events,hS gw1 1 ko 1 v.values.length,hS false 2 jm 1 v.busy.length]]⟩,bE gw1 ko 1 3 (v.values.map cI),bE false jm 1 4 (v.busy.map cB)]) (fun s7 h=>?_) (fun s7 h=>?_)
   ·refine jC (jW h fun g16 h=>oN (Mc.add Z Z g16) (oN mv (jA ?_)));exact lE h (kw Z Z)
   ·refine jE (jI (oN mv (jD h fun g8 h=>oN (Mc.ixL vF Z Z g8 qD) (oN (lf (.agg (Mj.c (J v.events s4.1))) zG Z) (oA (EvA.al Eh Z Z) (oN as' (oV (sr (Mj.c (J v.events s4.1)) zG Z Z Z Z) (jA ?_))))))));refine T.jU h (fun s9=>[(51,Bo s9),(10,I s4.1),(17,I s4.1),(16,I (v.events.length:Int)),(15,eL Mj.c v.events),(9,I s4.2),(0,.hp 0 aH 6 0 0),(1,I t),(2,I index),(3,I reg)]) (fun s9=>[some ⟨aH,6,185,[[eL (cL Mh.c) v.p,eL cI v.x.From,eL (cL cI) v.x.Order,eL Mj.c v.events,hS gw1 1 ko 1 v.values.length,hS false 2 jm 1 v.busy.length]]⟩,bE gw1 ko 1 3 (v.values.map cI),bE false jm 1 4 (v.busy.map cB),some ⟨0,5,74,[(Mj.c (J v.events s4.1))]⟩]) (fun s9 h=>?_) (fun s9 h=>?_)
    ·refine jN Z h (fun q15 h=>?_) (fun q15 h=>?_)
     ·refine jC (oN mv (oN as' (jA ?_)))
      cases h
      exact ⟨(),trivial,mR Z (.cons (.row (.cons (.fz (qC Z)) (.cons (.fz (qC Z)) (.cons (.fz (qC Z)) (.cons (.fz (qC Z)) (.cons (.hS (g:=gw1) (b:=1) (ver:=ko) (s:=1) (n:=v.values.length) Z) (.cons (.hS (g:=false) (b:=2) (ver:=jm) (s:=1) (n:=v.busy.length) Z) .nil))))))) (.cons (.list (g:=gw1) (ver:=ko) (l:=v.values) qD) (.cons (.list (g:=false) (ver:=jm) (l:=v.busy) qD) .nil))) (aj (.fz (qC Z)) (aj (.fz (qC Z)) (aj (.fz (qC Z)) (aj (.fz (qC Z)) (aj (.hp (nlb Z)) (aj (.fz (qC Z)) (aj (.fz (qC Z)) (aj (.fz (qC Z)) aN))))))))⟩
     ·refine jG ?_
      cases h
      exact ⟨(),trivial,mR Z (.cons (.row (.cons (.fz (qC Z)) (.cons (.fz (qC Z)) (.cons (.fz (qC Z)) (.cons (.fz (qC Z)) (.cons (.hS (g:=gw1) (b:=1) (ver:=ko) (s:=1) (n:=v.values.length) Z) (.cons (.hS (g:=false) (b:=2) (ver:=jm) (s:=1) (n:=v.busy.length) Z) .nil))))))) (.cons (.list (g:=gw1) (ver:=ko) (l:=v.values) qD) (.cons (.list (g:=false) (ver:=jm) (l:=v.busy) qD) .nil))) (aj (.fz (qC Z)) (aj (.fz (qC Z)) (aj (.fz (qC Z)) (aj (.fz (qC Z)) (aj (.hp (nlb Z)) (aj (.fz (qC Z)) (aj (.fz (qC Z)) (aj (.fz (qC Z)) aN))))))))⟩
    ·refine T.drawG (dG [dF,([3],false),dF,dF,dF,dF,([3],false),dF,dF,dF,dF,dF,([3],false),dF,dF,dF,dF,dF,([0],false),dF,dF,dF,dF,([3],false),dF,dF,dF,dF,dF,dF]) (by kernel_rfl) (by kernel_rfl) (tN Z (fa pO Z) (tR [3] Z (fun G hG=>EvA.loadhp (I ((J v.events s4.1).Thread)) Mx Z (hG.a0 Z) Z Z Z Z) (tN Z mv (tN Z (Mc.ieq Z Z) (tN Z mv ?_)))));rcases C8 h with ⟨q10,h⟩ | ⟨q10,h⟩
     ·refine My Z q10 Z (fa pO Z) (tgR Z q10 [3] Z (fun G hG=>EvA.loadhp (I ((J v.events s4.1).Index)) Mx Z (hG.a0 Z) Z Z Z Z) (My Z q10 Z mv (My Z q10 Z (Mc.ilt Z Z) (tN Z (Mc.pickT Z q10 (Bo (decide (((J v.events s4.1).Index)<index))) Z) (tN Z mv ?_)))));rcases C8 h with ⟨q11,h⟩ | ⟨q11,h⟩
      ·refine My Z q11 Z (fa pO Z) (tgR Z q11 [3] Z (fun G hG=>EvA.loadhp (Bo ((J v.events s4.1).Reads)) ty4 Z (hG.a0 Z) Z Z Z Z) (tN Z (Mc.pickT Z q11 (Bo ((J v.events s4.1).Reads)) Z) (tN Z mv ?_)));rcases C8 h with ⟨q12,h⟩ | ⟨q12,h⟩
       ·refine My Z q12 Z mv (My Z q12 Z (nl Z) (My Z q12 Z (fa vE Z) (tgR Z q12 [0] Z (fun G hG=>EvA.loadhp (eL (cL Mh.c) v.p) HE Z (hG.a0 Z) Z Z Z Z) (My Z q12 Z mv (jD h fun g13 h=>My Z q12 Z (Mc.ixL lF Z Z g13 qD) (My Z q12 Z (lf (eL Mh.c (J v.p t)) xC Z) (My Z q12 Z (fa pO Z) (tgR Z q12 [3] Z (fun G hG=>EvA.loadhp (I ((J v.events s4.1).Index)) Mx Z (hG.a0 Z) Z Z Z Z) (jD h fun g14 h=>My Z q12 Z (Mc.ixL sG Z Z g14 qD) (My Z q12 Z (fa nE Z) (My Z q12 Z (lf (I ((J (J v.p t) ((J v.events s4.1).Index)).Reg)) Mx Z) (My Z q12 Z mv (My Z q12 Z (Mc.ieq Z Z) ?_)))))))))))));refine tN Z (Mc.pickT Z q12 (Bo (((J (J v.p t) ((J v.events s4.1).Index)).Reg)==reg)) Z) (TG.nil ?_)
        cases h
        exact ⟨(),trivial,kw Z Z⟩
       ·refine MB Z q12 (MB Z q12 (MB Z q12 (MB Z q12 (MB Z q12 (MB Z q12 (MB Z q12 (MB Z q12 (MB Z q12 (MB Z q12 (MB Z q12 (MB Z q12 (MB Z q12 (MB Z q12 (tN Z (Mc.pickF Z q12 (Bo false) Z) (TG.nil ?_)))))))))))))))
        cases h
        exact ⟨(),trivial,kw Z Z⟩
      ·refine MB Z q11 (MB Z q11 (tN Z (Mc.pickF Z q11 (Bo false) Z) (tN Z mv (MB Z Z (MB Z Z (MB Z Z (MB Z Z (MB Z Z (MB Z Z (MB Z Z (MB Z Z (MB Z Z (MB Z Z (MB Z Z (MB Z Z ?_)))))))))))))));refine MB Z Z (MB Z Z (tN Z (Mc.pickF Z Z (Bo false) Z) (TG.nil ?_)))
       cases h
       exact ⟨(),trivial,kw Z Z⟩
     ·refine MB Z q10 (MB Z q10 (MB Z q10 (MB Z q10 (tN Z (Mc.pickF Z q10 (Bo false) Z) (tN Z mv (MB Z Z (MB Z Z (tN Z (Mc.pickF Z Z (Bo false) Z) (tN Z mv (MB Z Z (MB Z Z (MB Z Z (MB Z Z (MB Z Z (MB Z Z ?_)))))))))))))));refine MB Z Z (MB Z Z (MB Z Z (MB Z Z (MB Z Z (MB Z Z (MB Z Z (MB Z Z (tN Z (Mc.pickF Z Z (Bo false) Z) (TG.nil ?_)))))))))
      cases h
      exact ⟨(),trivial,kw Z Z⟩
  ·refine jM (lX h fun h=>?_)
   cases h
   exact ⟨(),trivial,kw Z Z⟩
set_option maxHeartbeats 4000000 in
theorem tL:∀ (nf:Nat) (v:az) (i:Int) (aH:Nat) (ko:Nat) (jm:Nat) (gw1:Bool) (hgw1:gw1=true->v.values=[]) {q:az×Int×Bool} (h:bK nf v i=some q),dC Tryz.prog 152 [.hp 0 aH 6 0 0,I i] [some ⟨aH,6,185,[[eL (cL Mh.c) v.p,eL cI v.x.From,eL (cL cI) v.x.Order,eL Mj.c v.events,hS gw1 1 ko 1 v.values.length,hS false 2 jm 1 v.busy.length]]⟩,bE gw1 ko 1 3 (v.values.map cI),bE false jm 1 4 (v.busy.map cB)] (J5 (.tup [I q.2.1,Bo q.2.2]) fun ver=>[some ⟨aH,6,185,[[eL (cL Mh.c) q.1.p,eL cI q.1.x.From,eL (cL cI) q.1.x.Order,eL Mj.c q.1.events,hS gw1 1 ko 1 v.values.length,hS false 2 jm 1 q.1.busy.length]]⟩,bE gw1 ko 1 3 (v.values.map cI),bE false jm 1 4 (q.1.busy.map cB)]):=by
 intro nf
 induction nf with
 | zero=>intros;rename_i h;cases h
 | succ nf ih=>
  intro v i aH ko jm gw1 hgw1 q h;replace h:fI (bK nf) v i=some q:=h;refine dC.mkS Tryz.func152 Z (by kernel_rfl) Z (by kernel_rfl) (e0:=au [(0,.hp 0 aH 6 0 0),(1,I i)]) (Mb Z (Mb Z Ma)) (jI (oN as' (oN as' (jA (jI (oN mv (oN (nl Z) (oN (fa vE Z) (oA (lh (eL Mj.c v.events) JY Z Z Z) (oN mv (jD h fun g1 h=>oN (Mc.ixL vF Z Z g1 qD) (oN (lf (.agg (Mj.c (J v.events i))) zG Z) (oA (EvA.al Eh Z Z) (oV (sr (Mj.c (J v.events i)) zG Z Z Z Z) ?_))))))))))))));refine jA (jH (jI (oN (fa pO Z) (oA (lh (I ((J v.events i).Thread)) Mx Z Z Z) (oN (Mc.ilt Z Z) (jA ?_))))));refine jN Z h (fun q2 h=>?_) (fun q2 h=>?_)
  ·refine jI (oN as' (oN as' (jA (jK ?_))));obtain rfl:=Mg h
   repeat (first|refine cn ?_|refine cu ?_)
   exact ⟨au [(4,I U),(5,Bo true)],[some ⟨aH,6,185,[[eL (cL Mh.c) v.p,eL cI v.x.From,eL (cL cI) v.x.Order,eL Mj.c v.events,hS gw1 1 ko 1 v.values.length,hS false 2 jm 1 v.busy.length]]⟩,bE gw1 ko 1 3 (v.values.map cI),bE false jm 1 4 (v.busy.map cB)],mR Z (.cons (.row (.cons (.fz (qC Z)) (.cons (.fz (qC Z)) (.cons (.fz (qC Z)) (.cons (.fz (qC Z)) (.cons (.hS (g:=gw1) (b:=1) (ver:=ko) (s:=1) (n:=v.values.length) Z) (.cons (.hS (g:=false) (b:=2) (ver:=jm) (s:=1) (n:=v.busy.length) Z) .nil))))))) (.cons (.list (g:=gw1) (ver:=ko) (l:=v.values) qD) (.cons (.list (g:=false) (ver:=jm) (l:=v.busy) qD) .nil))) (aj (.fz (qC Z)) (aj (.fz (qC Z)) aN)),jQ (vs:=[I U,Bo true]) (.cons (.tmp Z) (.cons (.tmp Z) .nil)) ⟨0,Z,Z⟩⟩
  ·refine jG (jH (T.reserve (jP (dG [dF,dF,dF,([0],false),dF,([3],false),dF,dF,dF,([3],false),dF,dF,([4],true),([4],true)]) (by kernel_rfl) (by kernel_rfl) (fN Z mv (fN Z (nl Z) (fN Z (fa vE Z) (fR [0] Z (fun G hG=>EvA.loadhp (eL (cL Mh.c) v.p) HE Z (hG.a0 Z) Z Z Z Z) (fN Z (fa pO Z) (fR [3] Z (fun G hG=>EvA.loadhp (I ((J v.events i).Thread)) Mx Z (hG.a0 Z) Z Z Z Z) (jD h fun g3 h=>fN Z (Mc.ixL lF Z Z g3 qD) (fN Z (lf (eL Mh.c (J v.p ((J v.events i).Thread))) xC Z) (fN Z (fa pO Z) (fR [3] Z (fun G hG=>EvA.loadhp (I ((J v.events i).Index)) Mx Z (hG.a0 Z) Z Z Z Z) (jD h fun g4 h=>?_))))))))))))));refine fN Z (Mc.ixL sG Z Z g4 qD) (fN Z (lf (.agg (Mh.c (J (J v.p ((J v.events i).Thread)) ((J v.events i).Index)))) nD Z) (fW 4 [] Z Z (fun G hG=>EvA.alR 4 xD Z Z (hG.a0 Z)) (fV 4 [] Z Z (fun G hG=>EvA.st (cs:=(Mh.c (J (J v.p ((J v.events i).Thread)) ((J v.events i).Index)))) ⟨0,4,97,[(Mh.c (J (J v.p ((J v.events i).Thread)) ((J v.events i).Index)))]⟩ nD Z Z (hG.a0 Z) Z Z Z Z Z Z) (jR (jH (jH (T.clean (H0:=[some ⟨aH,6,185,[[eL (cL Mh.c) v.p,eL cI v.x.From,eL (cL cI) v.x.Order,eL Mj.c v.events,hS gw1 1 ko 1 v.values.length,hS false 2 jm 1 v.busy.length]]⟩,bE gw1 ko 1 3 (v.values.map cI),bE false jm 1 4 (v.busy.map cB),some ⟨0,5,74,[(Mj.c (J v.events i))]⟩,some ⟨0,4,97,[(Mh.c (J (J v.p ((J v.events i).Thread)) ((J v.events i).Index)))]⟩]) (e0:=au [(7,.hp 4 0 4 0 0),(6,.hp 3 0 5 0 0),(0,.hp 0 aH 6 0 0),(1,I i)]) Z (Mb Z (Mb Z (Mb Z (Mb Z Ma)))) (jC (oN (fa nE Z) (oA (lh (I ((J (J v.p ((J v.events i).Thread)) ((J v.events i).Index)).Op)) Mx Z Z Z) (oN (Mc.ine Z Z) (jA ?_))))))))))));refine jN Z h (fun q5 h=>?_) (fun q5 h=>?_)
   ·refine jI (oN (fa nE Z) (oA (lh (I ((J (J v.p ((J v.events i).Thread)) ((J v.events i).Index)).Val)) Mx Z Z Z) (oN as' (oN as' (jA (jK ?_))))));obtain rfl:=Mg h
    repeat (first|refine cn ?_|refine cu ?_)
    exact ⟨au [(4,I ((J (J v.p ((J v.events i).Thread)) ((J v.events i).Index)).Val)),(5,Bo true)],[some ⟨aH,6,185,[[eL (cL Mh.c) v.p,eL cI v.x.From,eL (cL cI) v.x.Order,eL Mj.c v.events,hS gw1 1 ko 1 v.values.length,hS false 2 jm 1 v.busy.length]]⟩,bE gw1 ko 1 3 (v.values.map cI),bE false jm 1 4 (v.busy.map cB)],mR Z (.cons (.row (.cons (.fz (qC Z)) (.cons (.fz (qC Z)) (.cons (.fz (qC Z)) (.cons (.fz (qC Z)) (.cons (.hS (g:=gw1) (b:=1) (ver:=ko) (s:=1) (n:=v.values.length) Z) (.cons (.hS (g:=false) (b:=2) (ver:=jm) (s:=1) (n:=v.busy.length) Z) .nil))))))) (.cons (.list (g:=gw1) (ver:=ko) (l:=v.values) qD) (.cons (.list (g:=false) (ver:=jm) (l:=v.busy) qD) .nil))) (aj (.fz (qC Z)) (aj (.fz (qC Z)) aN)),jQ (vs:=[I ((J (J v.p ((J v.events i).Thread)) ((J v.events i).Index)).Val),Bo true]) (.cons (.tmp Z) (.cons (.tmp Z) .nil)) ⟨0,Z,Z⟩⟩
   ·refine jG (jH (jI (oN mv (oN (nl Z) (oN (fa vE Z) (oA (lh (hS false 2 jm 1 v.busy.length) IR Z Z Z) (oN mv (jD h fun g6 h=>oN (Mc.ixO (g:=false) IU Z Z nofun g6) (oA (EvA.ldO (g:=false) (l:=v.busy) (Bo (J v.busy i)) ty4 Z Z nofun (ay Z g6) Z) (jA ?_))))))))));refine jN Z h (fun q7 h=>?_) (fun q7 h=>?_)
    ·refine jI (oN as' (oN as' (jA (jK ?_))));obtain rfl:=Mg h
     repeat (first|refine cn ?_|refine cu ?_)
     exact ⟨au [(4,I U),(5,Bo false)],[some ⟨aH,6,185,[[eL (cL Mh.c) v.p,eL cI v.x.From,eL (cL cI) v.x.Order,eL Mj.c v.events,hS gw1 1 ko 1 v.values.length,hS false 2 jm 1 v.busy.length]]⟩,bE gw1 ko 1 3 (v.values.map cI),bE false jm 1 4 (v.busy.map cB)],mR Z (.cons (.row (.cons (.fz (qC Z)) (.cons (.fz (qC Z)) (.cons (.fz (qC Z)) (.cons (.fz (qC Z)) (.cons (.hS (g:=gw1) (b:=1) (ver:=ko) (s:=1) (n:=v.values.length) Z) (.cons (.hS (g:=false) (b:=2) (ver:=jm) (s:=1) (n:=v.busy.length) Z) .nil))))))) (.cons (.list (g:=gw1) (ver:=ko) (l:=v.values) qD) (.cons (.list (g:=false) (ver:=jm) (l:=v.busy) qD) .nil))) (aj (.fz (qC Z)) (aj (.fz (qC Z)) aN)),jQ (vs:=[I U,Bo false]) (.cons (.tmp Z) (.cons (.tmp Z) .nil)) ⟨0,Z,Z⟩⟩
    ·refine jG (jI (oN mv (oN (fa pO Z) (oA (lh (I ((J v.events i).Thread)) Mx Z Z Z) (oN (fa pO Z) (oA (lh (I ((J v.events i).Index)) Mx Z Z Z) (oN (fa nE Z) (oA (lh (I ((J (J v.p ((J v.events i).Thread)) ((J v.events i).Index)).Reg)) Mx Z Z Z) (jB h fun v8 cv8 h=>?_)))))))));refine oW Z Z Z (dC.outAt (rL (⟨v.p,(⟨v.x.From,v.x.Order⟩:Mi),v.events,v.values,v.busy⟩:az) ((J v.events i).Thread) ((J v.events i).Index) ((J (J v.p ((J v.events i).Thread)) ((J v.events i).Index)).Reg) aH ko jm gw1 hgw1 cv8) [0,1,2] (by decide) (.cons Z (.rowL (.cons (ax 9 _ Z) (.cons (ax 9 _ Z) (.cons (ax 9 _ Z) (.cons (ax 9 _ Z) (.cons (aS Z) (.cons (aS Z) .nil))))))) (.bE Z qD (.cons Z (RenK.bE' qD) .nil))) (.cons (.hp Z) (.cons (ax 9 _ Z) (.cons (ax 9 _ Z) (.cons (ax 9 _ Z) .nil)))) (G:=fun v_=>[some ⟨aH,6,185,[[eL (cL Mh.c) v8.1.p,eL cI v8.1.x.From,eL (cL cI) v8.1.x.Order,eL Mj.c v8.1.events,hS gw1 1 ko 1 v.values.length,hS false 2 jm 1 v8.1.busy.length]]⟩,bE gw1 ko 1 3 (v.values.map cI),bE false jm 1 4 (v8.1.busy.map cB)]) (G':=fun v_=>[some ⟨aH,6,185,[[eL (cL Mh.c) v8.1.p,eL cI v8.1.x.From,eL (cL cI) v8.1.x.Order,eL Mj.c v8.1.events,hS gw1 1 ko 1 v.values.length,hS false 2 jm 1 v8.1.busy.length]]⟩,bE gw1 ko 1 3 (v.values.map cI),bE false jm 1 4 (v8.1.busy.map cB),some ⟨0,5,74,[(Mj.c (J v.events i))]⟩,some ⟨0,4,97,[(Mh.c (J (J v.p ((J v.events i).Thread)) ((J v.events i).Index)))]⟩]) 5 Z (fun v_ => .some (.rowL (.cons (ax 9 _ Z) (.cons (ax 9 _ Z) (.cons (ax 9 _ Z) (.cons (ax 9 _ Z) (.cons (aS (.inl Z)) (.cons (aS (.inl Z)) .nil))))))) (.bE qD (.some (RenK.bE' qD) .nil))) qD (r:=I v8.2) (ax 9 _ Z) qD) (fun u9=>?_);refine oN as' (jA (jH (jH (T.clean (H0:=[some ⟨aH,6,185,[[eL (cL Mh.c) v8.1.p,eL cI v8.1.x.From,eL (cL cI) v8.1.x.Order,eL Mj.c v8.1.events,hS gw1 1 ko 1 v.values.length,hS false 2 jm 1 v8.1.busy.length]]⟩,bE gw1 ko 1 3 (v.values.map cI),bE false jm 1 4 (v8.1.busy.map cB),some ⟨0,5,74,[(Mj.c (J v.events i))]⟩,some ⟨0,4,97,[(Mh.c (J (J v.p ((J v.events i).Thread)) ((J v.events i).Index)))]⟩]) (e0:=au [(8,I v8.2),(0,.hp 0 aH 6 0 0),(1,I i)]) Z (Mb Z (Mb Z (Mb Z Ma))) (jC (oN mv (oN (Mc.ilt Z Z) (jA ?_))))))));refine jN Z h (fun q10 h=>?_) (fun q10 h=>?_)
     ·refine jI (oN as' (oN as' (jA (jK ?_))));obtain rfl:=Mg h
      repeat (first|refine cn ?_|refine cu ?_)
      exact ⟨au [(4,I U),(5,Bo true)],[some ⟨aH,6,185,[[eL (cL Mh.c) v8.1.p,eL cI v8.1.x.From,eL (cL cI) v8.1.x.Order,eL Mj.c v8.1.events,hS gw1 1 ko 1 v.values.length,hS false 2 jm 1 v8.1.busy.length]]⟩,bE gw1 ko 1 3 (v.values.map cI),bE false jm 1 4 (v8.1.busy.map cB)],mR Z (.cons (.row (.cons (.fz (qC Z)) (.cons (.fz (qC Z)) (.cons (.fz (qC Z)) (.cons (.fz (qC Z)) (.cons (.hS (g:=gw1) (b:=1) (ver:=ko) (s:=1) (n:=v.values.length) Z) (.cons (.hS (g:=false) (b:=2) (ver:=jm) (s:=1) (n:=v8.1.busy.length) Z) .nil))))))) (.cons (.list (g:=gw1) (ver:=ko) (l:=v.values) qD) (.cons (.list (g:=false) (ver:=jm) (l:=v8.1.busy) qD) .nil))) (aj (.fz (qC Z)) (aj (.fz (qC Z)) aN)),jQ (vs:=[I U,Bo true]) (.cons (.tmp Z) (.cons (.tmp Z) .nil)) ⟨0,Z,Z⟩⟩
     ·refine jG (jI (oN mv (oN (nl Z) (oN (fa vE Z) (oA (lh (hS false 2 jm 1 v8.1.busy.length) IR Z Z Z) (oN mv (jD h fun g11 h=>oN (Mc.ixO (g:=false) IU Z Z nofun g11) (oV (EvA.stO (g:=false) (l:=v8.1.busy) (cs:=[Bo true]) true ty4 Z Z Z nofun (ay Z g11) Z Z Z) (jA (jI (oN mv (oN mv (oN (nl Z) (oN (fa vE Z) ?_))))))))))))));refine oN (fa wI Z) (oA (lh (eL cI v8.1.x.From) oH Z Z Z) (oN mv (jD h fun g12 h=>oN (Mc.ixL bf Z Z g12 qD) (oN (lf (I (J v8.1.x.From v8.2)) Mx Z) (jB h fun v13 cv13 h=>?_)))));refine oW Z Z Z (dC.outAt (ih (⟨v8.1.p,(⟨v8.1.x.From,v8.1.x.Order⟩:Mi),v8.1.events,v.values,(v8.1.busy.set i.toNat true)⟩:az) (J v8.1.x.From v8.2) aH ko jm gw1 hgw1 cv13) [0,1,2] (by decide) (.cons Z (.rowL (.cons (ax 9 _ Z) (.cons (ax 9 _ Z) (.cons (ax 9 _ Z) (.cons (ax 9 _ Z) (.cons (aS Z) (.cons (Ig Z ((by simp))) .nil))))))) (.bE Z qD (.cons Z (RenK.bE' qD) .nil))) (.cons (.hp Z) (.cons (ax 9 _ Z) .nil)) (G:=fun v_=>[some ⟨aH,6,185,[[eL (cL Mh.c) v13.1.p,eL cI v13.1.x.From,eL (cL cI) v13.1.x.Order,eL Mj.c v13.1.events,hS gw1 1 ko 1 v.values.length,hS false 2 jm 1 v13.1.busy.length]]⟩,bE gw1 ko 1 3 (v.values.map cI),bE false jm 1 4 (v13.1.busy.map cB)]) (G':=fun v_=>[some ⟨aH,6,185,[[eL (cL Mh.c) v13.1.p,eL cI v13.1.x.From,eL (cL cI) v13.1.x.Order,eL Mj.c v13.1.events,hS gw1 1 ko 1 v.values.length,hS false 2 jm 1 v13.1.busy.length]]⟩,bE gw1 ko 1 3 (v.values.map cI),bE false jm 1 4 (v13.1.busy.map cB),some ⟨0,5,74,[(Mj.c (J v.events i))]⟩,some ⟨0,4,97,[(Mh.c (J (J v.p ((J v.events i).Thread)) ((J v.events i).Index)))]⟩]) 5 Z (fun v_ => .some (.rowL (.cons (ax 9 _ Z) (.cons (ax 9 _ Z) (.cons (ax 9 _ Z) (.cons (ax 9 _ Z) (.cons (aS (.inl Z)) (.cons (aS (.inl Z)) .nil))))))) (.bE qD (.some (RenK.bE' qD) .nil))) qD (r:=.tup [I v13.2.1,Bo v13.2.2]) (ax 9 _ Z) qD) (fun u14=>?_);refine oN mv (oN (Mc.ext (I v13.2.1) Z Z) (oN (Mc.ext (Bo v13.2.2) Z Z) (oN as' (oN as' (jA (jH (T.clean (H0:=[some ⟨aH,6,185,[[eL (cL Mh.c) v13.1.p,eL cI v13.1.x.From,eL (cL cI) v13.1.x.Order,eL Mj.c v13.1.events,hS gw1 1 ko 1 v.values.length,hS false 2 jm 1 v13.1.busy.length]]⟩,bE gw1 ko 1 3 (v.values.map cI),bE false jm 1 4 (v13.1.busy.map cB),some ⟨0,5,74,[(Mj.c (J v.events i))]⟩,some ⟨0,4,97,[(Mh.c (J (J v.p ((J v.events i).Thread)) ((J v.events i).Index)))]⟩]) (e0:=au [(10,Bo v13.2.2),(9,I v13.2.1),(0,.hp 0 aH 6 0 0),(1,I i)]) Z (Mb Z (Mb Z (Mb Z (Mb Z Ma)))) (jC (oN mv (oN (nl Z) (oN (fa vE Z) (oA (lh (hS false 2 jm 1 v13.1.busy.length) IR Z Z Z) (oN mv (jD h fun g15 h=>oN (Mc.ixO (g:=false) IU Z Z nofun g15) ?_))))))))))))));refine oV (EvA.stO (g:=false) (l:=v13.1.busy) (cs:=[Bo false]) false ty4 Z Z Z nofun (ay Z g15) Z Z Z) (jA (jI (oN mv (oN mv (oN as' (oN as' (jA (jK ?_))))))));obtain rfl:=Mg h
      repeat (first|refine cn ?_|refine cu ?_)
      exact ⟨au [(4,I v13.2.1),(5,Bo v13.2.2)],[some ⟨aH,6,185,[[eL (cL Mh.c) v13.1.p,eL cI v13.1.x.From,eL (cL cI) v13.1.x.Order,eL Mj.c v13.1.events,hS gw1 1 ko 1 v.values.length,hS false 2 jm 1 ((v13.1.busy.set i.toNat false).length)]]⟩,bE gw1 ko 1 3 (v.values.map cI),bE false jm 1 4 ((v13.1.busy.set i.toNat false).map cB)],mR Z (.cons (.row (.cons (.fz (qC Z)) (.cons (.fz (qC Z)) (.cons (.fz (qC Z)) (.cons (.fz (qC Z)) (.cons (.hS (g:=gw1) (b:=1) (ver:=ko) (s:=1) (n:=v.values.length) Z) (.cons (.eqv (congrArg (hS false 2 jm 1) (by simp:v13.1.busy.length=(v13.1.busy.set i.toNat false).length)) (.hS (g:=false) (b:=2) (ver:=jm) (s:=1) (n:=(v13.1.busy.set i.toNat false).length) Z)) .nil))))))) (.cons (.list (g:=gw1) (ver:=ko) (l:=v.values) qD) (.cons (.list (g:=false) (ver:=jm) (l:=(v13.1.busy.set i.toNat false)) qD) .nil))) (aj (.fz (qC Z)) (aj (.fz (qC Z)) aN)),jQ (vs:=[I v13.2.1,Bo v13.2.2]) (.cons (.tmp Z) (.cons (.tmp Z) .nil)) ⟨0,Z,Z⟩⟩
set_option maxHeartbeats 4000000 in
theorem uu (v:az) (i:Int) (aH:Nat) (ko:Nat) (jm:Nat) (gw1:Bool) (hgw1:gw1=true->v.values=[]) {q:az×Int×Bool} (h:kY v i=some q):dC Tryz.prog 152 [.hp 0 aH 6 0 0,I i] [some ⟨aH,6,185,[[eL (cL Mh.c) v.p,eL cI v.x.From,eL (cL cI) v.x.Order,eL Mj.c v.events,hS gw1 1 ko 1 v.values.length,hS false 2 jm 1 v.busy.length]]⟩,bE gw1 ko 1 3 (v.values.map cI),bE false jm 1 4 (v.busy.map cB)] (J5 (.tup [I q.2.1,Bo q.2.2]) fun ver=>[some ⟨aH,6,185,[[eL (cL Mh.c) q.1.p,eL cI q.1.x.From,eL (cL cI) q.1.x.Order,eL Mj.c q.1.events,hS gw1 1 ko 1 v.values.length,hS false 2 jm 1 q.1.busy.length]]⟩,bE gw1 ko 1 3 (v.values.map cI),bE false jm 1 4 (q.1.busy.map cB)]):=by
 obtain ⟨nf,h⟩:=vo h;exact tL nf v i aH ko jm gw1 hgw1 h
set_option maxHeartbeats 4000000 in
theorem xV (p:List (List Mh)) (x:Mi) {q:(LI)×Bool} (h:mq p x=some q):aA Tryz.prog 90 [eL (cL Mh.c) p,.agg (Mi.c x)] (.tup [eL cI q.1,Bo q.2]):=by
 refine pM Tryz.func90 Z (by kernel_rfl) Z (jI (oN (Mc.bxF [eL cI x.From,eL (cL cI) x.Order] Z Z Z) (oN as' (oN as' (jA (jH (T.reserve (T.reserve (jP (dG [dF,dF,dF,dF,dF,([1],true),dF]) (by kernel_rfl) (by kernel_rfl) (fN Z mv (fN Z (lf (.agg (Mi.c x)) tG Z) (fN Z mv (fC h (fun _=>jl _) Z Z Z Z Z fun v1 _ h=>fN Z (Mc.build [eL (cL Mh.c) p,eL cI x.From,eL (cL cI) x.Order,eL Mj.c v1,hS true 0 0 1 (([]:LI).length),.nil] Tryz.underlying185 LA vE Z Z) (fW 1 [] Z Z (fun G hG=>EvA.bxA (cs:=[eL (cL Mh.c) p,eL cI x.From,eL (cL cI) x.Order,eL Mj.c v1,hS true 0 0 1 (([]:LI).length),.nil]) 1 Z Z (hG.a0 Z)) ?_))))))))))))));refine fN Z as' (jR (jI (oN mv (oN mv (oN (nl Z) (oN (fa vE Z) (oA (lh (eL Mj.c v1) JY Z Z Z) (oN (Mc.lenL vF Z) (jD h fun g2 h=>oA (EvA.mkN (c:=cB) (default:Bool) IU Z Z g2 Z Z Z) (oN (nl Z) (oN (fa vE Z) (oV (sr [eL (cL Mh.c) p,eL cI x.From,eL (cL cI) x.Order,eL Mj.c v1,hS true 0 0 1 (([]:LI).length),hS false 2 0 1 ((List.replicate (v1.length:Int).toNat (default:Bool)).length)] IR Z Z Z Z) (jA ?_)))))))))))));obtain ⟨Ks3,es3,ws3,h,ks3⟩:=sumL h;refine T.join (S:=(LI)×(List (List Mh))×(LI)×(LL)×(List Mj)×(List Bool)) (G:=(Bool×Nat)×Nat) (fun s3=>Ks3 s3=some q) (fun s3 gh=>(gh.1.1=true->s3.1=[])) (fun s3 gh=>[(6,.hp 1 0 6 0 0)]) (fun s3 gh=>[bE gh.1.1 gh.1.2 1 3 (s3.1.map cI),some ⟨0,6,185,[[eL (cL Mh.c) s3.2.1,eL cI s3.2.2.1,eL (cL cI) s3.2.2.2.1,eL Mj.c s3.2.2.2.2.1,hS gh.1.1 0 gh.1.2 1 s3.1.length,hS false 2 gh.2 1 s3.2.2.2.2.2.length]]⟩,bE false gh.2 1 4 (s3.2.2.2.2.2.map cB)]) (fun s3 gh h n28=>?_) ?_
 ·clear ks3;subst es3;obtain ⟨⟨b27,u26⟩,u29⟩:=gh;refine jI (oN mv (oN (nl Z) (oN (fa vE Z) (oA (lh (hS b27 0 u26 1 s3.1.length) oH Z Z Z) (oN (Mc.asg (hS b27 0 u26 1 s3.1.length) Z) (oN as' (jA (jK ?_))))))));obtain rfl:=Mg h
  repeat (first|refine cn ?_|refine cu ?_)
  exact jQ (vs:=[hS b27 0 u26 1 s3.1.length,Bo true]) (.cons (.tmp Z) (.cons (.tmp Z) .nil)) (.tupL (.cons (Fz.own (g:=b27) (ver:=u26) (l:=s3.1) Z Z Z n28 qD) (.cons (qC Z) .nil)))
 ·refine jH (T.clean (H0:=[bE true 0 1 3 (([]:LI).map cI),some ⟨0,6,185,[[eL (cL Mh.c) p,eL cI x.From,eL (cL cI) x.Order,eL Mj.c v1,hS true 0 0 1 (([]:LI).length),hS false 2 0 1 ((List.replicate (v1.length:Int).toNat (default:Bool)).length)]]⟩,bE false 0 1 4 ((List.replicate (v1.length:Int).toNat (default:Bool)).map cB)]) (e0:=au [(6,.hp 1 0 6 0 0)]) Z (Mb Z Ma) (jC (oN mv (oN (nl Z) (oN (fa vE Z) (oA (lh (eL Mj.c v1) JY Z Z Z) (oN (Mc.lenL vF Z) (oN mv (jA (jE ?_))))))))));refine jO (S:=(LI)×(List (List Mh))×(LI)×(LL)×(List Mj)×(List Bool)×Int) (G:=(Bool×Nat)×Nat) (kZ v1) (fun s10 gh=>(gh.1.1=true->s10.1=[])) (fun s10 gh=>[(32,I s10.2.2.2.2.2.2),(31,I (v1.length:Int)),(30,eL Mj.c v1),(6,.hp 1 0 6 0 0)]) (fun s10 gh=>[bE gh.1.1 gh.1.2 1 3 (s10.1.map cI),some ⟨0,6,185,[[eL (cL Mh.c) s10.2.1,eL cI s10.2.2.1,eL (cL cI) s10.2.2.2.1,eL Mj.c s10.2.2.2.2.1,hS gh.1.1 0 gh.1.2 1 s10.1.length,hS false 2 gh.2 1 s10.2.2.2.2.2.1.length]]⟩,bE false gh.2 1 4 (s10.2.2.2.2.2.1.map cB)]) (s0:=(([]:LI),p,x.From,x.Order,v1,(List.replicate (v1.length:Int).toNat (default:Bool)),U)) ((true,0),0) h qD (kw Z Z) (fun s10 gh ws10 h n14=>?_);obtain ⟨⟨b13,u12⟩,u15⟩:=gh;refine jI (oN (Mc.ilt Z Z) (jA (jH ?_)));refine jN Z h (fun q16 h=>?_) (fun q16 h=>?_)
  ·refine jG (jH (jE (jI (oN mv (jD h fun g17 h=>oN (Mc.ixL vF Z Z g17 qD) (oN (lf (.agg (Mj.c (J v1 s10.2.2.2.2.2.2))) zG Z) (oA (EvA.al Eh Z Z) (oN as' (oV (sr (Mj.c (J v1 s10.2.2.2.2.2.2)) zG Z Z Z Z) (jA (jI (oN as' (jA ?_)))))))))))));obtain ⟨Ks18,es18,ws18,h,ks18⟩:=sumL h;refine T.join (S:=(List (List Mh))×(LI)×(LL)×(List Mj)×(List Bool)×Int) (G:=Nat) (fun s18=>Ks18 s18=some ws10) (fun s18 gh=>True) (fun s18 gh=>[(9,I s18.2.2.2.2.2),(32,I s10.2.2.2.2.2.2),(31,I (v1.length:Int)),(30,eL Mj.c v1),(6,.hp 1 0 6 0 0)]) (fun s18 gh=>[bE b13 u12 1 3 (s10.1.map cI),some ⟨0,6,185,[[eL (cL Mh.c) s18.1,eL cI s18.2.1,eL (cL cI) s18.2.2.1,eL Mj.c s18.2.2.2.1,hS b13 0 u12 1 s10.1.length,hS false 2 gh 1 s18.2.2.2.2.1.length]]⟩,bE false gh 1 4 (s18.2.2.2.2.1.map cB),some ⟨0,5,74,[(Mj.c (J v1 s10.2.2.2.2.2.2))]⟩]) (fun s18 u23 h hg=>?_) ?_
   ·clear ks18;subst es18;refine jC (oN mv (oN mv (oN (nl Z) (oN (fa vE Z) (oA (lh (hS b13 0 u12 1 s10.1.length) oH Z Z Z) (oN mv (oN (Mc.mkF (c:=cI) ([s18.2.2.2.2.2]:LI) [[I s18.2.2.2.2.2]] bf Z Z Z qD qD Z) (jL h fun g24 h=>oA (EvA.app1 (g:=b13) (l:=s10.1) s18.2.2.2.2.2 bf (by kernel_rfl) Z Z Z n14 (bG.fz (l:=([s18.2.2.2.2.2]:LI)) Z qD) g24) (oN (nl Z) (oN (fa vE Z) (oV (sr [eL (cL Mh.c) s18.1,eL cI s18.2.1,eL (cL cI) s18.2.2.1,eL Mj.c s18.2.2.2.1,hS false 0 (u12+1) 1 ((s10.1++[s18.2.2.2.2.2]).length),hS false 2 u23 1 s18.2.2.2.2.1.length] oH Z Z Z Z) (jA (jC (jW h fun g25 h=>?_))))))))))))));refine oN (Mc.add Z Z g25) (oN mv (jA ?_));obtain rfl:=Mg h;exact ⟨((s10.1++[s18.2.2.2.2.2]),s18.1,s18.2.1,s18.2.2.1,s18.2.2.2.1,s18.2.2.2.2.1,(s10.2.2.2.2.2.2+V)),((false,u12+1),u23),Z,nofun,mR Z (.cons (.list (g:=false) (ver:=u12+1) (l:=(s10.1++[s18.2.2.2.2.2])) qD) (.cons (.row (.cons (.fz (qC Z)) (.cons (.fz (qC Z)) (.cons (.fz (qC Z)) (.cons (.fz (qC Z)) (.cons (.hS (g:=false) (b:=0) (ver:=u12+1) (s:=1) (n:=(s10.1++[s18.2.2.2.2.2]).length) Z) (.cons (.hS (g:=false) (b:=2) (ver:=u23) (s:=1) (n:=s18.2.2.2.2.1.length) Z) .nil))))))) (.cons (.list (g:=false) (ver:=u23) (l:=s18.2.2.2.2.1) qD) .nil))) (aj (.fz (qC Z)) (aj (.fz (qC Z)) (aj (.fz (qC Z)) (aj (.hp (nlb Z)) aN))))⟩
   ·refine jI (oN (fa pO Z) (oA (lh (Bo ((J v1 s10.2.2.2.2.2.2).db)) ty4 Z Z Z) (jA ?_)));refine jN Z h (fun q19 h=>?_) (fun q19 h=>?_)
    ·refine jI (oN mv (oN mv (jB h fun v20 cv20 h=>?_)));refine oW Z Z Z (dC.outAt (uu (⟨s10.2.1,(⟨s10.2.2.1,s10.2.2.2.1⟩:Mi),s10.2.2.2.2.1,s10.1,s10.2.2.2.2.2.1⟩:az) s10.2.2.2.2.2.2 0 u12 u15 b13 n14 cv20) [1,0,2] (by decide) (.cons Z (.rowL (.cons (ax 9 _ Z) (.cons (ax 9 _ Z) (.cons (ax 9 _ Z) (.cons (ax 9 _ Z) (.cons (aS Z) (.cons (aS Z) .nil))))))) (.bE Z qD (.cons Z (RenK.bE' qD) .nil))) (.cons (.hp Z) (.cons (ax 9 _ Z) .nil)) (G:=fun v_=>[some ⟨0,6,185,[[eL (cL Mh.c) v20.1.p,eL cI v20.1.x.From,eL (cL cI) v20.1.x.Order,eL Mj.c v20.1.events,hS b13 0 u12 1 s10.1.length,hS false 2 u15 1 v20.1.busy.length]]⟩,bE b13 u12 1 3 (s10.1.map cI),bE false u15 1 4 (v20.1.busy.map cB)]) (G':=fun v_=>[bE b13 u12 1 3 (s10.1.map cI),some ⟨0,6,185,[[eL (cL Mh.c) v20.1.p,eL cI v20.1.x.From,eL (cL cI) v20.1.x.Order,eL Mj.c v20.1.events,hS b13 0 u12 1 s10.1.length,hS false 2 u15 1 v20.1.busy.length]]⟩,bE false u15 1 4 (v20.1.busy.map cB),some ⟨0,5,74,[(Mj.c (J v1 s10.2.2.2.2.2.2))]⟩]) 4 Z (fun v_ => .some (.rowL (.cons (ax 9 _ Z) (.cons (ax 9 _ Z) (.cons (ax 9 _ Z) (.cons (ax 9 _ Z) (.cons (aS (.inl Z)) (.cons (aS (.inl Z)) .nil))))))) (.bE qD (.some (RenK.bE' qD) .nil))) qD (r:=.tup [I v20.2.1,Bo v20.2.2]) (ax 9 _ Z) qD) (fun u21=>?_);refine oN mv (oN (Mc.ext (I v20.2.1) Z Z) (oN (Mc.ext (Bo v20.2.2) Z Z) (oN as' (oN as' (jA (jH (jI (oN mv (oN (Mc.not Z) (jA ?_))))))))));refine jN Z h (fun q22 h=>?_) (fun q22 h=>?_)
     ·refine jH (T.clean (H0:=[bE b13 u12 1 3 (s10.1.map cI),some ⟨0,6,185,[[eL (cL Mh.c) v20.1.p,eL cI v20.1.x.From,eL (cL cI) v20.1.x.Order,eL Mj.c v20.1.events,hS b13 0 u12 1 s10.1.length,hS false 2 u15 1 v20.1.busy.length]]⟩,bE false u15 1 4 (v20.1.busy.map cB),some ⟨0,5,74,[(Mj.c (J v1 s10.2.2.2.2.2.2))]⟩]) (e0:=au []) Z Ma (jC (oN as' (oN as' (jA (jK ?_))))));obtain rfl:=Mg h;replace h:=congrArg some (show _=_ from ks18);refine lX h fun h=>?_;obtain rfl:=Mg h;replace h:=congrArg some (show _=_ from ks3);obtain rfl:=Mg h
      repeat (first|refine cn ?_|refine cu ?_)
      exact jQ (vs:=[.nil,Bo false]) (.cons (.tmp Z) (.cons (.tmp Z) .nil)) (.tupL (.cons .nil0 (.cons (qC Z) .nil)))
     ·refine jG (T.clean (H0:=[bE b13 u12 1 3 (s10.1.map cI),some ⟨0,6,185,[[eL (cL Mh.c) v20.1.p,eL cI v20.1.x.From,eL (cL cI) v20.1.x.Order,eL Mj.c v20.1.events,hS b13 0 u12 1 s10.1.length,hS false 2 u15 1 v20.1.busy.length]]⟩,bE false u15 1 4 (v20.1.busy.map cB),some ⟨0,5,74,[(Mj.c (J v1 s10.2.2.2.2.2.2))]⟩]) (e0:=au [(10,I v20.2.1),(32,I s10.2.2.2.2.2.2),(31,I (v1.length:Int)),(30,eL Mj.c v1),(6,.hp 1 0 6 0 0)]) Z (Mb Z (Mb Z (Mb Z (Mb Z (Mb Z Ma))))) (jC (oN mv (oN as' (jA ?_)))));obtain rfl:=Mg h;exact ⟨(v20.1.p,v20.1.x.From,v20.1.x.Order,v20.1.events,v20.1.busy,v20.2.1),u15,ks18,trivial,kw Z Z⟩
    ·refine jG ?_;obtain rfl:=Mg h;exact ⟨(s10.2.1,s10.2.2.1,s10.2.2.2.1,s10.2.2.2.2.1,s10.2.2.2.2.2.1,(-1:Int)),u15,ks18,trivial,kw Z Z⟩
  ·refine jM (lX h fun h=>?_);obtain rfl:=Mg h;exact ⟨(s10.1,s10.2.1,s10.2.2.1,s10.2.2.2.1,s10.2.2.2.2.1,s10.2.2.2.2.2.1),((b13,u12),u15),ks3,n14,kw Z Z⟩
set_option maxHeartbeats 4000000 in
theorem qB (v:Ml) (aH:Nat) {q:Ml×(LI)} (h:dL v=some q):dz Tryz.prog 91 [.hp 0 aH 16 0 0] [some ⟨aH,16,112,[(Ml.c v)]⟩] (eL cI q.2) [some ⟨aH,16,112,[(Ml.c (⟨q.1.p,q.1.pc,q.1.reg,q.1.mem⟩:Ml))]⟩]:=by
 refine aM Tryz.func91 Z (by kernel_rfl) Z (jI (oN as' (jA (jH (T.reserve (jC (oN (Mc.asg (hS true 1 0 1 (([]:LI).length)) Z) (jA ?_))))))));refine T.jF (G:=(Bool×Nat)) h (fun s1 gh=>(gh.1=true->s1=[])) (fun s1 gh=>[(3,hS gh.1 1 gh.2 1 s1.length),(0,.hp 0 aH 16 0 0)]) (fun s1 gh=>[some ⟨aH,16,112,[(Ml.c v)]⟩,bE gh.1 gh.2 1 3 (s1.map cI)]) (fun s1 gh h n36=>?_) (fun s1 h=>?_)
 ·obtain ⟨b35,u34⟩:=gh;refine T.jF (G:=(Bool×Nat)) h (fun s37 gh=>(gh.1=true->s37=[])) (fun s37 gh=>[(3,hS gh.1 1 gh.2 1 s37.length)]) (fun s37 gh=>[some ⟨aH,16,112,[(Ml.c v)]⟩,bE gh.1 gh.2 1 3 (s37.map cI)]) (fun s37 gh h n55=>?_) (fun s37 h=>?_)
  ·obtain ⟨b54,u53⟩:=gh;refine jI (oN mv (oN (Mc.asg (hS b54 1 u53 1 s37.length) Z) (jA (jK ?_))));obtain rfl:=Mg h
   repeat (first|refine cn ?_|refine cu ?_)
   exact ⟨au [(2,eL cI s37)],[some ⟨aH,16,112,[(Ml.c (⟨(⟨v.p,(⟨v.pc.x0,v.pc.x1,v.pc.x2⟩:Z3b),(⟨(⟨v.reg.x0.x0,v.reg.x0.x1,v.reg.x0.x2⟩:Z3b),(⟨v.reg.x1.x0,v.reg.x1.x1,v.reg.x1.x2⟩:Z3b),(⟨v.reg.x2.x0,v.reg.x2.x1,v.reg.x2.x2⟩:Z3b)⟩:Z33),(⟨v.mem.x0,v.mem.x1,v.mem.x2⟩:Z3b)⟩:Ml).p,((⟨v.p,(⟨v.pc.x0,v.pc.x1,v.pc.x2⟩:Z3b),(⟨(⟨v.reg.x0.x0,v.reg.x0.x1,v.reg.x0.x2⟩:Z3b),(⟨v.reg.x1.x0,v.reg.x1.x1,v.reg.x1.x2⟩:Z3b),(⟨v.reg.x2.x0,v.reg.x2.x1,v.reg.x2.x2⟩:Z3b)⟩:Z33),(⟨v.mem.x0,v.mem.x1,v.mem.x2⟩:Z3b)⟩:Ml).pc),(⟨(((⟨v.p,(⟨v.pc.x0,v.pc.x1,v.pc.x2⟩:Z3b),(⟨(⟨v.reg.x0.x0,v.reg.x0.x1,v.reg.x0.x2⟩:Z3b),(⟨v.reg.x1.x0,v.reg.x1.x1,v.reg.x1.x2⟩:Z3b),(⟨v.reg.x2.x0,v.reg.x2.x1,v.reg.x2.x2⟩:Z3b)⟩:Z33),(⟨v.mem.x0,v.mem.x1,v.mem.x2⟩:Z3b)⟩:Ml).reg).x0),(((⟨v.p,(⟨v.pc.x0,v.pc.x1,v.pc.x2⟩:Z3b),(⟨(⟨v.reg.x0.x0,v.reg.x0.x1,v.reg.x0.x2⟩:Z3b),(⟨v.reg.x1.x0,v.reg.x1.x1,v.reg.x1.x2⟩:Z3b),(⟨v.reg.x2.x0,v.reg.x2.x1,v.reg.x2.x2⟩:Z3b)⟩:Z33),(⟨v.mem.x0,v.mem.x1,v.mem.x2⟩:Z3b)⟩:Ml).reg).x1),(((⟨v.p,(⟨v.pc.x0,v.pc.x1,v.pc.x2⟩:Z3b),(⟨(⟨v.reg.x0.x0,v.reg.x0.x1,v.reg.x0.x2⟩:Z3b),(⟨v.reg.x1.x0,v.reg.x1.x1,v.reg.x1.x2⟩:Z3b),(⟨v.reg.x2.x0,v.reg.x2.x1,v.reg.x2.x2⟩:Z3b)⟩:Z33),(⟨v.mem.x0,v.mem.x1,v.mem.x2⟩:Z3b)⟩:Ml).reg).x2)⟩:Z33),((⟨v.p,(⟨v.pc.x0,v.pc.x1,v.pc.x2⟩:Z3b),(⟨(⟨v.reg.x0.x0,v.reg.x0.x1,v.reg.x0.x2⟩:Z3b),(⟨v.reg.x1.x0,v.reg.x1.x1,v.reg.x1.x2⟩:Z3b),(⟨v.reg.x2.x0,v.reg.x2.x1,v.reg.x2.x2⟩:Z3b)⟩:Z33),(⟨v.mem.x0,v.mem.x1,v.mem.x2⟩:Z3b)⟩:Ml).mem)⟩:Ml))]⟩],mR Z (.cons (.row (.cons (.fz (qC Z)) (.cons (.fz (qC Z)) (.cons (.fz (qC Z)) (.cons (.fz (qC Z)) (.cons (.fz (qC Z)) (.cons (.fz (qC Z)) (.cons (.fz (qC Z)) (.cons (.fz (qC Z)) (.cons (.fz (qC Z)) (.cons (.fz (qC Z)) (.cons (.fz (qC Z)) (.cons (.fz (qC Z)) (.cons (.fz (qC Z)) (.cons (.fz (qC Z)) (.cons (.fz (qC Z)) (.cons (.fz (qC Z)) .nil))))))))))))))))) .nil) (aj (.fz (Fz.own (g:=b54) (ver:=u53) (l:=s37) Z Z Z n55 qD)) aN),jQ (vs:=[eL cI s37]) (.cons (.tmp Z) .nil) ⟨Z,Z⟩⟩
  ·refine jI (oN mv (oN (nl Z) (oN (fa uK Z) (oA (lh (.agg (Z3b.c v.mem)) BH Z Z Z) (oN mv (jA (jE ?_)))))));refine jO (S:=(LI)×Int) (G:=(Bool×Nat)) (d9 v) (fun s43 gh=>(gh.1=true->s43.1=[])) (fun s43 gh=>[(37,I s43.2),(36,.agg (Z3b.c v.mem)),(3,hS gh.1 1 gh.2 1 s43.1.length)]) (fun s43 gh=>[some ⟨aH,16,112,[(Ml.c v)]⟩,bE gh.1 gh.2 1 3 (s43.1.map cI)]) (s0:=(s1,U)) (b35,u34) h n36 (kw Z Z) (fun s43 gh ws43 h n47=>?_);obtain ⟨b46,u45⟩:=gh;refine jI (oN (Mc.ilt Z Z) (jA (jH ?_)));refine jN Z h (fun q48 h=>?_) (fun q48 h=>?_)
   ·refine jG (jH (jE (jI (jD h fun g49 h=>oN (Mc.ixag (Y (Z3b.get v.mem s43.2)) Tryz.underlying109 ty5 Z Z g49 (FQ (P:=fun (z:Int)=>nL false 1 (Z3b.c v.mem) (z.toNat*1)=some (Y (Z3b.get v.mem z))) g49 Z Z Z)) (oN as' (jA (jC (oN mv (oN mv (jW h fun g50 h=>oN (Mc.iconv ty5.und Tryz.underlying3 Z g50) (oN (Mc.mkF (c:=cI) ([(Z3b.get v.mem s43.2)]:LI) [[I (Z3b.get v.mem s43.2)]] bf Z Z Z qD qD Z) (jL h fun g51 h=>oA (EvA.app1 (g:=b46) (l:=s43.1) (Z3b.get v.mem s43.2) bf (by kernel_rfl) Z Z Z n47 (bG.fz (l:=([(Z3b.get v.mem s43.2)]:LI)) Z qD) g51) ?_))))))))))));refine oN (Mc.asg (hS false 1 (u45+1) 1 ((s43.1++[(Z3b.get v.mem s43.2)]).length)) Z) (jA (jC (jW h fun g52 h=>oN (Mc.add Z Z g52) (oN mv (jA ?_)))));obtain rfl:=Mg h;exact ⟨((s43.1++[(Z3b.get v.mem s43.2)]),(s43.2+V)),(false,u45+1),Z,nofun,kw Z Z⟩
   ·refine jM (lX h fun h=>?_)
    cases h
    exact ⟨(b46,u45),n47,kw Z Z⟩
 ·refine jI (oN mv (oN (nl Z) (oN (fa uK Z) (oA (lh (eL (cL Mh.c) v.p) HE Z Z Z) (oN (Mc.lenL lF Z) (oN mv (jA (jE ?_))))))));refine jO (S:=(LI)×Int) (G:=(Bool×Nat)) (eU v) (fun s7 gh=>(gh.1=true->s7.1=[])) (fun s7 gh=>[(14,I s7.2),(13,I (v.p.length:Int)),(3,hS gh.1 1 gh.2 1 s7.1.length),(0,.hp 0 aH 16 0 0)]) (fun s7 gh=>[some ⟨aH,16,112,[(Ml.c v)]⟩,bE gh.1 gh.2 1 3 (s7.1.map cI)]) (s0:=(([]:LI),U)) (true,0) h qD (kw Z Z) (fun s7 gh ws7 h n11=>?_);obtain ⟨b10,u9⟩:=gh;refine jI (oN (Mc.ilt Z Z) (jA (jH ?_)));refine jN Z h (fun q12 h=>?_) (fun q12 h=>?_)
  ·refine jG ?_;refine T.jF (G:=(Bool×Nat)) h (fun s13 gh=>(gh.1=true->s13=[])) (fun s13 gh=>[(14,I s7.2),(13,I (v.p.length:Int)),(3,hS gh.1 1 gh.2 1 s13.length),(0,.hp 0 aH 16 0 0)]) (fun s13 gh=>[some ⟨aH,16,112,[(Ml.c v)]⟩,bE gh.1 gh.2 1 3 (s13.map cI)]) (fun s13 gh h n32=>?_) (fun s13 h=>?_)
   ·obtain ⟨b31,u30⟩:=gh;refine jC (jW h fun g33 h=>oN (Mc.add Z Z g33) (oN mv (jA ?_)));obtain rfl:=Mg h;exact ⟨(s13,(s7.2+V)),(b31,u30),Z,n32,kw Z Z⟩
   ·refine jE (jI (oN mv (oN as' (jA (jI (oN mv (oN mv (oN (nl Z) (oN (fa uK Z) (jD h fun g14 h=>oN (Mc.ixahp Tryz.underlying110 BH Z Z g14) (oA (lh1 (fun z0 => .agg (Z3b.c (Z33.get v.reg z0))) g14 BH Z Z Z Z Z) (oN mv (jA (jE ?_))))))))))))));refine jO (S:=(LI)×Int) (G:=(Bool×Nat)) (dZ v s7) (fun s20 gh=>(gh.1=true->s20.1=[])) (fun s20 gh=>[(23,I s20.2),(22,.agg (Z3b.c (Z33.get v.reg s7.2))),(14,I s7.2),(13,I (v.p.length:Int)),(3,hS gh.1 1 gh.2 1 s20.1.length),(0,.hp 0 aH 16 0 0)]) (fun s20 gh=>[some ⟨aH,16,112,[(Ml.c v)]⟩,bE gh.1 gh.2 1 3 (s20.1.map cI)]) (s0:=(s7.1,U)) (b10,u9) h n11 (kw Z Z) (fun s20 gh ws20 h n24=>?_);obtain ⟨b23,u22⟩:=gh;refine jI (oN (Mc.ilt Z Z) (jA (jH ?_)));refine jN Z h (fun q25 h=>?_) (fun q25 h=>?_)
    ·refine jG (jH (jE (jI (jD h fun g26 h=>oN (Mc.ixag (Y (Z3b.get (Z33.get v.reg s7.2) s20.2)) Tryz.underlying109 ty5 Z Z g26 (FQ (P:=fun (z:Int)=>nL false 1 (Z3b.c (Z33.get v.reg s7.2)) (z.toNat*1)=some (Y (Z3b.get (Z33.get v.reg s7.2) z))) g26 Z Z Z)) (oN as' (jA (jC (oN mv (oN mv (jW h fun g27 h=>oN (Mc.iconv ty5.und Tryz.underlying3 Z g27) (oN (Mc.mkF (c:=cI) ([(Z3b.get (Z33.get v.reg s7.2) s20.2)]:LI) [[I (Z3b.get (Z33.get v.reg s7.2) s20.2)]] bf Z Z Z qD qD Z) (jL h fun g28 h=>oA (EvA.app1 (g:=b23) (l:=s20.1) (Z3b.get (Z33.get v.reg s7.2) s20.2) bf (by kernel_rfl) Z Z Z n24 (bG.fz (l:=([(Z3b.get (Z33.get v.reg s7.2) s20.2)]:LI)) Z qD) g28) ?_))))))))))));refine oN (Mc.asg (hS false 1 (u22+1) 1 ((s20.1++[(Z3b.get (Z33.get v.reg s7.2) s20.2)]).length)) Z) (jA (jC (jW h fun g29 h=>oN (Mc.add Z Z g29) (oN mv (jA ?_)))));obtain rfl:=Mg h;exact ⟨((s20.1++[(Z3b.get (Z33.get v.reg s7.2) s20.2)]),(s20.2+V)),(false,u22+1),Z,nofun,kw Z Z⟩
    ·refine jM (lX h fun h=>?_)
     cases h
     exact ⟨(b23,u22),n24,kw Z Z⟩
  ·refine jM (lX h fun h=>?_)
   cases h
   exact ⟨(b10,u9),n11,kw Z Z⟩
set_option maxHeartbeats 4000000 in
theorem wR (p:List (List Mh)) (x:Mi) {q:(LI)×Bool} (h:n8 p x=some q):aA Tryz.prog 40 [eL (cL Mh.c) p,.agg (Mi.c x)] (.tup [eL cI q.1,Bo q.2]):=by
 refine pM Tryz.func40 Z (by kernel_rfl) Z (jI (oN (Mc.bxF [eL cI x.From,eL (cL cI) x.Order] Z Z Z) (oN as' (oN as' (jA (jI (oN mv (oN (lf (.agg (Mi.c x)) tG Z) (oC h (fun _=>xV _ _) Z Z Z Z fun v1 _ h=>oN mv (oN (Mc.ext (eL cI v1.1) Z Z) (oN (Mc.ext (Bo v1.2) Z Z) (oN as' (oN as' (jA ?_))))))))))))));refine jH (jI (oN mv (oN (Mc.not Z) (jA ?_))));refine jN Z h (fun q2 h=>?_) (fun q2 h=>?_)
 ·refine jI (oN as' (oN as' (jA (jK ?_))));obtain rfl:=Mg h
  repeat (first|refine cn ?_|refine cu ?_)
  exact jQ (vs:=[.nil,Bo false]) (.cons (.tmp Z) (.cons (.tmp Z) .nil)) (.tupL (.cons .nil0 (.cons (qC Z) .nil)))
 ·refine jG (jI (oN mv (oN (Mc.build [eL (cL Mh.c) p,Y U,Y U,Y U,Y U,Y U,Y U,Y U,Y U,Y U,Y U,Y U,Y U,Y U,Y U,Y U] Tryz.underlying112 JZ uK Z Z) (oA (EvA.al JZ Z Z) (oV (sr [eL (cL Mh.c) p,Y U,Y U,Y U,Y U,Y U,Y U,Y U,Y U,Y U,Y U,Y U,Y U,Y U,Y U,Y U] Lv Z Z Z Z) (jA ?_))))));refine T.jU h (fun s3=>[(8,.hp 0 0 16 0 0),(6,eL cI v1.1),(3,.fp (Mi.c x) 0)]) (fun s3=>[some ⟨0,16,112,[[eL (cL Mh.c) p,Y U,Y U,Y U,Y s3.1,Y s3.2.1,Y s3.2.2.1,Y s3.2.2.2.1,Y s3.2.2.2.2.1,Y s3.2.2.2.2.2.1,Y s3.2.2.2.2.2.2.1,Y s3.2.2.2.2.2.2.2.1,Y s3.2.2.2.2.2.2.2.2,Y U,Y U,Y U]]⟩]) (fun s3 h=>?_) (fun s3 h=>?_)
  ·refine T.jU h (fun s21=>[(8,.hp 0 0 16 0 0)]) (fun s21=>[some ⟨0,16,112,[[eL (cL Mh.c) p,Y U,Y U,Y U,Y s3.1,Y s3.2.1,Y s3.2.2.1,Y s3.2.2.2.1,Y s3.2.2.2.2.1,Y s3.2.2.2.2.2.1,Y s3.2.2.2.2.2.2.1,Y s3.2.2.2.2.2.2.2.1,Y s3.2.2.2.2.2.2.2.2,Y s21.1,Y s21.2.1,Y s21.2.2]]⟩]) (fun s21 h=>?_) (fun s21 h=>?_)
   ·refine jI (jB h fun v35 cv35 h=>oA (EvA.call Z Z Z ((qB (⟨p,(⟨U,U,U⟩:Z3b),(⟨(⟨s3.1,s3.2.1,s3.2.2.1⟩:Z3b),(⟨s3.2.2.2.1,s3.2.2.2.2.1,s3.2.2.2.2.2.1⟩:Z3b),(⟨s3.2.2.2.2.2.2.1,s3.2.2.2.2.2.2.2.1,s3.2.2.2.2.2.2.2.2⟩:Z3b)⟩:Z33),(⟨s21.1,s21.2.1,s21.2.2⟩:Z3b)⟩:Ml) 0 cv35).one 0 Z (.cons (.hp Z) .nil) (ak Z) (ak Z) Z)) (oN as' (oN as' (jA (jK ?_)))));obtain rfl:=Mg h
    repeat (first|refine cn ?_|refine cu ?_)
    exact jQ (vs:=[eL cI v35.2,Bo true]) (.cons (.tmp Z) (.cons (.tmp Z) .nil)) (.tupL (.cons (qC Z) (.cons (qC Z) .nil)))
   ·refine jI (oN (fa wI Z) (oN (lf (eL (cL cI) x.Order) Dx Z) (oN (Mc.lenL xE Z) (oN mv (jA (jE ?_))))));refine T.lU h (fun s25=>[(61,I s25.2.2.2),(60,I (x.Order.length:Int)),(59,eL (cL cI) x.Order),(8,.hp 0 0 16 0 0),(6,eL cI v1.1)]) (fun s25=>[some ⟨0,16,112,[[eL (cL Mh.c) p,Y U,Y U,Y U,Y s3.1,Y s3.2.1,Y s3.2.2.1,Y s3.2.2.2.1,Y s3.2.2.2.2.1,Y s3.2.2.2.2.2.1,Y s3.2.2.2.2.2.2.1,Y s3.2.2.2.2.2.2.2.1,Y s3.2.2.2.2.2.2.2.2,Y s25.1,Y s25.2.1,Y s25.2.2.1]]⟩]) (kw Z Z) (fun s25 ws25 h=>?_);refine jI (oN (Mc.ilt Z Z) (jA (jH ?_)));refine jN Z h (fun q27 h=>?_) (fun q27 h=>?_)
    ·refine jG (jH (jE (jI (oN mv (jD h fun g28 h=>oN (Mc.ixL xE Z Z g28 qD) (oN (lf (eL cI (J x.Order s25.2.2.2)) oH Z) (oN as' (oN as' (jA (jC (oN mv (oN mv (oN mv (oN mv ?_))))))))))))));refine oN (Mc.lenL bf Z) (jW h fun g29 h=>oN (Mc.sub Z Z g29) (jD h fun g30 h=>oN (Mc.ixL bf Z Z g30 qD) (oN (lf (I (J (J x.Order s25.2.2.2) (((J x.Order s25.2.2.2).length:Int)-V))) Mx Z) (jD h fun g31 h=>oN (Mc.ixL bf Z Z g31 qD) (oN (lf (I (J v1.1 (J (J x.Order s25.2.2.2) (((J x.Order s25.2.2.2).length:Int)-V)))) Mx Z) (jW h fun g32 h=>oN (Mc.iconv Mx.und Tryz.underlying5 Z g32) (oN (fa uK Z) (jD h fun g33 h=>oN (Mc.ixahp Tryz.underlying109 ty5 Z Z g33) (oV (sr1 (fun z0=>(Ml.c (⟨p,(⟨U,U,U⟩:Z3b),(⟨(⟨s3.1,s3.2.1,s3.2.2.1⟩:Z3b),(⟨s3.2.2.2.1,s3.2.2.2.2.1,s3.2.2.2.2.2.1⟩:Z3b),(⟨s3.2.2.2.2.2.2.1,s3.2.2.2.2.2.2.2.1,s3.2.2.2.2.2.2.2.2⟩:Z3b)⟩:Z33),(Z3b.set (⟨s25.1,s25.2.1,s25.2.2.1⟩:Z3b) z0 (J v1.1 (J (J x.Order s25.2.2.2) (((J x.Order s25.2.2.2).length:Int)-V))))⟩:Ml))) g33 ty5 Z Z Z Z Z Z) (jA ?_))))))))));refine T.clean (H0:=[some ⟨0,16,112,[(Ml.c (⟨p,(⟨U,U,U⟩:Z3b),(⟨(⟨s3.1,s3.2.1,s3.2.2.1⟩:Z3b),(⟨s3.2.2.2.1,s3.2.2.2.2.1,s3.2.2.2.2.2.1⟩:Z3b),(⟨s3.2.2.2.2.2.2.1,s3.2.2.2.2.2.2.2.1,s3.2.2.2.2.2.2.2.2⟩:Z3b)⟩:Z33),(Z3b.set (⟨s25.1,s25.2.1,s25.2.2.1⟩:Z3b) s25.2.2.2 (J v1.1 (J (J x.Order s25.2.2.2) (((J x.Order s25.2.2.2).length:Int)-V))))⟩:Ml))]⟩]) (e0:=au [(61,I s25.2.2.2),(60,I (x.Order.length:Int)),(59,eL (cL cI) x.Order),(8,.hp 0 0 16 0 0),(6,eL cI v1.1)]) Z (Mb Z (Mb Z (Mb Z (Mb Z (Mb Z Ma))))) (jC (jW h fun g34 h=>oN (Mc.add Z Z g34) (oN mv (jA ?_))));exact lE h (kw Z Z)
    ·refine jM (lX h fun h=>?_)
     cases h
     exact ⟨(),trivial,kw Z Z⟩
  ·refine jI (oN mv (oC h (fun _=>jl _) Z Z Z Z fun v4 _ h=>oN (Mc.lenL vF Z) (oN mv (jA (jE ?_)))));refine T.lU h (fun s7=>[(26,I s7.2.2.2.2.2.2.2.2.2),(25,I (v4.length:Int)),(24,eL Mj.c v4),(8,.hp 0 0 16 0 0),(6,eL cI v1.1),(3,.fp (Mi.c x) 0),(0,eL (cL Mh.c) p)]) (fun s7=>[some ⟨0,16,112,[[eL (cL Mh.c) p,Y U,Y U,Y U,Y s7.1,Y s7.2.1,Y s7.2.2.1,Y s7.2.2.2.1,Y s7.2.2.2.2.1,Y s7.2.2.2.2.2.1,Y s7.2.2.2.2.2.2.1,Y s7.2.2.2.2.2.2.2.1,Y s7.2.2.2.2.2.2.2.2.1,Y U,Y U,Y U]]⟩]) (kw Z Z) (fun s7 ws7 h=>?_);let d0:=(⟨(⟨s7.1,s7.2.1,s7.2.2.1⟩:Z3b),(⟨s7.2.2.2.1,s7.2.2.2.2.1,s7.2.2.2.2.2.1⟩:Z3b),(⟨s7.2.2.2.2.2.2.1,s7.2.2.2.2.2.2.2.1,s7.2.2.2.2.2.2.2.2.1⟩:Z3b)⟩:Z33);refine jI (oN (Mc.ilt Z Z) (jA (jH ?_)));refine jN Z h (fun q9 h=>?_) (fun q9 h=>?_)
   ·refine jG ?_;refine T.jU h (fun s10=>[(26,I s7.2.2.2.2.2.2.2.2.2),(25,I (v4.length:Int)),(24,eL Mj.c v4),(8,.hp 0 0 16 0 0),(6,eL cI v1.1),(3,.fp (Mi.c x) 0),(0,eL (cL Mh.c) p)]) (fun s10=>[some ⟨0,16,112,[[eL (cL Mh.c) p,Y U,Y U,Y U,Y s10.1,Y s10.2.1,Y s10.2.2.1,Y s10.2.2.2.1,Y s10.2.2.2.2.1,Y s10.2.2.2.2.2.1,Y s10.2.2.2.2.2.2.1,Y s10.2.2.2.2.2.2.2.1,Y s10.2.2.2.2.2.2.2.2,Y U,Y U,Y U]]⟩]) (fun s10 h=>?_) (fun s10 h=>?_)
    ·refine jC (jW h fun g20 h=>oN (Mc.add Z Z g20) (oN mv (jA ?_)));exact lE h (kw Z Z)
    ·refine jE (jI (oN mv (jD h fun g11 h=>oN (Mc.ixL vF Z Z g11 qD) (oN (lf (.agg (Mj.c (J v4 s7.2.2.2.2.2.2.2.2.2))) zG Z) (oA (EvA.al Eh Z Z) (oN as' (oV (sr (Mj.c (J v4 s7.2.2.2.2.2.2.2.2.2)) zG Z Z Z Z) (jA (jI (oN (fa pO Z) (oA (lh (Bo ((J v4 s7.2.2.2.2.2.2.2.2.2).Reads)) ty4 Z Z Z) (jA ?_))))))))))));refine jN Z h (fun q12 h=>?_) (fun q12 h=>?_)
     ·refine jP (dG [dF,([1],false),dF,dF,([1],false),dF,dF,dF,([1],false),dF,dF,dF,dF,dF,dF,dF,dF,dF,dF,dF,dF,dF,dF,dF,([0],true)]) (by kernel_rfl) (by kernel_rfl) (fN Z (fa pO Z) (fR [1] Z (fun G hG=>EvA.loadhp (I ((J v4 s7.2.2.2.2.2.2.2.2.2).Thread)) Mx Z (hG.a0 Z) Z Z Z Z) (fN Z mv (fN Z (fa pO Z) (fR [1] Z (fun G hG=>EvA.loadhp (I ((J v4 s7.2.2.2.2.2.2.2.2.2).Thread)) Mx Z (hG.a0 Z) Z Z Z Z) (jD h fun g13 h=>fN Z (Mc.ixL lF Z Z g13 qD) (fN Z (lf (eL Mh.c (J p ((J v4 s7.2.2.2.2.2.2.2.2.2).Thread))) xC Z) (fN Z (fa pO Z) (fR [1] Z (fun G hG=>EvA.loadhp (I ((J v4 s7.2.2.2.2.2.2.2.2.2).Index)) Mx Z (hG.a0 Z) Z Z Z Z) (jD h fun g14 h=>fN Z (Mc.ixL sG Z Z g14 qD) (fN Z (fa nE Z) (fN Z (lf (I ((J (J p ((J v4 s7.2.2.2.2.2.2.2.2.2).Thread)) ((J v4 s7.2.2.2.2.2.2.2.2.2).Index)).Reg)) Mx Z) (fN Z mv ?_)))))))))))));refine fN Z (fa wI Z) (fN Z (lf (eL cI x.From) oH Z) (fN Z mv (jD h fun g15 h=>fN Z (Mc.ixL bf Z Z g15 qD) (fN Z (lf (I (J x.From s7.2.2.2.2.2.2.2.2.2)) Mx Z) (jD h fun g16 h=>fN Z (Mc.ixL bf Z Z g16 qD) (fN Z (lf (I (J v1.1 (J x.From s7.2.2.2.2.2.2.2.2.2))) Mx Z) (jW h fun g17 h=>fN Z (Mc.iconv Mx.und Tryz.underlying5 Z g17) (fN Z (fa uK Z) (jD h fun g18 h=>fN Z (Mc.ixahp Tryz.underlying110 BH Z Z g18) (jD h fun g19 h=>fN Z (Mc.ixahp Tryz.underlying109 ty5 Z Z g19) ?_))))))))));refine fV 0 [] Z Z (fun G hG=>sr2 (fun z0 z1=>(Ml.c (⟨p,(⟨U,U,U⟩:Z3b),(⟨((Z33.set d0 z0 (Z3b.set (Z33.get d0 z0) z1 (J v1.1 (J x.From s7.2.2.2.2.2.2.2.2.2)))).x0),((Z33.set d0 z0 (Z3b.set (Z33.get d0 z0) z1 (J v1.1 (J x.From s7.2.2.2.2.2.2.2.2.2)))).x1),((Z33.set d0 z0 (Z3b.set (Z33.get d0 z0) z1 (J v1.1 (J x.From s7.2.2.2.2.2.2.2.2.2)))).x2)⟩:Z33),(⟨U,U,U⟩:Z3b)⟩:Ml))) g18 g19 ty5 Z Z (hG.a0 Z) ⟨Z,Z,Z,Z,Z,Z,Z,Z,Z⟩) (jR ?_)
      cases h
      exact ⟨(),trivial,mR Z (.cons (.row (.cons (.fz (qC Z)) (.cons (.fz (qC Z)) (.cons (.fz (qC Z)) (.cons (.fz (qC Z)) (.cons (.fz (qC Z)) (.cons (.fz (qC Z)) (.cons (.fz (qC Z)) (.cons (.fz (qC Z)) (.cons (.fz (qC Z)) (.cons (.fz (qC Z)) (.cons (.fz (qC Z)) (.cons (.fz (qC Z)) (.cons (.fz (qC Z)) (.cons (.fz (qC Z)) (.cons (.fz (qC Z)) (.cons (.fz (qC Z)) .nil))))))))))))))))) .nil) (aj (.fz (qC Z)) (aj (.fz (qC Z)) (aj (.fz (qC Z)) (aj (.hp (nlb Z)) (aj (.fz (qC Z)) (aj (.fz (qC Z)) (aj (.fz (qC Z)) aN)))))))⟩
     ·refine jG ?_
      cases h
      exact ⟨(),trivial,mR Z (.cons (.row (.cons (.fz (qC Z)) (.cons (.fz (qC Z)) (.cons (.fz (qC Z)) (.cons (.fz (qC Z)) (.cons (.fz (qC Z)) (.cons (.fz (qC Z)) (.cons (.fz (qC Z)) (.cons (.fz (qC Z)) (.cons (.fz (qC Z)) (.cons (.fz (qC Z)) (.cons (.fz (qC Z)) (.cons (.fz (qC Z)) (.cons (.fz (qC Z)) (.cons (.fz (qC Z)) (.cons (.fz (qC Z)) (.cons (.fz (qC Z)) .nil))))))))))))))))) .nil) (aj (.fz (qC Z)) (aj (.fz (qC Z)) (aj (.fz (qC Z)) (aj (.hp (nlb Z)) (aj (.fz (qC Z)) (aj (.fz (qC Z)) (aj (.fz (qC Z)) aN)))))))⟩
   ·refine jM (lX h fun h=>?_)
    cases h
    exact ⟨(),trivial,kw Z Z⟩
theorem wS (p:List (List Mh)) (x:Mi) {q:(LI)×Bool} (h:kN p x=some q):aA Tryz.prog 12 [eL (cL Mh.c) p,.agg (Mi.c x)] (.tup [eL cI q.1,Bo q.2]):=by
 refine pM Tryz.func12 Z (by kernel_rfl) Z (jI (oN (Mc.bxF [eL cI x.From,eL (cL cI) x.Order] Z Z Z) (oN as' (oN as' (jA (jH (jI (oN mv (oN (lf (.agg (Mi.c x)) tG Z) (oC h (fun _=>qH _ _) Z Z Z Z fun v1 _ h=>oN (Mc.not Z) (jA ?_)))))))))));refine jN Z h (fun q2 h=>?_) (fun q2 h=>?_)
 ·refine jI (oN as' (oN as' (jA (jK ?_))));obtain rfl:=Mg h
  repeat (first|refine cn ?_|refine cu ?_)
  exact jQ (vs:=[.nil,Bo false]) (.cons (.tmp Z) (.cons (.tmp Z) .nil)) (.tupL (.cons .nil0 (.cons (qC Z) .nil)))
 ·refine jG (jI (oN mv (oN (lf (.agg (Mi.c x)) tG Z) (oC h (fun _=>wR _ _) Z Z Z Z fun v3 _ h=>oN (Mc.ext (eL cI v3.1) Z Z) (oN (Mc.ext (Bo v3.2) Z Z) (oN as' (oN as' (jA (jK ?_)))))))));obtain rfl:=Mg h
  repeat (first|refine cn ?_|refine cu ?_)
  exact jQ (vs:=[eL cI v3.1,Bo v3.2]) (.cons (.tmp Z) (.cons (.tmp Z) .nil)) (.tupL (.cons (qC Z) (.cons (qC Z) .nil)))
end
end Go.Proofs.YtcmimhffgmckjaaGreatDoor
