/- Texts joined. No conditions. -/
import Derived.Test.YtcmimhffgmckjaaGreatDoorU12
namespace Go.Proofs.YtcmimhffgmckjaaGreatDoor
noncomputable section
open Go.RowKit
set_option maxRecDepth 100000
theorem uy (m:List ai) {q:ByteArray} (h:iJ m=some q):aA Tryz.prog 100 [eL ai.c m] (St q):=by
 refine pM Tryz.func100 Z (by kernel_rfl) Z (jI (oN as' (jA (jH (jI (oN mv (oC h (fun _=>pX _) Z Z Z Z fun v1 _ h=>oN (Lx.not Z) (jA ?_))))))));refine jN Z h (fun q2 h=>?_) (fun q2 h=>?_)
 ·refine jI (oN as' (jA (jK ?_)))
  cases h
  exact bO Z Z Z
 ·refine jG (jI (oN mv (oN (Lx.lenL GU Z) (jD h fun g3 h=>oA (EvA.mkN (c:=cS) (default:ByteArray) zg Z Z g3 Z Z Z) (oN (Lx.asg (hS false 0 0 1 ((List.replicate (m.length:Int).toNat (default:ByteArray)).length)) Z) (jA ?_))))));refine T.jF (G:=Nat) h (fun s4 gh=>True) (fun s4 gh=>[(3,hS false 0 gh 1 s4.length)]) (fun s4 gh=>[bE false gh 1 9 (s4.map cS)]) (fun s4 u19 h hg=>?_) (fun s4 h=>?_)
  ·refine jI (oN mv (jB h fun v20 cv20 h=>oA (EvA.callT Z Z (xY s4 (⟨#[47]⟩:ByteArray) cv20) (.cons (Fz.own (g:=false) (ver:=u19) (l:=s4) Z Z Z nofun qD) (.cons (qC Z) .nil)) Z) (oN as' (jA (jK ?_)))))
   cases h
   exact bO Z Z Z
  ·refine jI (oN mv (oN (Lx.lenL GU Z) (oN mv (jA (jE ?_)))));refine jO (S:=(List ByteArray)×Int) (G:=Nat) (fo m) (fun s8 gh=>True) (fun s8 gh=>[(14,I s8.2),(13,I (m.length:Int)),(12,eL ai.c m),(3,hS false 0 gh 1 s8.1.length)]) (fun s8 gh=>[bE false gh 1 9 (s8.1.map cS)]) (s0:=((List.replicate (m.length:Int).toNat (default:ByteArray)),U)) 0 h trivial (kw Z Z) (fun s8 u10 ws8 h hg=>?_);refine jI (oN (Lx.ilt Z Z) (jA (jH ?_)));refine jN Z h (fun q11 h=>?_) (fun q11 h=>?_)
   ·refine jG (jH (jE (jI (oN mv (jD h fun g12 h=>oN (Lx.ixL GU Z Z g12 qD) (oN (lf (.agg (ai.c (J m s8.2))) Ei Z) (oA (EvA.al Ic Z Z) (oN as' (oV (sr (ai.c (⟨(J m s8.2).Kind,((J m s8.2).Expr)⟩:ai)) Ei Z Z Z Z) (jA (jP (dG [dF,dF,dF,([1],false),dF,dF,dF,dF,([1],false),dF,dF,dF,([0],true)]) (by kernel_rfl) (by kernel_rfl) (fN Z mv (fN Z mv (fN Z (fa Ej Z) ?_))))))))))))));refine fR [1] Z (fun G hG=>EvA.loadhp (I ((J m s8.2).Kind)) LR Z (hG.a0 Z) Z Z Z Z) (jD h fun g13 h=>fN Z (Lx.ixafp Tryz.underlying126 ty9 Z Z g13) (fN Z (Lx.ldG (c:=cS) (l:=zC) (St (J zC ((J m s8.2).Kind))) ty9 Z I8 (ay (l:=zC) Z g13) Z Z) (jD h fun g14 h=>fN Z (Lx.cat Z Z g14) (fN Z (fa Ej Z) (fR [1] Z (fun G hG=>EvA.loadhp (.agg (aa.c ((J m s8.2).Expr))) fw Z (hG.a0 Z) Z Z Z Z) (fC h (fun _=>mM _) Z Z Z Z Z fun v15 _ h=>jD h fun g16 h=>fN Z (Lx.cat Z Z g16) (jD h fun g17 h=>fN Z (Lx.ixO (g:=false) zg Z Z nofun g17) (fV 0 [] Z Z (fun G hG=>EvA.stO (g:=false) (l:=s8.1) (cs:=[St (((J zC ((J m s8.2).Kind))++(⟨#[32]⟩:ByteArray))++v15)]) (((J zC ((J m s8.2).Kind))++(⟨#[32]⟩:ByteArray))++v15) ty9 Z Z (hG.a0 Z) nofun (ay Z g17) Z Z Z) (jR (T.clean (H0:=[bE false u10 1 9 ((s8.1.set s8.2.toNat (((J zC ((J m s8.2).Kind))++(⟨#[32]⟩:ByteArray))++v15)).map cS),some ⟨0,4,133,[(ai.c (⟨(J m s8.2).Kind,((J m s8.2).Expr)⟩:ai))]⟩]) (e0:=au [(14,I s8.2),(13,I (m.length:Int)),(12,eL ai.c m),(3,hS false 0 u10 1 s8.1.length)]) Z (Lv Z (Lv Z (Lv Z (Lv Z Lu)))) ?_))))))))));refine jC (jW h fun g18 h=>oN (Lx.add Z Z g18) (oN mv (jA ?_)));obtain rfl:=LC h;exact ⟨((s8.1.set s8.2.toNat (((J zC ((J m s8.2).Kind))++(⟨#[32]⟩:ByteArray))++v15)),(s8.2+(1:Int))),u10,Z,trivial,nB Z (.cons (.list (g:=false) (ver:=u10) (l:=(s8.1.set s8.2.toNat (((J zC ((J m s8.2).Kind))++(⟨#[32]⟩:ByteArray))++v15))) qD) .nil) (aj (.fz (qC Z)) (aj (.fz (qC Z)) (aj (.fz (qC Z)) (aj (.eqv (congrArg (hS false 0 u10 1) (by simp:s8.1.length=(s8.1.set s8.2.toNat (((J zC ((J m s8.2).Kind))++(⟨#[32]⟩:ByteArray))++v15)).length)) (.hS (g:=false) (b:=0) (ver:=u10) (s:=1) (n:=(s8.1.set s8.2.toNat (((J zC ((J m s8.2).Kind))++(⟨#[32]⟩:ByteArray))++v15)).length) Z)) aS))))⟩
   ·refine jM (lX h fun h=>?_)
    cases h
    exact ⟨u10,trivial,kw Z Z⟩
set_option maxHeartbeats 4000000 in
theorem vg (text:ByteArray) {q:(List ai)×Bool} (h:ji text=some q):aA Tryz.prog 44 [St text] (.tup [eL ai.c q.1,Bo q.2]):=by
 refine pM Tryz.func44 Z (by kernel_rfl) Z (jI (oN as' (oN as' (jA (jH (T.reserve (jC (oN (Lx.asg (hS true 0 0 4 (([]:List ai).length)) Z) (jA ?_)))))))));obtain ⟨Ks1,es1,ws1,h,ks1⟩:=sumL h;refine T.join (S:=(List ai)) (G:=(Bool×Nat)) (fun s1=>Ks1 s1=some q) (fun s1 gh=>(gh.1=true->s1=[])) (fun s1 gh=>[(4,hS gh.1 0 gh.2 4 s1.length),(0,St text)]) (fun s1 gh=>[bE gh.1 gh.2 4 133 (s1.map ai.c)]) (fun s1 gh h n25=>?_) ?_
 ·clear ks1;subst es1;obtain ⟨b24,u23⟩:=gh;refine jH (jI (oN mv (jB h fun v26 cv26 h=>oA (EvA.callT Z Z (uy s1 cv26) (.cons (Fz.own (g:=b24) (ver:=u23) (l:=s1) Z Z Z n25 ai.isF) .nil) Z) (oN mv (oN (Lx.sne Z Z) (jA ?_))))));refine jN Z h (fun q27 h=>?_) (fun q27 h=>?_)
  ·refine jI (oN as' (oN as' (jA (jK ?_))));obtain rfl:=LC h
   repeat (first|refine cN ?_|refine cO ?_)
   exact jQ (vs:=[.nil,Bo false]) (.cons (.tmp Z) (.cons (.tmp Z) .nil)) (.tupL (.cons .nil0 (.cons (qC Z) .nil)))
  ·refine jG (jI (oN mv (oN (Lx.asg (hS b24 0 u23 4 s1.length) Z) (oN as' (jA (jK ?_))))));obtain rfl:=LC h
   repeat (first|refine cN ?_|refine cO ?_)
   exact jQ (vs:=[hS b24 0 u23 4 s1.length,Bo true]) (.cons (.tmp Z) (.cons (.tmp Z) .nil)) (.tupL (.cons (Fz.own (g:=b24) (ver:=u23) (l:=s1) Z Z Z n25 ai.isF) (.cons (qC Z) .nil)))
 ·refine jI (oN mv (oC h (fun _=>xm _ _) Z Z Z Z fun v2 _ h=>oN (Lx.lenL zg Z) (oN mv (jA (jE ?_)))));refine jO (S:=(List ai)×Int) (G:=(Bool×Nat)) (fQ v2) (fun s8 gh=>(gh.1=true->s8.1=[])) (fun s8 gh=>[(16,I s8.2),(15,I (v2.length:Int)),(14,eL cS v2),(4,hS gh.1 0 gh.2 4 s8.1.length),(0,St text)]) (fun s8 gh=>[bE gh.1 gh.2 4 133 (s8.1.map ai.c)]) (s0:=(([]:List ai),U)) (true,0) h qD (kw Z Z) (fun s8 gh ws8 h n12=>?_);obtain ⟨b11,u10⟩:=gh;refine jI (oN (Lx.ilt Z Z) (jA (jH ?_)));refine jN Z h (fun q13 h=>?_) (fun q13 h=>?_)
  ·refine jG (jH (jE (jI (jD h fun g14 h=>oN (Lx.ixL zg Z Z g14 qD) (oN (lf (St (J v2 s8.2)) ty9 Z) (oN as' (jA (jI (oN mv (oC h (fun _=>zw _ _) Z Z Z Z fun v15 _ h=>oN mv (oN (Lx.ext (St v15.1) Z Z) (oN (Lx.ext (St v15.2.1) Z Z) (oN (Lx.ext (Bo v15.2.2) Z Z) ?_)))))))))))));refine oN as' (oN as' (oN as' (jA (jI (oN (Lx.slG (c:=cS) zC Tryz.underlying126 ty9 Z Z Z Hk) (oN mv (oC h (fun _=>gQ _ _) Z Z Z Z fun v16 _ h=>oN as' (jA (jI (oN mv (oC h (fun _=>tH _) Z Z Z Z fun v17 _ h=>oN mv (oN (Lx.ext (.agg (aa.c v17.1)) Z Z) (oN (Lx.ext (Bo v17.2) Z Z) ?_)))))))))))));refine oA (EvA.al uX Z Z) (oV (sr [I v17.1.Op,St v17.1.Name,eL TXimpl_RelExpr.c v17.1.Kids] fw Z Z Z Z) (oN as' (jA (jH (jH (T.clean (H0:=[bE b11 u10 4 133 (s8.1.map ai.c),some ⟨0,3,129,[[I v17.1.Op,St v17.1.Name,eL TXimpl_RelExpr.c v17.1.Kids]]⟩]) (e0:=au [(12,Bo v17.2),(11,.hp 1 0 3 0 0),(10,I v16),(16,I s8.2),(15,I (v2.length:Int)),(14,eL cS v2),(4,hS b11 0 u10 4 s8.1.length),(0,St text)]) Z (Lv Z (Lv Z (Lv Z (Lv Z (Lv Z (Lv Z (Lv Z (Lv Z Lu)))))))) (jC (oN mv (oN (Lx.ilt Z Z) (oN mv ?_))))))))));refine TO.jB h 3 (fun s18=>[(39,Bo s18),(11,.hp 1 0 3 0 0),(10,I v16),(16,I s8.2),(15,I (v2.length:Int)),(14,eL cS v2),(4,hS b11 0 u10 4 s8.1.length),(0,St text)]) (fun s18=>[bE b11 u10 4 133 (s8.1.map ai.c),some ⟨0,3,129,[[I v17.1.Op,St v17.1.Name,eL TXimpl_RelExpr.c v17.1.Kids]]⟩]) (fun s18 q19 h js18=>?_) (fun s18 q19 h js18=>?_) (fun s18 h=>?_)
   ·refine gS Z q19 (gS Z q19 (oN (Lx.pickT Z q19 (Bo true) Z) ?_))
    cases h
    exact js18 _ _ (kw Z Z)
   ·refine gN Z q19 mv (gN Z q19 (Lx.not Z) (oN (Lx.pickF Z q19 (Bo (!v17.2)) Z) ?_))
    cases h
    exact js18 _ _ (kw Z Z)
   ·refine jA ?_;refine jN Z h (fun q20 h=>?_) (fun q20 h=>?_)
    ·refine jI (oN as' (oN as' (jA (jK (lX h fun h=>?_)))));obtain rfl:=LC h;replace h:=congrArg some (show _=_ from ks1);obtain rfl:=LC h
     repeat (first|refine cN ?_|refine cO ?_)
     exact jQ (vs:=[.nil,Bo false]) (.cons (.tmp Z) (.cons (.tmp Z) .nil)) (.tupL (.cons .nil0 (.cons (qC Z) .nil)))
    ·refine jG (jC (oN mv (oN mv (oA (lh (.agg [I v17.1.Op,St v17.1.Name,eL TXimpl_RelExpr.c v17.1.Kids]) fw Z Z Z) (oN (Lx.build [I v16,I v17.1.Op,St v17.1.Name,eL TXimpl_RelExpr.c v17.1.Kids] Tryz.underlying133 Ic Ej Z Z) (oN (Lx.mkF (c:=ai.c) ([(⟨v16,(⟨v17.1.Op,v17.1.Name,v17.1.Kids⟩:aa)⟩:ai)]:List ai) [[I v16,I v17.1.Op,St v17.1.Name,eL TXimpl_RelExpr.c v17.1.Kids]] GU Z Z Z qD ai.isF Z) (jL h fun g21 h=>oA (EvA.app1 (g:=b11) (l:=s8.1) (⟨v16,(⟨v17.1.Op,v17.1.Name,v17.1.Kids⟩:aa)⟩:ai) GU (by kernel_rfl) Z Z Z n12 (bL.fz (l:=([(⟨v16,(⟨v17.1.Op,v17.1.Name,v17.1.Kids⟩:aa)⟩:ai)]:List ai)) Z qD) g21) (oN (Lx.asg (hS false 0 (u10+1) 4 ((s8.1++[(⟨v16,(⟨v17.1.Op,v17.1.Name,v17.1.Kids⟩:aa)⟩:ai)]).length)) Z) (jA (jC (jW h fun g22 h=>oN (Lx.add Z Z g22) (oN mv (jA ?_)))))))))))));obtain rfl:=LC h;exact ⟨((s8.1++[(⟨v16,(⟨v17.1.Op,v17.1.Name,v17.1.Kids⟩:aa)⟩:ai)]),(s8.2+V)),(false,u10+1),Z,nofun,nB Z (.cons (.list (g:=false) (ver:=u10+1) (l:=(s8.1++[(⟨v16,(⟨v17.1.Op,v17.1.Name,v17.1.Kids⟩:aa)⟩:ai)])) ai.isF) .nil) (aj (.fz (qC Z)) (aj (.fz (qC Z)) (aj (.fz (qC Z)) (aj (.hS (g:=false) (b:=0) (ver:=u10+1) (s:=4) (n:=(s8.1++[(⟨v16,(⟨v17.1.Op,v17.1.Name,v17.1.Kids⟩:aa)⟩:ai)]).length) Z) (aj (.fz (qC Z)) aS)))))⟩
  ·refine jM (lX h fun h=>?_);obtain rfl:=LC h;exact ⟨s8.1,(b11,u10),ks1,n12,kw Z Z⟩
theorem xZ (name:ByteArray) {q:(List ai)×Bool} (h:j5 name=some q):aA Tryz.prog 14 [St name] (.tup [eL ai.c q.1,Bo q.2]):=by
 refine pM Tryz.func14 Z (by kernel_rfl) Z (jI (oN as' (oN as' (jA (jI (oN mv (oC h (fun _=>ww _) Z Z Z Z fun v1 _ h=>oC h (fun _=>vg _) Z Z Z Z fun v2 _ h=>oN (Lx.ext (eL ai.c v2.1) Z Z) (oN (Lx.ext (Bo v2.2) Z Z) (oN as' (oN as' (jA (jK ?_))))))))))));obtain rfl:=LC h
 repeat (first|refine cN ?_|refine cO ?_)
 exact jQ (vs:=[eL ai.c v2.1,Bo v2.2]) (.cons (.tmp Z) (.cons (.tmp Z) .nil)) (.tupL (.cons (qC Z) (.cons (qC Z) .nil)))
theorem mN (x:LF) (loc:Int) (i:Int) (k_:Int) {q:Bool} (h:dN x loc i k_=some q):aA Tryz.prog 262 [.agg (LF.c x),I loc,I i,I k_] (Bo q):=by
 refine pM Tryz.func262 Z (by kernel_rfl) Z (jI (oN (Lx.bxF [eL cI x.From,eL (cL cI) x.Order] Z Z Z) (oN as' (jA (jH (jP (fun _=>([],false)) (by kernel_rfl) (by kernel_rfl) (fN Z (fa xa Z) (fN Z (lf (eL (cL cI) x.Order) Dy Z) (fN Z mv (jD h fun g1 h=>fN Z (Lx.ixL xO Z Z g1 qD) (fN Z (lf (eL cI (J x.Order loc)) o5 Z) (fN Z mv (fC h (fun _=>gJ _ _) Z Z Z Z Z fun v2 _ h=>fN Z (fa xa Z) ?_)))))))))))));refine fN Z (lf (eL (cL cI) x.Order) Dy Z) (fN Z mv (fN Z (Lx.ixL xO Z Z g1 qD) (fN Z (lf (eL cI (J x.Order loc)) o5 Z) (fN Z mv (fC h (fun _=>gJ _ _) Z Z Z Z Z fun v3 _ h=>fN Z as' (fN Z as' (jR (jH (T.clean (H0:=[]) (e0:=au [(10,I v3),(9,I v2)]) Z (Lv Z (Lv Z Lu)) (jC (oN mv (oN (Lx.ige Z Z) (oN mv ?_)))))))))))));refine TO.jB h 3 (fun s4=>[(30,Bo s4),(10,I v3),(9,I v2)]) (fun s4=>[]) (fun s4 q5 h js4=>?_) (fun s4 q5 h js4=>?_) (fun s4 h=>?_)
 ·refine gN Z q5 mv (gN Z q5 (Lx.ige Z Z) (oN (Lx.pickT Z q5 (Bo (decide (U<=v3))) Z) ?_))
  cases h
  exact js4 _ _ (kw Z Z)
 ·refine gS Z q5 (gS Z q5 (oN (Lx.pickF Z q5 (Bo false) Z) ?_))
  cases h
  exact js4 _ _ (kw Z Z)
 ·refine oN mv ?_;refine TO.jB h 4 (fun s6=>[(35,Bo s6)]) (fun s6=>[]) (fun s6 q7 h js6=>?_) (fun s6 q7 h js6=>?_) (fun s6 h=>?_)
  ·refine gN Z q7 mv (gN Z q7 mv (gN Z q7 (Lx.ilt Z Z) (oN (Lx.pickT Z q7 (Bo (decide (v2<v3))) Z) ?_)))
   cases h
   exact js6 _ _ (kw Z Z)
  ·refine gS Z q7 (gS Z q7 (gS Z q7 (oN (Lx.pickF Z q7 (Bo false) Z) ?_)))
   cases h
   exact js6 _ _ (kw Z Z)
  ·refine oN as' (jA (jK ?_))
   cases h
   exact bO Z Z Z
theorem xq (y:LD) {q:Bool} (h:pG y=some q):aA Tryz.prog 264 [.agg (LD.c y)] (Bo q):=by
 refine pM Tryz.func264 Z (by kernel_rfl) Z (jI (oN (Lx.bxF (LD.c y) Z Z Z) (oN as' (jA (jI (oN (fa nA Z) (oN (lf (I y.Op) LR Z) (oN (Lx.ieq Z Z) (oN as' (jA (jK ?_)))))))))))
 cases h
 exact bO Z Z Z
theorem dB (s:List LD) {q:Int} (h:aV s=some q):aA Tryz.prog 283 [eL LD.c s,.fn (.func 264) []] (I q):=by
 refine pM Tryz.func283 Z (by kernel_rfl) Z (jI (oN as' (jA ?_)));obtain ⟨Ks1,es1,ws1,h,ks1⟩:=sumL h;refine T.join (S:=Unit) (G:=Unit) (fun s1=>Ks1 s1=some q) (fun s1 gh=>True) (fun s1 gh=>[]) (fun s1 gh=>[]) (fun s1 gh h hg=>?_) ?_
 ·clear ks1;subst es1;refine jI (oN as' (jA (jK ?_)))
  cases h
  exact bO Z Z Z
 ·refine jI (oN mv (oN (Lx.lenL sj Z) (oN mv (jA (jE ?_)))));refine T.lU h (fun s4=>[(8,I s4),(7,I (s.length:Int)),(0,eL LD.c s),(1,.fn (.func 264) [])]) (fun s4=>[]) (kw Z Z) (fun s4 ws4 h=>?_);refine jI (oN (Lx.ilt Z Z) (jA (jH ?_)));refine jN Z h (fun q6 h=>?_) (fun q6 h=>?_)
  ·refine jG (jH (jE (jI (oN mv (oN as' (jA (jI (oN mv (oN mv (oN mv (jD h fun g7 h=>oN (Lx.ixL sj Z Z g7 qD) (oN (lf (.agg (LD.c (J s s4))) m8 Z) (oC h (fun _=>xq _) Z Z Z Z fun v8 _ h=>jA ?_)))))))))))));refine jN Z h (fun q9 h=>?_) (fun q9 h=>?_)
   ·refine jI (oN mv (oN as' (jA (jK (lX h fun h=>?_)))));obtain rfl:=LC h;replace h:=congrArg some (show _=_ from ks1)
    cases h
    exact bO Z Z Z
   ·refine jG (jC (jW h fun g10 h=>oN (Lx.add Z Z g10) (oN mv (jA ?_))));exact lE h (kw Z Z)
  ·refine jM (lX h fun h=>?_)
   cases h
   exact ⟨(),(),ks1,trivial,kw Z Z⟩
theorem cV (s:List LD) {q:Bool} (h:aD s=some q):aA Tryz.prog 263 [eL LD.c s,.fn (.func 264) []] (Bo q):=by
 refine pM Tryz.func263 Z (by kernel_rfl) Z (jI (oN as' (jA (jI (oN mv (oN mv (oC h (fun _=>dB _) Z Z Z Z fun v1 _ h=>oN (Lx.ige Z Z) (oN as' (jA (jK ?_))))))))))
 cases h
 exact bO Z Z Z
theorem ik (e_:LG) (writes:Bool) {q:Bool} (h:da e_ writes=some q):aA Tryz.prog 265 [.agg (LG.c e_),Bo writes] (Bo q):=by
 refine pM Tryz.func265 Z (by kernel_rfl) Z (jI (oN (Lx.bxF [I e_.Thread,I e_.Index,I e_.Loc,Bo e_.Reads,Bo e_.di] Z Z Z) (oN as' (jA (jI (oN (fa qh Z) (oN (lf (Bo e_.di) ty4 Z) (oN mv (oN (Lx.beq bt4 Z Z) (oN mv ?_))))))))));refine TO.jB h 5 (fun s1=>[(14,Bo s1)]) (fun s1=>[]) (fun s1 q2 h js1=>?_) (fun s1 q2 h js1=>?_) (fun s1 h=>?_)
 ·refine gN Z q2 (fa qh Z) (gN Z q2 (lf (Bo e_.Reads) ty4 Z) (gN Z q2 mv (gN Z q2 (Lx.bne bt4 Z Z) (oN (Lx.pickT Z q2 (Bo (!(e_.Reads==writes))) Z) ?_))))
  cases h
  exact js1 _ _ (kw Z Z)
 ·refine gS Z q2 (gS Z q2 (gS Z q2 (gS Z q2 (oN (Lx.pickF Z q2 (Bo false) Z) ?_))))
  cases h
  exact js1 _ _ (kw Z Z)
 ·refine oN as' (jA (jK ?_))
  cases h
  exact bO Z Z Z
set_option maxHeartbeats 4000000 in
theorem zx (p:List (List LD)) (x:LF) (list:List LG) (name:ByteArray) (i:Int) (k_:Int) {q:Bool} (h:oJ p x list name i k_=some q):aA Tryz.prog 219 [eL (cL LD.c) p,.agg (LF.c x),eL LG.c list,St name,I i,I k_] (Bo q):=by
 refine pM Tryz.func219 Z (by kernel_rfl) Z (jI (oN (Lx.bxF [eL cI x.From,eL (cL cI) x.Order] Z Z Z) (oN as' (jA (jH (T.reserve (T.reserve (jP (dG [dF,dF,dF,dF,dF,dF,dF,dF,([0],true),([1],true),([0],true),([1],true)]) (by kernel_rfl) (by kernel_rfl) (fN Z mv (fN Z mv (jD h fun g1 h=>fN Z (Lx.ixL vX Z Z g1 qD) (fN Z (lf (.agg (LG.c (J list i))) zN Z) (fN Z mv (fN Z mv ?_))))))))))))));refine jD h fun g2 h=>fN Z (Lx.ixL vX Z Z g2 qD) (fN Z (lf (.agg (LG.c (J list k_))) zN Z) (fW 0 [] Z Z (fun G hG=>EvA.alR 0 Eh Z Z (hG.a0 Z)) (fW 1 [] Z Z (fun G hG=>EvA.alR 1 Eh Z Z (hG.a0 Z)) (fV 0 [] Z Z (fun G hG=>EvA.st (cs:=(LG.c (J list i))) ⟨0,5,74,[(LG.c (J list i))]⟩ zN Z Z (hG.a0 Z) Z Z Z Z Z Z) (fV 1 [] Z Z (fun G hG=>EvA.st (cs:=(LG.c (J list k_))) ⟨0,5,74,[(LG.c (J list k_))]⟩ zN Z Z (hG.a0 Z) Z Z Z Z Z Z) (jR (jI (oN (fa qh Z) (oA (lh (I ((J list i).Thread)) LR Z Z Z) (oN (Lx.ige Z Z) (oN mv ?_)))))))))));refine TO.jB h 6 (fun s3=>[(33,Bo s3),(14,.hp 1 0 5 0 0),(13,.hp 0 0 5 0 0),(7,.fp (LF.c x) 0),(0,eL (cL LD.c) p),(3,St name),(4,I i),(5,I k_)]) (fun s3=>[some ⟨0,5,74,[(LG.c (J list i))]⟩,some ⟨0,5,74,[(LG.c (J list k_))]⟩]) (fun s3 q4 h js3=>?_) (fun s3 q4 h js3=>?_) (fun s3 h=>?_)
 ·refine gN Z q4 (fa qh Z) (gA Z q4 (lh (I ((J list i).Thread)) LR Z Z Z) (gN Z q4 (fa qh Z) (gA Z q4 (lh (I ((J list k_).Thread)) LR Z Z Z) (gN Z q4 (Lx.ieq Z Z) (oN (Lx.pickT Z q4 (Bo (((J list i).Thread)==((J list k_).Thread))) Z) ?_)))))
  cases h
  exact js3 _ _ (kw Z Z)
 ·refine gS Z q4 (gS Z q4 (gS Z q4 (gS Z q4 (gS Z q4 (oN (Lx.pickF Z q4 (Bo false) Z) ?_)))))
  cases h
  exact js3 _ _ (kw Z Z)
 ·refine oN mv ?_;refine TO.jB h 6 (fun s5=>[(40,Bo s5),(14,.hp 1 0 5 0 0),(13,.hp 0 0 5 0 0),(7,.fp (LF.c x) 0),(0,eL (cL LD.c) p),(3,St name),(4,I i),(5,I k_)]) (fun s5=>[some ⟨0,5,74,[(LG.c (J list i))]⟩,some ⟨0,5,74,[(LG.c (J list k_))]⟩]) (fun s5 q6 h js5=>?_) (fun s5 q6 h js5=>?_) (fun s5 h=>?_)
  ·refine gN Z q6 (fa qh Z) (gA Z q6 (lh (I ((J list i).Index)) LR Z Z Z) (gN Z q6 (fa qh Z) (gA Z q6 (lh (I ((J list k_).Index)) LR Z Z Z) (gN Z q6 (Lx.ilt Z Z) (oN (Lx.pickT Z q6 (Bo (decide (((J list i).Index)<((J list k_).Index)))) Z) ?_)))))
   cases h
   exact js5 _ _ (kw Z Z)
  ·refine gS Z q6 (gS Z q6 (gS Z q6 (gS Z q6 (gS Z q6 (oN (Lx.pickF Z q6 (Bo false) Z) ?_)))))
   cases h
   exact js5 _ _ (kw Z Z)
  ·refine oN as' (jA ?_);obtain ⟨Ks7,es7,ws7,h,ks7⟩:=sumL h;refine T.join (S:=Unit) (G:=Unit) (fun s7=>Ks7 s7=some q) (fun s7 gh=>True) (fun s7 gh=>[(4,I i),(5,I k_)]) (fun s7 gh=>[some ⟨0,5,74,[(LG.c (J list i))]⟩,some ⟨0,5,74,[(LG.c (J list k_))]⟩]) (fun s7 gh h hg=>?_) ?_
   ·clear ks7;subst es7;refine jI (oN mv (oN mv (oN (Lx.ieq Z Z) (oN as' (jA (jK ?_))))))
    cases h
    exact bO Z Z Z
   ·refine jI (oN mv (jA (jE (jI (oN (Lx.seq Z Z) (oN as' (jA ?_)))))));refine jN Z h (fun q8 h=>?_) (fun q8 h=>?_)
    ·refine jI (oN mv (oN as' (jA (jK ?_))));obtain rfl:=LC h;replace h:=congrArg some (show _=_ from ks7)
     cases h
     exact bO Z Z Z
    ·refine jI (oN (Lx.seq Z Z) (oN as' (jA ?_)));refine jN Z h (fun q9 h=>?_) (fun q9 h=>?_)
     ·refine jI (oN (fa qh Z) (oA (lh (I ((J list i).Loc)) LR Z Z Z) (oN (fa qh Z) (oA (lh (I ((J list k_).Loc)) LR Z Z Z) (oN (Lx.ieq Z Z) (oN as' (jA (jK ?_))))))));obtain rfl:=LC h;replace h:=congrArg some (show _=_ from ks7)
      cases h
      exact bO Z Z Z
     ·refine jI (oN (Lx.seq Z Z) (oN as' (jA ?_)));refine jN Z h (fun q10 h=>?_) (fun q10 h=>?_)
      ·refine jI (oN (fa qh Z) (oA (lh (I ((J list i).Thread)) LR Z Z Z) (oN (fa qh Z) (oA (lh (I ((J list k_).Thread)) LR Z Z Z) (oN (Lx.ine Z Z) (oN mv ?_))))));refine TO.jB h 4 (fun s11=>[(63,Bo s11)]) (fun s11=>[some ⟨0,5,74,[(LG.c (J list i))]⟩,some ⟨0,5,74,[(LG.c (J list k_))]⟩]) (fun s11 q12 h js11=>?_) (fun s11 q12 h js11=>?_) (fun s11 h=>?_)
       ·refine gS Z q12 (gS Z q12 (gS Z q12 (oN (Lx.pickT Z q12 (Bo true) Z) ?_)))
        cases h
        exact js11 _ _ (kw Z Z)
       ·refine gN Z q12 (fa qh Z) (gA Z q12 (lh (I ((J list i).Thread)) LR Z Z Z) (gN Z q12 (Lx.ilt Z Z) (oN (Lx.pickF Z q12 (Bo (decide (((J list i).Thread)<U))) Z) ?_)))
        cases h
        exact js11 _ _ (kw Z Z)
       ·refine oN as' (jA (jK ?_));obtain rfl:=LC h;replace h:=congrArg some (show _=_ from ks7)
        cases h
        exact bO Z Z Z
      ·refine jI (oN (Lx.seq Z Z) (oN as' (jA ?_)));refine jN Z h (fun q13 h=>?_) (fun q13 h=>?_)
       ·refine jI (oN (fa xa Z) (oN (lf (eL cI x.From) o5 Z) (oN mv (jD h fun g14 h=>oN (Lx.ixL bh Z Z g14 qD) (oN (lf (I (J x.From k_)) LR Z) (oN mv (oN (Lx.ieq Z Z) (oN as' (jA (jK ?_))))))))));obtain rfl:=LC h;replace h:=congrArg some (show _=_ from ks7)
        cases h
        exact bO Z Z Z
       ·refine jI (oN (Lx.seq Z Z) (oN as' (jA ?_)));refine jN Z h (fun q15 h=>?_) (fun q15 h=>?_)
        ·refine jH (T.clean (H0:=[some ⟨0,5,74,[(LG.c (J list i))]⟩,some ⟨0,5,74,[(LG.c (J list k_))]⟩]) (e0:=au [(13,.hp 0 0 5 0 0),(7,.fp (LF.c x) 0),(4,I i),(5,I k_)]) Z (Lv Z (Lv Z (Lv Z (Lv Z Lu)))) (jC (oN (lf (.agg (LF.c x)) tG Z) (oN (fa qh Z) (oA (lh (I ((J list i).Loc)) LR Z Z Z) (oN mv (oN mv (oC h (fun _=>mN _ _ _ _) Z Z Z Z fun v16 _ h=>oN as' (jA (jK ?_))))))))));obtain rfl:=LC h;replace h:=congrArg some (show _=_ from ks7)
         cases h
         exact bO Z Z Z
        ·refine jI (oN (Lx.seq Z Z) (oN as' (jA ?_)));refine jN Z h (fun q17 h=>?_) (fun q17 h=>?_)
         ·refine T.jU h (fun s18=>[(12,Bo s18)]) (fun s18=>[some ⟨0,5,74,[(LG.c (J list i))]⟩,some ⟨0,5,74,[(LG.c (J list k_))]⟩]) (fun s18 h=>?_) (fun s18 h=>?_)
          ·refine jK ?_;obtain rfl:=LC h;replace h:=congrArg some (show _=_ from ks7)
           cases h
           exact bO Z Z Z
          ·refine T.clean (H0:=[some ⟨0,5,74,[(LG.c (J list i))]⟩,some ⟨0,5,74,[(LG.c (J list k_))]⟩]) (e0:=au [(14,.hp 1 0 5 0 0),(13,.hp 0 0 5 0 0),(7,.fp (LF.c x) 0),(4,I i),(5,I k_)]) Z (Lv Z (Lv Z (Lv Z (Lv Z (Lv Z Lu))))) (T.drawG (dG [dF,([0],false),dF,dF,([1],false),dF,dF,dF,dF,dF,dF,dF,dF,dF,([0],false),dF,dF,dF,dF,dF,dF,dF,dF,dF]) (by kernel_rfl) (by kernel_rfl) (tN Z (fa qh Z) (tR [0] Z (fun G hG=>EvA.loadhp (Bo ((J list i).Reads)) ty4 Z (hG.a0 Z) Z Z Z Z) (tN Z mv ?_))));rcases Cr h with ⟨q19,h⟩ | ⟨q19,h⟩
           ·refine LS Z q19 Z (fa qh Z) (tgR Z q19 [1] Z (fun G hG=>EvA.loadhp (Bo ((J list k_).di)) ty4 Z (hG.a0 Z) Z Z Z Z) (tN Z (Lx.pickT Z q19 (Bo ((J list k_).di)) Z) (tN Z mv ?_)));rcases Cr h with ⟨q20,h⟩ | ⟨q20,h⟩
            ·refine LS Z q20 Z mv (LS Z q20 Z mv (LS Z q20 Z (Lx.ine Z Z) (tN Z (Lx.pickT Z q20 (Bo (i != k_)) Z) (tN Z mv ?_))));rcases Cr h with ⟨q21,h⟩ | ⟨q21,h⟩
             ·refine LS Z q21 Z (lf (.agg (LF.c x)) tG Z) (LS Z q21 Z (fa qh Z) (tgR Z q21 [0] Z (fun G hG=>EvA.loadhp (I ((J list i).Loc)) LR Z (hG.a0 Z) Z Z Z Z) (LS Z q21 Z (fa xa Z) (LS Z q21 Z (lf (eL cI x.From) o5 Z) (LS Z q21 Z mv (jD h fun g22 h=>LS Z q21 Z (Lx.ixL bh Z Z g22 qD) (LS Z q21 Z (lf (I (J x.From i)) LR Z) (LS Z q21 Z mv (jB h fun v23 cv23 h=>LS Z q21 Z (Lx.call Z Z Z (mN x ((J list i).Loc) (J x.From i) k_ cv23) Z) (tN Z (Lx.pickT Z q21 (Bo v23) Z) (tN Z as' (TG.nil ?_))))))))))))
              cases h
              exact ⟨(),trivial,kw Z Z⟩
             ·refine LU Z q21 (LU Z q21 (LU Z q21 (LU Z q21 (LU Z q21 (LU Z q21 (LU Z q21 (LU Z q21 (LU Z q21 (LU Z q21 (tN Z (Lx.pickF Z q21 (Bo false) Z) (tN Z as' (TG.nil ?_))))))))))))
              cases h
              exact ⟨(),trivial,kw Z Z⟩
            ·refine LU Z q20 (LU Z q20 (LU Z q20 (tN Z (Lx.pickF Z q20 (Bo false) Z) (tN Z mv (LU Z Z (LU Z Z (LU Z Z (LU Z Z (LU Z Z (LU Z Z (LU Z Z (LU Z Z (LU Z Z (LU Z Z (tN Z (Lx.pickF Z Z (Bo false) Z) ?_)))))))))))))));refine tN Z as' (TG.nil ?_)
             cases h
             exact ⟨(),trivial,kw Z Z⟩
           ·refine LU Z q19 (LU Z q19 (tN Z (Lx.pickF Z q19 (Bo false) Z) (tN Z mv (LU Z Z (LU Z Z (LU Z Z (tN Z (Lx.pickF Z Z (Bo false) Z) (tN Z mv (LU Z Z (LU Z Z (LU Z Z (LU Z Z (LU Z Z (LU Z Z (LU Z Z ?_)))))))))))))));refine LU Z Z (LU Z Z (LU Z Z (tN Z (Lx.pickF Z Z (Bo false) Z) (tN Z as' (TG.nil ?_)))))
            cases h
            exact ⟨(),trivial,kw Z Z⟩
         ·refine jI (oN (Lx.seq Z Z) (oN as' (jA ?_)));refine jN Z h (fun q24 h=>?_) (fun q24 h=>?_)
          ·refine T.jU h (fun s25=>[(12,Bo s25)]) (fun s25=>[some ⟨0,5,74,[(LG.c (J list i))]⟩,some ⟨0,5,74,[(LG.c (J list k_))]⟩]) (fun s25 h=>?_) (fun s25 h=>?_)
           ·refine jK ?_;obtain rfl:=LC h;replace h:=congrArg some (show _=_ from ks7)
            cases h
            exact bO Z Z Z
           ·refine T.clean (H0:=[some ⟨0,5,74,[(LG.c (J list i))]⟩,some ⟨0,5,74,[(LG.c (J list k_))]⟩]) (e0:=au [(15,Bo s5),(14,.hp 1 0 5 0 0),(13,.hp 0 0 5 0 0),(0,eL (cL LD.c) p)]) Z (Lv Z (Lv Z (Lv Z (Lv Z Lu)))) (T.drawG (dG [dF,dF,dF,dF,([0],false),dF,dF,dF,([0],false),dF,([1],false),dF,dF,dF,dF]) (by kernel_rfl) (by kernel_rfl) (tN Z mv (tN Z mv ?_)));rcases Cr h with ⟨q26,h⟩ | ⟨q26,h⟩
            ·refine LS Z q26 Z mv (LS Z q26 Z (fa qh Z) (tgR Z q26 [0] Z (fun G hG=>EvA.loadhp (I ((J list i).Thread)) LR Z (hG.a0 Z) Z Z Z Z) (jD h fun g27 h=>LS Z q26 Z (Lx.ixL mE Z Z g27 qD) (LS Z q26 Z (lf (eL LD.c (J p ((J list i).Thread))) xG Z) (LS Z q26 Z (fa qh Z) (tgR Z q26 [0] Z (fun G hG=>EvA.loadhp (I ((J list i).Index)) LR Z (hG.a0 Z) Z Z Z Z) (LS Z q26 Z (fa qh Z) (tgR Z q26 [1] Z (fun G hG=>EvA.loadhp (I ((J list k_).Index)) LR Z (hG.a0 Z) Z Z Z Z) (jD h fun g28 h=>LS Z q26 Z (Lx.slL sj Z (.yes Z) (.yes Z) g28 qD) (jB h fun v29 cv29 h=>LS Z q26 Z (Lx.call Z Z Z (cV (((J p ((J list i).Thread)).drop ((J list i).Index).toNat).take (((J list k_).Index).toNat-((J list i).Index).toNat)) cv29) Z) (tN Z (Lx.pickT Z q26 (Bo v29) Z) (tN Z as' ?_))))))))))));refine TG.nil ?_
             cases h
             exact ⟨(),trivial,kw Z Z⟩
            ·refine LU Z q26 (LU Z q26 (LU Z q26 (LU Z q26 (LU Z q26 (LU Z q26 (LU Z q26 (LU Z q26 (LU Z q26 (LU Z q26 (LU Z q26 (tN Z (Lx.pickF Z q26 (Bo false) Z) (tN Z as' (TG.nil ?_)))))))))))))
             cases h
             exact ⟨(),trivial,kw Z Z⟩
          ·refine jH (T.clean (H0:=[some ⟨0,5,74,[(LG.c (J list i))]⟩,some ⟨0,5,74,[(LG.c (J list k_))]⟩]) (e0:=au [(41,St name),(14,.hp 1 0 5 0 0),(13,.hp 0 0 5 0 0),(4,I i),(5,I k_)]) Z (Lv Z (Lv Z (Lv Z (Lv Z (Lv Z Lu))))) (jC (oN (Lx.seq Z Z) (oN as' (jA ?_)))));refine jN Z h (fun q30 h=>?_) (fun q30 h=>?_)
           ·refine jI (oA (lh (.agg (LG.c (J list i))) zN Z Z Z) (oC h (fun _=>ik _ _) Z Z Z Z fun v31 _ h=>oN mv ?_));refine TO.jB h 3 (fun s32=>[(129,Bo s32)]) (fun s32=>[some ⟨0,5,74,[(LG.c (J list i))]⟩,some ⟨0,5,74,[(LG.c (J list k_))]⟩]) (fun s32 q33 h js32=>?_) (fun s32 q33 h js32=>?_) (fun s32 h=>?_)
            ·refine gA Z q33 (lh (.agg (LG.c (J list k_))) zN Z Z Z) (jB h fun v34 cv34 h=>gN Z q33 (Lx.call Z Z Z (ik (⟨(J list k_).Thread,(J list k_).Index,(J list k_).Loc,(J list k_).Reads,(J list k_).di⟩:LG) false cv34) Z) (oN (Lx.pickT Z q33 (Bo v34) Z) ?_))
             cases h
             exact js32 _ _ (kw Z Z)
            ·refine gS Z q33 (gS Z q33 (oN (Lx.pickF Z q33 (Bo false) Z) ?_))
             cases h
             exact js32 _ _ (kw Z Z)
            ·refine oN as' (jA (jK ?_));obtain rfl:=LC h;replace h:=congrArg some (show _=_ from ks7)
             cases h
             exact bO Z Z Z
           ·refine jI (oN (Lx.seq Z Z) (oN as' (jA ?_)));refine jN Z h (fun q35 h=>?_) (fun q35 h=>?_)
            ·refine jI (oA (lh (.agg (LG.c (J list i))) zN Z Z Z) (oC h (fun _=>ik _ _) Z Z Z Z fun v36 _ h=>oN mv ?_));refine TO.jB h 3 (fun s37=>[(137,Bo s37)]) (fun s37=>[some ⟨0,5,74,[(LG.c (J list i))]⟩,some ⟨0,5,74,[(LG.c (J list k_))]⟩]) (fun s37 q38 h js37=>?_) (fun s37 q38 h js37=>?_) (fun s37 h=>?_)
             ·refine gA Z q38 (lh (.agg (LG.c (J list k_))) zN Z Z Z) (jB h fun v39 cv39 h=>gN Z q38 (Lx.call Z Z Z (ik (⟨(J list k_).Thread,(J list k_).Index,(J list k_).Loc,(J list k_).Reads,(J list k_).di⟩:LG) true cv39) Z) (oN (Lx.pickT Z q38 (Bo v39) Z) ?_))
              cases h
              exact js37 _ _ (kw Z Z)
             ·refine gS Z q38 (gS Z q38 (oN (Lx.pickF Z q38 (Bo false) Z) ?_))
              cases h
              exact js37 _ _ (kw Z Z)
             ·refine oN as' (jA (jK ?_));obtain rfl:=LC h;replace h:=congrArg some (show _=_ from ks7)
              cases h
              exact bO Z Z Z
            ·refine jG ?_
             cases h
             exact ⟨(),(),ks7,trivial,kw Z Z⟩
theorem yc (i:Int) (k_:Int) (a2:List (List LD)) (a3:LF) (a4:List LG) (a5:ByteArray) {q:Bool} (h:qp i k_ a2 a3 a4 a5=some q):aA Tryz.prog 218 [I i,I k_,.fp ((cL (cL LD.c)) a2) 0,.fp (LF.c a3) 0,.fp ((cL LG.c) a4) 0,.fp (cS a5) 0] (Bo q):=by
 refine pM Tryz.func218 Z (by kernel_rfl) Z (jI (oN as' (jA (jI (oN (lf (eL (cL LD.c) a2) Ib Z) (oN (lf (.agg (LF.c a3)) tG Z) (oN (lf (eL LG.c a4) Jv Z) (oN (lf (St a5) ty9 Z) (oN mv (oN mv (oC h (fun _=>zx _ _ _ _ _ _) Z Z Z Z fun v1 _ h=>oN as' (jA (jK ?_)))))))))))))
 cases h
 exact bO Z Z Z
theorem nL (n:Int) (is0:List (List LD)) (is1:LF) (is2:List LG) (is3:ByteArray) {q:(LI)} (h:iK n is0 is1 is2 is3=some q):aA Tryz.prog 217 [I n,.fn (.func 218) [.fp ((cL (cL LD.c)) is0) 0,.fp (LF.c is1) 0,.fp ((cL LG.c) is2) 0,.fp (cS is3) 0]] (eL cI q):=by
 refine pM Tryz.func217 Z (by kernel_rfl) Z (jI (oN as' (jA (jI (oN mv (jD h fun g1 h=>oA (EvA.mkN (c:=cI) (default:Int) bh Z Z g1 Z Z Z) (oN (Lx.asg (hS false 0 0 1 ((List.replicate n.toNat (default:Int)).length)) Z) (jA ?_))))))));refine T.jF (G:=Nat) h (fun s2 gh=>True) (fun s2 gh=>[(5,hS false 0 gh 1 s2.length)]) (fun s2 gh=>[bE false gh 1 3 (s2.map cI)]) (fun s2 u27 h hg=>?_) (fun s2 h=>?_)
 ·refine jI (oN mv (oN (Lx.asg (hS false 0 u27 1 s2.length) Z) (jA (jK ?_))));obtain rfl:=LC h
  repeat (first|refine cN ?_|refine cO ?_)
  exact jQ (vs:=[hS false 0 u27 1 s2.length]) (.cons (.tmp Z) .nil) (Fz.own (g:=false) (ver:=u27) (l:=s2) Z Z Z nofun qD)
 ·refine jI (oN mv (oN mv (jA (jE ?_))));refine jO (S:=(LI)×Int) (G:=Nat) (gq n is0 is1 is2 is3) (fun s6 gh=>True) (fun s6 gh=>[(11,I s6.2),(10,I n),(5,hS false 0 gh 1 s6.1.length),(0,I n),(1,.fn (.func 218) [.fp ((cL (cL LD.c)) is0) 0,.fp (LF.c is1) 0,.fp ((cL LG.c) is2) 0,.fp (cS is3) 0])]) (fun s6 gh=>[bE false gh 1 3 (s6.1.map cI)]) (s0:=((List.replicate n.toNat (default:Int)),U)) 0 h trivial (kw Z Z) (fun s6 u8 ws6 h hg=>?_);refine jI (oN (Lx.ilt Z Z) (jA (jH ?_)));refine jN Z h (fun q9 h=>?_) (fun q9 h=>?_)
  ·refine jG ?_;refine T.jF (G:=Nat) h (fun s10 gh=>True) (fun s10 gh=>[(11,I s6.2),(10,I n),(5,hS false 0 gh 1 s10.length),(0,I n),(1,.fn (.func 218) [.fp ((cL (cL LD.c)) is0) 0,.fp (LF.c is1) 0,.fp ((cL LG.c) is2) 0,.fp (cS is3) 0])]) (fun s10 gh=>[bE false gh 1 3 (s10.map cI)]) (fun s10 u25 h hg=>?_) (fun s10 h=>?_)
   ·refine jC (jW h fun g26 h=>oN (Lx.add Z Z g26) (oN mv (jA ?_)));obtain rfl:=LC h;exact ⟨(s10,(s6.2+V)),u25,Z,trivial,kw Z Z⟩
   ·refine jE (jI (oN mv (oN as' (jA (jI (oN mv (oN mv (jA (jE ?_)))))))));refine jO (S:=(LI)×Int) (G:=Nat) (fL n is0 is1 is2 is3 s6) (fun s14 gh=>True) (fun s14 gh=>[(15,I s14.2),(14,I n),(6,I s6.2),(11,I s6.2),(10,I n),(5,hS false 0 gh 1 s14.1.length),(0,I n),(1,.fn (.func 218) [.fp ((cL (cL LD.c)) is0) 0,.fp (LF.c is1) 0,.fp ((cL LG.c) is2) 0,.fp (cS is3) 0])]) (fun s14 gh=>[bE false gh 1 3 (s14.1.map cI)]) (s0:=(s6.1,U)) u8 h trivial (kw Z Z) (fun s14 u16 ws14 h hg=>?_);refine jI (oN (Lx.ilt Z Z) (jA (jH ?_)));refine jN Z h (fun q17 h=>?_) (fun q17 h=>?_)
    ·refine jG ?_;refine T.jF (G:=Nat) h (fun s18 gh=>True) (fun s18 gh=>[(15,I s14.2),(14,I n),(6,I s6.2),(11,I s6.2),(10,I n),(5,hS false 0 gh 1 s18.length),(0,I n),(1,.fn (.func 218) [.fp ((cL (cL LD.c)) is0) 0,.fp (LF.c is1) 0,.fp ((cL LG.c) is2) 0,.fp (cS is3) 0])]) (fun s18 gh=>[bE false gh 1 3 (s18.map cI)]) (fun s18 u23 h hg=>?_) (fun s18 h=>?_)
     ·refine jC (jW h fun g24 h=>oN (Lx.add Z Z g24) (oN mv (jA ?_)));obtain rfl:=LC h;exact ⟨(s18,(s14.2+V)),u23,Z,trivial,kw Z Z⟩
     ·refine jE (jI (oN mv (oN as' (jA (jI (oN mv (oN mv (oN mv (oC h (fun _=>yc _ _ _ _ _ _) Z Z Z Z fun v19 _ h=>jA ?_)))))))));refine jN Z h (fun q20 h=>?_) (fun q20 h=>?_)
      ·refine jP (dG [dF,dF,dF,([0],false),dF,dF,dF,dF,([0],true)]) (by kernel_rfl) (by kernel_rfl) (fN Z mv (fN Z mv (jD h fun g21 h=>fN Z (Lx.ixO (g:=false) bh Z Z nofun g21) (fR [0] Z (fun G hG=>EvA.ldO (g:=false) (l:=s14.1) (I (J s14.1 s6.2)) LR Z (hG.a0 Z) nofun (ay Z g21) Z) (fN Z mv (jD h fun g22 h=>fN Z (Lx.shl Z Z g22) (fN Z (Lx.bor Z Z) (fN Z (Lx.ixO (g:=false) bh Z Z nofun g21) (fV 0 [] Z Z (fun G hG=>EvA.stO (g:=false) (l:=s14.1) (cs:=[I (bOr .i64 (J s14.1 s6.2) (ES .i64 V s14.2))]) (bOr .i64 (J s14.1 s6.2) (ES .i64 V s14.2)) LR Z Z (hG.a0 Z) nofun (ay Z g21) Z Z Z) (jR ?_))))))))));obtain rfl:=LC h;exact ⟨u16,trivial,xD Z (Lv Z (Lv Z (Lv Z (Lv Z (Lv Z (Lv (congrArg (hS false 0 u16 1) (by simp:s14.1.length=(s14.1.set s6.2.toNat (bOr .i64 (J s14.1 s6.2) (ES .i64 (1:Int) s14.2))).length)) (Lv Z (Lv Z Lu))))))))⟩
      ·refine jG ?_
       cases h
       exact ⟨u16,trivial,kw Z Z⟩
    ·refine jM (lX h fun h=>?_)
     cases h
     exact ⟨u16,trivial,kw Z Z⟩
  ·refine jM (lX h fun h=>?_)
   cases h
   exact ⟨u8,trivial,kw Z Z⟩
theorem zP (p:List (List LD)) (x:LF) (name:ByteArray) {q:(LI)} (h:gM p x name=some q):aA Tryz.prog 160 [eL (cL LD.c) p,.agg (LF.c x),St name] (eL cI q):=by
 refine pM Tryz.func160 Z (by kernel_rfl) Z (jI (oN (Lx.bxF [eL (cL LD.c) p] Z Z Z) (oN (Lx.bxF [eL cI x.From,eL (cL cI) x.Order] Z Z Z) (oN (Lx.bxF [St name] Z Z Z) (oN as' (jA (jI (oN (lf (eL (cL LD.c) p) Ib Z) (oC h (fun _=>mF _) Z Z Z Z fun v1 _ h=>oA (EvA.al Lp Z Z) (oV (sr [eL LG.c v1] Jv Z Z Z Z) (TO.cut (e0:=au [(7,.fp ((cL LG.c) v1) 0),(5,.fp (cS name) 0),(4,.fp (LF.c x) 0),(3,.fp ((cL (cL LD.c)) p) 0)]) (H0:=[]) (nB Z .nil (aj (.fz (Fz.fpL (ver:=0) (s:=1) (ty:=71) (rows:=[[eL LG.c v1]]) Z Z Z (.cons (qC Z) .nil))) (aj (.fz (qC Z)) (aj (.fz (qC Z)) (aj (.fz (qC Z)) aS))))) (jA (jI (oN (lf (eL LG.c v1) Jv Z) ?_))))))))))))));refine oN (Lx.lenL vX Z) (oN (Lx.mkfn [.fp ((cL (cL LD.c)) p) 0,.fp (LF.c x) 0,.fp ((cL LG.c) v1) 0,.fp (cS name) 0] Z Z) (oC h (fun _=>nL _ _ _ _ _) Z Z Z Z fun v2 _ h=>oN as' (jA (jK ?_))))
 cases h
 exact bO Z Z Z
theorem vk (x:Int) (a1:LI) {q:Bool} (h:mY x a1=some q):aA Tryz.prog 250 [I x,.fp ((cL cI) a1) 0] (Bo q):=by
 refine pM Tryz.func250 Z (by kernel_rfl) Z (jI (oN as' (jA (jI (oN mv (oN (Lx.ilt Z Z) (oN mv ?_)))))));refine TO.jB h 6 (fun s1=>[(12,Bo s1)]) (fun s1=>[]) (fun s1 q2 h js1=>?_) (fun s1 q2 h js1=>?_) (fun s1 h=>?_)
 ·refine gS Z q2 (gS Z q2 (gS Z q2 (gS Z q2 (gS Z q2 (oN (Lx.pickT Z q2 (Bo true) Z) ?_)))))
  cases h
  exact js1 _ _ (kw Z Z)
 ·refine gN Z q2 mv (gN Z q2 (lf (eL cI a1) o5 Z) (gN Z q2 (Lx.lenL bh Z) (jD h fun g3 h=>gN Z q2 (Lx.shr Z Z g3) (gN Z q2 (Lx.igt Z Z) (oN (Lx.pickF Z q2 (Bo (decide (U<(dC .i64 x (a1.length:Int))))) Z) ?_)))))
  cases h
  exact js1 _ _ (kw Z Z)
 ·refine oN as' (jA (jK ?_))
  cases h
  exact bO Z Z Z
theorem gL (s:LI) (f0:LI) {q:Int} (h:bu s f0=some q):aA Tryz.prog 189 [eL cI s,.fn (.func 250) [.fp ((cL cI) f0) 0]] (I q):=by
 refine pM Tryz.func189 Z (by kernel_rfl) Z (jI (oN as' (jA ?_)));obtain ⟨Ks1,es1,ws1,h,ks1⟩:=sumL h;refine T.join (S:=Unit) (G:=Unit) (fun s1=>Ks1 s1=some q) (fun s1 gh=>True) (fun s1 gh=>[]) (fun s1 gh=>[]) (fun s1 gh h hg=>?_) ?_
 ·clear ks1;subst es1;refine jI (oN as' (jA (jK ?_)))
  cases h
  exact bO Z Z Z
 ·refine jI (oN mv (oN (Lx.lenL bh Z) (oN mv (jA (jE ?_)))));refine T.lU h (fun s4=>[(8,I s4),(7,I (s.length:Int)),(0,eL cI s),(1,.fn (.func 250) [.fp ((cL cI) f0) 0])]) (fun s4=>[]) (kw Z Z) (fun s4 ws4 h=>?_);refine jI (oN (Lx.ilt Z Z) (jA (jH ?_)));refine jN Z h (fun q6 h=>?_) (fun q6 h=>?_)
  ·refine jG (jH (jE (jI (oN mv (oN as' (jA (jI (oN mv (oN mv (oN mv (jD h fun g7 h=>oN (Lx.ixL bh Z Z g7 qD) (oN (lf (I (J s s4)) LR Z) (oC h (fun _=>vk _ _) Z Z Z Z fun v8 _ h=>jA ?_)))))))))))));refine jN Z h (fun q9 h=>?_) (fun q9 h=>?_)
   ·refine jI (oN mv (oN as' (jA (jK (lX h fun h=>?_)))));obtain rfl:=LC h;replace h:=congrArg some (show _=_ from ks1)
    cases h
    exact bO Z Z Z
   ·refine jG (jC (jW h fun g10 h=>oN (Lx.add Z Z g10) (oN mv (jA ?_))));exact lE h (kw Z Z)
  ·refine jM (lX h fun h=>?_)
   cases h
   exact ⟨(),(),ks1,trivial,kw Z Z⟩
theorem fA (s:LI) (f0:LI) {q:Bool} (h:bg s f0=some q):aA Tryz.prog 249 [eL cI s,.fn (.func 250) [.fp ((cL cI) f0) 0]] (Bo q):=by
 refine pM Tryz.func249 Z (by kernel_rfl) Z (jI (oN as' (jA (jI (oN mv (oN mv (oC h (fun _=>gL _ _) Z Z Z Z fun v1 _ h=>oN (Lx.ige Z Z) (oN as' (jA (jK ?_))))))))))
 cases h
 exact bO Z Z Z
theorem eu (r_:LI) {q:Bool} (h:cm r_=some q):aA Tryz.prog 198 [eL cI r_] (Bo q):=by
 refine pM Tryz.func198 Z (by kernel_rfl) Z (jI (oN (Lx.bxF [eL cI r_] Z Z Z) (oN as' (jA (jI (oN (lf (eL cI r_) o5 Z) (oN (Lx.lenL bh Z) (oN (Lx.ile Z Z) (oN mv ?_)))))))));refine TO.jB h 5 (fun s1=>[(11,Bo s1)]) (fun s1=>[]) (fun s1 q2 h js1=>?_) (fun s1 q2 h js1=>?_) (fun s1 h=>?_)
 ·refine gN Z q2 (lf (eL cI r_) o5 Z) (gN Z q2 (Lx.mkfn [.fp ((cL cI) r_) 0] Z Z) (jB h fun v3 cv3 h=>gN Z q2 (Lx.call Z Z Z (fA r_ r_ cv3) Z) (gN Z q2 (Lx.not Z) (oN (Lx.pickT Z q2 (Bo (!v3)) Z) ?_))))
  cases h
  exact js1 _ _ (kw Z Z)
 ·refine gS Z q2 (gS Z q2 (gS Z q2 (gS Z q2 (oN (Lx.pickF Z q2 (Bo false) Z) ?_))))
  cases h
  exact js1 _ _ (kw Z Z)
 ·refine oN as' (jA (jK ?_))
  cases h
  exact bO Z Z Z
theorem kI (r_:LI) (i:Int) (k_:Int) {q:Bool} (h:fJ r_ i k_=some q):aA Tryz.prog 221 [eL cI r_,I i,I k_] (Bo q):=by
 refine pM Tryz.func221 Z (by kernel_rfl) Z (jI (oN as' (jA (jI (oN mv (oN mv (jD h fun g1 h=>oN (Lx.ixL bh Z Z g1 qD) (oN (lf (I (J r_ i)) LR Z) (oN mv (jD h fun g2 h=>oN (Lx.shr Z Z g2) (oN (Lx.band Z Z) (oN (Lx.ieq Z Z) (oN as' ?_)))))))))))));refine jA (jK ?_)
 cases h
 exact bO Z Z Z
theorem tL (i:Int) (k_:Int) (a2:LI) {q:Bool} (h:kP i k_ a2=some q):aA Tryz.prog 220 [I i,I k_,.fp ((cL cI) a2) 0] (Bo q):=by
 refine pM Tryz.func220 Z (by kernel_rfl) Z (jI (oN as' (jA (jI (oN (lf (eL cI a2) o5 Z) (oN mv (oN mv (oC h (fun _=>kI _ _ _) Z Z Z Z fun v1 _ h=>oN as' (jA (jK ?_))))))))))
 cases h
 exact bO Z Z Z
theorem kY (n:Int) (is0:LI) {q:(LI)} (h:fq n is0=some q):aA Tryz.prog 217 [I n,.fn (.func 220) [.fp ((cL cI) is0) 0]] (eL cI q):=by
 refine pM Tryz.func217 Z (by kernel_rfl) Z (jI (oN as' (jA (jI (oN mv (jD h fun g1 h=>oA (EvA.mkN (c:=cI) (default:Int) bh Z Z g1 Z Z Z) (oN (Lx.asg (hS false 0 0 1 ((List.replicate n.toNat (default:Int)).length)) Z) (jA ?_))))))));refine T.jF (G:=Nat) h (fun s2 gh=>True) (fun s2 gh=>[(5,hS false 0 gh 1 s2.length)]) (fun s2 gh=>[bE false gh 1 3 (s2.map cI)]) (fun s2 u27 h hg=>?_) (fun s2 h=>?_)
 ·refine jI (oN mv (oN (Lx.asg (hS false 0 u27 1 s2.length) Z) (jA (jK ?_))));obtain rfl:=LC h
  repeat (first|refine cN ?_|refine cO ?_)
  exact jQ (vs:=[hS false 0 u27 1 s2.length]) (.cons (.tmp Z) .nil) (Fz.own (g:=false) (ver:=u27) (l:=s2) Z Z Z nofun qD)
 ·refine jI (oN mv (oN mv (jA (jE ?_))));refine jO (S:=(LI)×Int) (G:=Nat) (dY n is0) (fun s6 gh=>True) (fun s6 gh=>[(11,I s6.2),(10,I n),(5,hS false 0 gh 1 s6.1.length),(0,I n),(1,.fn (.func 220) [.fp ((cL cI) is0) 0])]) (fun s6 gh=>[bE false gh 1 3 (s6.1.map cI)]) (s0:=((List.replicate n.toNat (default:Int)),U)) 0 h trivial (kw Z Z) (fun s6 u8 ws6 h hg=>?_);refine jI (oN (Lx.ilt Z Z) (jA (jH ?_)));refine jN Z h (fun q9 h=>?_) (fun q9 h=>?_)
  ·refine jG ?_;refine T.jF (G:=Nat) h (fun s10 gh=>True) (fun s10 gh=>[(11,I s6.2),(10,I n),(5,hS false 0 gh 1 s10.length),(0,I n),(1,.fn (.func 220) [.fp ((cL cI) is0) 0])]) (fun s10 gh=>[bE false gh 1 3 (s10.map cI)]) (fun s10 u25 h hg=>?_) (fun s10 h=>?_)
   ·refine jC (jW h fun g26 h=>oN (Lx.add Z Z g26) (oN mv (jA ?_)));obtain rfl:=LC h;exact ⟨(s10,(s6.2+V)),u25,Z,trivial,kw Z Z⟩
   ·refine jE (jI (oN mv (oN as' (jA (jI (oN mv (oN mv (jA (jE ?_)))))))));refine jO (S:=(LI)×Int) (G:=Nat) (dO n is0 s6) (fun s14 gh=>True) (fun s14 gh=>[(15,I s14.2),(14,I n),(6,I s6.2),(11,I s6.2),(10,I n),(5,hS false 0 gh 1 s14.1.length),(0,I n),(1,.fn (.func 220) [.fp ((cL cI) is0) 0])]) (fun s14 gh=>[bE false gh 1 3 (s14.1.map cI)]) (s0:=(s6.1,U)) u8 h trivial (kw Z Z) (fun s14 u16 ws14 h hg=>?_);refine jI (oN (Lx.ilt Z Z) (jA (jH ?_)));refine jN Z h (fun q17 h=>?_) (fun q17 h=>?_)
    ·refine jG ?_;refine T.jF (G:=Nat) h (fun s18 gh=>True) (fun s18 gh=>[(15,I s14.2),(14,I n),(6,I s6.2),(11,I s6.2),(10,I n),(5,hS false 0 gh 1 s18.length),(0,I n),(1,.fn (.func 220) [.fp ((cL cI) is0) 0])]) (fun s18 gh=>[bE false gh 1 3 (s18.map cI)]) (fun s18 u23 h hg=>?_) (fun s18 h=>?_)
     ·refine jC (jW h fun g24 h=>oN (Lx.add Z Z g24) (oN mv (jA ?_)));obtain rfl:=LC h;exact ⟨(s18,(s14.2+V)),u23,Z,trivial,kw Z Z⟩
     ·refine jE (jI (oN mv (oN as' (jA (jI (oN mv (oN mv (oN mv (oC h (fun _=>tL _ _ _) Z Z Z Z fun v19 _ h=>jA ?_)))))))));refine jN Z h (fun q20 h=>?_) (fun q20 h=>?_)
      ·refine jP (dG [dF,dF,dF,([0],false),dF,dF,dF,dF,([0],true)]) (by kernel_rfl) (by kernel_rfl) (fN Z mv (fN Z mv (jD h fun g21 h=>fN Z (Lx.ixO (g:=false) bh Z Z nofun g21) (fR [0] Z (fun G hG=>EvA.ldO (g:=false) (l:=s14.1) (I (J s14.1 s6.2)) LR Z (hG.a0 Z) nofun (ay Z g21) Z) (fN Z mv (jD h fun g22 h=>fN Z (Lx.shl Z Z g22) (fN Z (Lx.bor Z Z) (fN Z (Lx.ixO (g:=false) bh Z Z nofun g21) (fV 0 [] Z Z (fun G hG=>EvA.stO (g:=false) (l:=s14.1) (cs:=[I (bOr .i64 (J s14.1 s6.2) (ES .i64 V s14.2))]) (bOr .i64 (J s14.1 s6.2) (ES .i64 V s14.2)) LR Z Z (hG.a0 Z) nofun (ay Z g21) Z Z Z) (jR ?_))))))))));obtain rfl:=LC h;exact ⟨u16,trivial,xD Z (Lv Z (Lv Z (Lv Z (Lv Z (Lv Z (Lv (congrArg (hS false 0 u16 1) (by simp:s14.1.length=(s14.1.set s6.2.toNat (bOr .i64 (J s14.1 s6.2) (ES .i64 (1:Int) s14.2))).length)) (Lv Z (Lv Z Lu))))))))⟩
      ·refine jG ?_
       cases h
       exact ⟨u16,trivial,kw Z Z⟩
    ·refine jM (lX h fun h=>?_)
     cases h
     exact ⟨u16,trivial,kw Z Z⟩
  ·refine jM (lX h fun h=>?_)
   cases h
   exact ⟨u8,trivial,kw Z Z⟩
theorem vo (r_:LI) {q:(LI)} (h:jk r_=some q):aA Tryz.prog 161 [eL cI r_] (eL cI q):=by
 refine pM Tryz.func161 Z (by kernel_rfl) Z (jI (oN (Lx.bxF [eL cI r_] Z Z Z) (oN as' (jA (jH (jI (oN (lf (eL cI r_) o5 Z) (oC h (fun _=>eu _) Z Z Z Z fun v1 _ h=>oN (Lx.not Z) (jA ?_)))))))));refine jN Z h (fun q2 h=>?_) (fun q2 h=>?_)
 ·refine jI (oN as' (jA (jK ?_)));obtain rfl:=LC h
  repeat (first|refine cN ?_|refine cO ?_)
  exact jQ (vs:=[.nil]) (.cons (.tmp Z) .nil) .nil0
 ·refine jG (jI (oN (lf (eL cI r_) o5 Z) (oN (Lx.lenL bh Z) (oN (Lx.mkfn [.fp ((cL cI) r_) 0] Z Z) (oC h (fun _=>kY _ _) Z Z Z Z fun v3 _ h=>oN as' (jA (jK ?_)))))))
  cases h
  exact bO Z Z Z
set_option maxHeartbeats 4000000 in
theorem pY (r_:LI) {q:(LI)} (h:gu r_=some q):aA Tryz.prog 162 [eL cI r_] (eL cI q):=by
 refine pM Tryz.func162 Z (by kernel_rfl) Z (jI (oN as' (jA (jH (jI (oN mv (oC h (fun _=>eu _) Z Z Z Z fun v1 _ h=>oN (Lx.not Z) (jA ?_))))))));refine jN Z h (fun q2 h=>?_) (fun q2 h=>?_)
 ·refine jI (oN as' (jA (jK ?_)));obtain rfl:=LC h
  repeat (first|refine cN ?_|refine cO ?_)
  exact jQ (vs:=[.nil]) (.cons (.tmp Z) .nil) .nil0
 ·refine jG (jI (oN mv (jB h fun v3 cv3 h=>?_)));refine oG Z Z Z ((ku r_ cv3).own Z (vN qD) yP 0 Z) (fun g4 v5 n6=>?_);refine oN (Lx.asg (hS g4 0 v5 1 v3.length) Z) (jA ?_);refine T.jF (G:=(Bool×Nat)) h (fun s7 gh=>(gh.1=true->s7=[])) (fun s7 gh=>[(3,hS gh.1 0 gh.2 1 s7.length)]) (fun s7 gh=>[bE gh.1 gh.2 1 3 (s7.map cI)]) (fun s7 gh h n49=>?_) (fun s7 h=>?_)
  ·obtain ⟨b48,u47⟩:=gh;refine jI (oN mv (oN (Lx.asg (hS b48 0 u47 1 s7.length) Z) (jA (jK ?_))));obtain rfl:=LC h
   repeat (first|refine cN ?_|refine cO ?_)
   exact jQ (vs:=[hS b48 0 u47 1 s7.length]) (.cons (.tmp Z) .nil) (Fz.own (g:=b48) (ver:=u47) (l:=s7) Z Z Z n49 qD)
  ·refine jI (oN mv (oN (Lx.lenO (g:=g4) bh Z (Az (fun x=>List.eq_nil_of_length_eq_zero (n6 x)) Z)) (oN mv (jA (jE ?_)))));refine jO (S:=(LI)×Int) (G:=(Bool×Nat)) (iT v3) (fun s16 gh=>(gh.1=true->s16.1=[])) (fun s16 gh=>[(13,I s16.2),(12,I (v3.length:Int)),(3,hS gh.1 0 gh.2 1 s16.1.length)]) (fun s16 gh=>[bE gh.1 gh.2 1 3 (s16.1.map cI)]) (s0:=(v3,U)) (g4,v5) h (fun x=>List.eq_nil_of_length_eq_zero (n6 x)) (kw Z Z) (fun s16 gh ws16 h n20=>?_);obtain ⟨b19,u18⟩:=gh;refine jI (oN (Lx.ilt Z Z) (jA (jH ?_)));refine jN Z h (fun q21 h=>?_) (fun q21 h=>?_)
   ·refine jG ?_;refine T.jF (G:=(Bool×Nat)) h (fun s22 gh=>(gh.1=true->s22=[])) (fun s22 gh=>[(13,I s16.2),(12,I (v3.length:Int)),(3,hS gh.1 0 gh.2 1 s22.length)]) (fun s22 gh=>[bE gh.1 gh.2 1 3 (s22.map cI)]) (fun s22 gh h n45=>?_) (fun s22 h=>?_)
    ·obtain ⟨b44,u43⟩:=gh;refine jC (jW h fun g46 h=>oN (Lx.add Z Z g46) (oN mv (jA ?_)));obtain rfl:=LC h;exact ⟨(s22,(s16.2+V)),(b44,u43),Z,n45,kw Z Z⟩
    ·refine jE (jI (oN mv (oN as' (jA (jI (oN mv (oN (Lx.lenO (g:=b19) bh Z (Az n20 Z)) (oN mv (jA (jE ?_))))))))));refine jO (S:=(LI)×Int) (G:=(Bool×Nat)) (iS s16) (fun s28 gh=>(gh.1=true->s28.1=[])) (fun s28 gh=>[(18,I s28.2),(17,I (s16.1.length:Int)),(4,I s16.2),(13,I s16.2),(12,I (v3.length:Int)),(3,hS gh.1 0 gh.2 1 s28.1.length)]) (fun s28 gh=>[bE gh.1 gh.2 1 3 (s28.1.map cI)]) (s0:=(s16.1,U)) (b19,u18) h n20 (kw Z Z) (fun s28 gh ws28 h n32=>?_);obtain ⟨b31,u30⟩:=gh;refine jI (oN (Lx.ilt Z Z) (jA (jH ?_)));refine jN Z h (fun q33 h=>?_) (fun q33 h=>?_)
     ·refine jG ?_;refine T.jF (G:=(Bool×Nat)) h (fun s34 gh=>(gh.1=true->s34=[])) (fun s34 gh=>[(18,I s28.2),(17,I (s16.1.length:Int)),(4,I s16.2),(13,I s16.2),(12,I (v3.length:Int)),(3,hS gh.1 0 gh.2 1 s34.length)]) (fun s34 gh=>[bE gh.1 gh.2 1 3 (s34.map cI)]) (fun s34 gh h n41=>?_) (fun s34 h=>?_)
      ·obtain ⟨b40,u39⟩:=gh;refine jC (jW h fun g42 h=>oN (Lx.add Z Z g42) (oN mv (jA ?_)));obtain rfl:=LC h;exact ⟨(s34,(s28.2+V)),(b40,u39),Z,n41,kw Z Z⟩
      ·refine jE (jI (oN mv (oN as' (jA (jI (oN mv (oN mv (oN mv (jB h fun v35 cv35 h=>oA (EvA.callT Z Z (kI s28.1 s28.2 s16.2 cv35) (.cons (Fz.own (g:=b31) (ver:=u30) (l:=s28.1) Z Z Z n32 qD) (.cons (qC Z) (.cons (qC Z) .nil))) Z) (jA ?_))))))))));refine jN Z h (fun q36 h=>?_) (fun q36 h=>?_)
       ·refine T.drawH (dG [dF,dF,dF,([0],false),dF,dF,dF,([0],false),dF,dF,([0],true)]) (by kernel_rfl) (by kernel_rfl) (fN Z mv (fN Z mv (jD h fun g37 h=>?_)));obtain rfl:=zY n32 rfl g37;refine fN Z (Lx.ixO (g:=false) bh Z Z nofun g37) (fR [0] Z (fun G hG=>EvA.ldO (g:=false) (l:=s28.1) (I (J s28.1 s28.2)) LR Z (hG.a0 Z) nofun (ay Z g37) Z) (fN Z mv (fN Z mv (jD h fun g38 h=>fN Z (Lx.ixO (g:=false) bh Z Z nofun g38) (fR [0] Z (fun G hG=>EvA.ldO (g:=false) (l:=s28.1) (I (J s28.1 s16.2)) LR Z (hG.a0 Z) nofun (ay Z g38) Z) (fN Z (Lx.bor Z Z) (fN Z (Lx.ixO (g:=false) bh Z Z nofun g37) (fV 0 [] Z Z (fun G hG=>EvA.stO (g:=false) (l:=s28.1) (cs:=[I (bOr .i64 (J s28.1 s28.2) (J s28.1 s16.2))]) (bOr .i64 (J s28.1 s28.2) (J s28.1 s16.2)) LR Z Z (hG.a0 Z) nofun (ay Z g37) Z Z Z) (jR ?_)))))))));obtain rfl:=LC h;exact ⟨(false,u30),nofun,xD Z (Lv Z (Lv Z (Lv Z (Lv Z (Lv Z (Lv (congrArg (hS false 0 u30 1) (by simp:s28.1.length=(s28.1.set s28.2.toNat (bOr .i64 (J s28.1 s28.2) (J s28.1 s16.2))).length)) Lu))))))⟩
       ·refine jG ?_
        cases h
        exact ⟨(b31,u30),n32,kw Z Z⟩
     ·refine jM (lX h fun h=>?_)
      cases h
      exact ⟨(b31,u30),n32,kw Z Z⟩
   ·refine jM (lX h fun h=>?_)
    cases h
    exact ⟨(b19,u18),n20,kw Z Z⟩
theorem kJ (a:LI) (b:LI) {q:Bool} (h:dZ a b=some q):aA Tryz.prog 226 [eL cI a,eL cI b] (Bo q):=by
 refine pM Tryz.func226 Z (by kernel_rfl) Z (jI (oN as' (jA (jI (oN mv (oN (Lx.lenL bh Z) (oN mv (oN (Lx.lenL bh Z) (oN (Lx.ieq Z Z) (oN mv ?_))))))))));refine TO.jB h 3 (fun s1=>[(13,Bo s1),(1,eL cI b)]) (fun s1=>[]) (fun s1 q2 h js1=>?_) (fun s1 q2 h js1=>?_) (fun s1 h=>?_)
 ·refine gN Z q2 mv (jB h fun v3 cv3 h=>gN Z q2 (Lx.call Z Z Z (eu a cv3) Z) (oN (Lx.pickT Z q2 (Bo v3) Z) ?_))
  cases h
  exact js1 _ _ (kw Z Z)
 ·refine gS Z q2 (gS Z q2 (oN (Lx.pickF Z q2 (Bo false) Z) ?_))
  cases h
  exact js1 _ _ (kw Z Z)
 ·refine oN mv ?_;refine TO.jB h 3 (fun s4=>[(17,Bo s4)]) (fun s4=>[]) (fun s4 q5 h js4=>?_) (fun s4 q5 h js4=>?_) (fun s4 h=>?_)
  ·refine gN Z q5 mv (jB h fun v6 cv6 h=>gN Z q5 (Lx.call Z Z Z (eu b cv6) Z) (oN (Lx.pickT Z q5 (Bo v6) Z) ?_))
   cases h
   exact js4 _ _ (kw Z Z)
  ·refine gS Z q5 (gS Z q5 (oN (Lx.pickF Z q5 (Bo false) Z) ?_))
   cases h
   exact js4 _ _ (kw Z Z)
  ·refine oN as' (jA (jK ?_))
   cases h
   exact bO Z Z Z
theorem vp (x:Int) (y:Int) {q:Int} (h:mZ x y=some q):aA Tryz.prog 223 [I x,I y] (I q):=by
 refine pM Tryz.func223 Z (by kernel_rfl) Z (jI (oN as' (jA (jI (oN mv (oN mv (oN (Lx.bor Z Z) (oN as' (jA (jK ?_))))))))))
 cases h
 exact bO Z Z Z
theorem lm (a:LI) (b:LI) {q:(LI)} (h:fM a b=some q):aA Tryz.prog 222 [eL cI a,eL cI b,.fn (.func 223) []] (eL cI q):=by
 refine pM Tryz.func222 Z (by kernel_rfl) Z (jI (oN as' (jA (jH (jI (oN mv (oN mv (oC h (fun _=>kJ _ _) Z Z Z Z fun v1 _ h=>oN (Lx.not Z) (jA ?_)))))))));refine jN Z h (fun q2 h=>?_) (fun q2 h=>?_)
 ·refine jI (oN as' (jA (jK ?_)));obtain rfl:=LC h
  repeat (first|refine cN ?_|refine cO ?_)
  exact jQ (vs:=[.nil]) (.cons (.tmp Z) .nil) .nil0
 ·refine jG (jI (oN mv (oN (Lx.lenL bh Z) (jD h fun g3 h=>oA (EvA.mkN (c:=cI) (default:Int) bh Z Z g3 Z Z Z) (oN (Lx.asg (hS false 0 0 1 ((List.replicate (a.length:Int).toNat (default:Int)).length)) Z) (jA ?_))))));refine T.jF (G:=Nat) h (fun s4 gh=>True) (fun s4 gh=>[(7,hS false 0 gh 1 s4.length)]) (fun s4 gh=>[bE false gh 1 3 (s4.map cI)]) (fun s4 u17 h hg=>?_) (fun s4 h=>?_)
  ·refine jI (oN mv (oN (Lx.asg (hS false 0 u17 1 s4.length) Z) (jA (jK ?_))));obtain rfl:=LC h
   repeat (first|refine cN ?_|refine cO ?_)
   exact jQ (vs:=[hS false 0 u17 1 s4.length]) (.cons (.tmp Z) .nil) (Fz.own (g:=false) (ver:=u17) (l:=s4) Z Z Z nofun qD)
  ·refine jI (oN mv (oN (Lx.lenL bh Z) (oN mv (jA (jE ?_)))));refine jO (S:=(LI)×Int) (G:=Nat) (eF a b) (fun s8 gh=>True) (fun s8 gh=>[(18,I s8.2),(17,I (a.length:Int)),(7,hS false 0 gh 1 s8.1.length),(0,eL cI a),(1,eL cI b),(2,.fn (.func 223) [])]) (fun s8 gh=>[bE false gh 1 3 (s8.1.map cI)]) (s0:=((List.replicate (a.length:Int).toNat (default:Int)),U)) 0 h trivial (kw Z Z) (fun s8 u10 ws8 h hg=>?_);refine jI (oN (Lx.ilt Z Z) (jA (jH ?_)));refine jN Z h (fun q11 h=>?_) (fun q11 h=>?_)
   ·refine jG (jH (jE (jI (oN mv (oN as' (jA (jP (dG [dF,dF,dF,dF,dF,dF,dF,dF,dF,dF,dF,dF,dF,([0],true)]) (by kernel_rfl) (by kernel_rfl) (fN Z mv (fN Z mv (fN Z mv (fN Z mv (fN Z mv (jD h fun g12 h=>fN Z (Lx.ixL bh Z Z g12 qD) (fN Z (lf (I (J a s8.2)) LR Z) ?_))))))))))))));refine fN Z mv (fN Z mv (jD h fun g13 h=>fN Z (Lx.ixL bh Z Z g13 qD) (fN Z (lf (I (J b s8.2)) LR Z) (fC h (fun _=>vp _ _) Z Z Z Z Z fun v14 _ h=>jD h fun g15 h=>fN Z (Lx.ixO (g:=false) bh Z Z nofun g15) (fV 0 [] Z Z (fun G hG=>EvA.stO (g:=false) (l:=s8.1) (cs:=[I v14]) v14 LR Z Z (hG.a0 Z) nofun (ay Z g15) Z Z Z) (jR (T.clean (H0:=[bE false u10 1 3 ((s8.1.set s8.2.toNat v14).map cI)]) (e0:=au [(18,I s8.2),(17,I (a.length:Int)),(7,hS false 0 u10 1 s8.1.length),(0,eL cI a),(1,eL cI b),(2,.fn (.func 223) [])]) Z (Lv Z (Lv Z (Lv Z (Lv Z (Lv Z (Lv Z Lu)))))) (jC (jW h fun g16 h=>oN (Lx.add Z Z g16) (oN mv (jA ?_)))))))))));obtain rfl:=LC h;exact ⟨((s8.1.set s8.2.toNat v14),(s8.2+(1:Int))),u10,Z,trivial,xD Z (Lv Z (Lv Z (Lv (congrArg (hS false 0 u10 1) (by simp:s8.1.length=(s8.1.set s8.2.toNat v14).length)) (Lv Z (Lv Z (Lv Z Lu))))))⟩
   ·refine jM (lX h fun h=>?_)
    cases h
    exact ⟨u10,trivial,kw Z Z⟩
theorem xu (a:LI) (b:LI) {q:(LI)} (h:lZ a b=some q):aA Tryz.prog 163 [eL cI a,eL cI b] (eL cI q):=by
 refine pM Tryz.func163 Z (by kernel_rfl) Z (jI (oN as' (jA (jI (oN mv (oN mv (oC h (fun _=>lm _ _) Z Z Z Z fun v1 _ h=>oN as' (jA (jK ?_)))))))))
 cases h
 exact bO Z Z Z
theorem wz (x:Int) (y:Int) {q:Int} (h:nP x y=some q):aA Tryz.prog 224 [I x,I y] (I q):=by
 refine pM Tryz.func224 Z (by kernel_rfl) Z (jI (oN as' (jA (jI (oN mv (oN mv (oN (Lx.band Z Z) (oN as' (jA (jK ?_))))))))))
 cases h
 exact bO Z Z Z
theorem mH (a:LI) (b:LI) {q:(LI)} (h:gy a b=some q):aA Tryz.prog 222 [eL cI a,eL cI b,.fn (.func 224) []] (eL cI q):=by
 refine pM Tryz.func222 Z (by kernel_rfl) Z (jI (oN as' (jA (jH (jI (oN mv (oN mv (oC h (fun _=>kJ _ _) Z Z Z Z fun v1 _ h=>oN (Lx.not Z) (jA ?_)))))))));refine jN Z h (fun q2 h=>?_) (fun q2 h=>?_)
 ·refine jI (oN as' (jA (jK ?_)));obtain rfl:=LC h
  repeat (first|refine cN ?_|refine cO ?_)
  exact jQ (vs:=[.nil]) (.cons (.tmp Z) .nil) .nil0
 ·refine jG (jI (oN mv (oN (Lx.lenL bh Z) (jD h fun g3 h=>oA (EvA.mkN (c:=cI) (default:Int) bh Z Z g3 Z Z Z) (oN (Lx.asg (hS false 0 0 1 ((List.replicate (a.length:Int).toNat (default:Int)).length)) Z) (jA ?_))))));refine T.jF (G:=Nat) h (fun s4 gh=>True) (fun s4 gh=>[(7,hS false 0 gh 1 s4.length)]) (fun s4 gh=>[bE false gh 1 3 (s4.map cI)]) (fun s4 u17 h hg=>?_) (fun s4 h=>?_)
  ·refine jI (oN mv (oN (Lx.asg (hS false 0 u17 1 s4.length) Z) (jA (jK ?_))));obtain rfl:=LC h
   repeat (first|refine cN ?_|refine cO ?_)
   exact jQ (vs:=[hS false 0 u17 1 s4.length]) (.cons (.tmp Z) .nil) (Fz.own (g:=false) (ver:=u17) (l:=s4) Z Z Z nofun qD)
  ·refine jI (oN mv (oN (Lx.lenL bh Z) (oN mv (jA (jE ?_)))));refine jO (S:=(LI)×Int) (G:=Nat) (eQ a b) (fun s8 gh=>True) (fun s8 gh=>[(18,I s8.2),(17,I (a.length:Int)),(7,hS false 0 gh 1 s8.1.length),(0,eL cI a),(1,eL cI b),(2,.fn (.func 224) [])]) (fun s8 gh=>[bE false gh 1 3 (s8.1.map cI)]) (s0:=((List.replicate (a.length:Int).toNat (default:Int)),U)) 0 h trivial (kw Z Z) (fun s8 u10 ws8 h hg=>?_);refine jI (oN (Lx.ilt Z Z) (jA (jH ?_)));refine jN Z h (fun q11 h=>?_) (fun q11 h=>?_)
   ·refine jG (jH (jE (jI (oN mv (oN as' (jA (jP (dG [dF,dF,dF,dF,dF,dF,dF,dF,dF,dF,dF,dF,dF,([0],true)]) (by kernel_rfl) (by kernel_rfl) (fN Z mv (fN Z mv (fN Z mv (fN Z mv (fN Z mv (jD h fun g12 h=>fN Z (Lx.ixL bh Z Z g12 qD) (fN Z (lf (I (J a s8.2)) LR Z) ?_))))))))))))));refine fN Z mv (fN Z mv (jD h fun g13 h=>fN Z (Lx.ixL bh Z Z g13 qD) (fN Z (lf (I (J b s8.2)) LR Z) (fC h (fun _=>wz _ _) Z Z Z Z Z fun v14 _ h=>jD h fun g15 h=>fN Z (Lx.ixO (g:=false) bh Z Z nofun g15) (fV 0 [] Z Z (fun G hG=>EvA.stO (g:=false) (l:=s8.1) (cs:=[I v14]) v14 LR Z Z (hG.a0 Z) nofun (ay Z g15) Z Z Z) (jR (T.clean (H0:=[bE false u10 1 3 ((s8.1.set s8.2.toNat v14).map cI)]) (e0:=au [(18,I s8.2),(17,I (a.length:Int)),(7,hS false 0 u10 1 s8.1.length),(0,eL cI a),(1,eL cI b),(2,.fn (.func 224) [])]) Z (Lv Z (Lv Z (Lv Z (Lv Z (Lv Z (Lv Z Lu)))))) (jC (jW h fun g16 h=>oN (Lx.add Z Z g16) (oN mv (jA ?_)))))))))));obtain rfl:=LC h;exact ⟨((s8.1.set s8.2.toNat v14),(s8.2+(1:Int))),u10,Z,trivial,xD Z (Lv Z (Lv Z (Lv (congrArg (hS false 0 u10 1) (by simp:s8.1.length=(s8.1.set s8.2.toNat v14).length)) (Lv Z (Lv Z (Lv Z Lu))))))⟩
   ·refine jM (lX h fun h=>?_)
    cases h
    exact ⟨u10,trivial,kw Z Z⟩
theorem yd (a:LI) (b:LI) {q:(LI)} (h:nu a b=some q):aA Tryz.prog 164 [eL cI a,eL cI b] (eL cI q):=by
 refine pM Tryz.func164 Z (by kernel_rfl) Z (jI (oN as' (jA (jI (oN mv (oN mv (oC h (fun _=>mH _ _) Z Z Z Z fun v1 _ h=>oN as' (jA (jK ?_)))))))))
 cases h
 exact bO Z Z Z
theorem vq (x:Int) (y:Int) {q:Int} (h:m5 x y=some q):aA Tryz.prog 225 [I x,I y] (I q):=by
 refine pM Tryz.func225 Z (by kernel_rfl) Z (jI (oN as' (jA (jI (oN mv (oN mv (oN (Lx.bandNot Z Z) (oN as' (jA (jK ?_))))))))))
 cases h
 exact bO Z Z Z
theorem lq (a:LI) (b:LI) {q:(LI)} (h:fO a b=some q):aA Tryz.prog 222 [eL cI a,eL cI b,.fn (.func 225) []] (eL cI q):=by
 refine pM Tryz.func222 Z (by kernel_rfl) Z (jI (oN as' (jA (jH (jI (oN mv (oN mv (oC h (fun _=>kJ _ _) Z Z Z Z fun v1 _ h=>oN (Lx.not Z) (jA ?_)))))))));refine jN Z h (fun q2 h=>?_) (fun q2 h=>?_)
 ·refine jI (oN as' (jA (jK ?_)));obtain rfl:=LC h
  repeat (first|refine cN ?_|refine cO ?_)
  exact jQ (vs:=[.nil]) (.cons (.tmp Z) .nil) .nil0
 ·refine jG (jI (oN mv (oN (Lx.lenL bh Z) (jD h fun g3 h=>oA (EvA.mkN (c:=cI) (default:Int) bh Z Z g3 Z Z Z) (oN (Lx.asg (hS false 0 0 1 ((List.replicate (a.length:Int).toNat (default:Int)).length)) Z) (jA ?_))))));refine T.jF (G:=Nat) h (fun s4 gh=>True) (fun s4 gh=>[(7,hS false 0 gh 1 s4.length)]) (fun s4 gh=>[bE false gh 1 3 (s4.map cI)]) (fun s4 u17 h hg=>?_) (fun s4 h=>?_)
  ·refine jI (oN mv (oN (Lx.asg (hS false 0 u17 1 s4.length) Z) (jA (jK ?_))));obtain rfl:=LC h
   repeat (first|refine cN ?_|refine cO ?_)
   exact jQ (vs:=[hS false 0 u17 1 s4.length]) (.cons (.tmp Z) .nil) (Fz.own (g:=false) (ver:=u17) (l:=s4) Z Z Z nofun qD)
  ·refine jI (oN mv (oN (Lx.lenL bh Z) (oN mv (jA (jE ?_)))));refine jO (S:=(LI)×Int) (G:=Nat) (eG a b) (fun s8 gh=>True) (fun s8 gh=>[(18,I s8.2),(17,I (a.length:Int)),(7,hS false 0 gh 1 s8.1.length),(0,eL cI a),(1,eL cI b),(2,.fn (.func 225) [])]) (fun s8 gh=>[bE false gh 1 3 (s8.1.map cI)]) (s0:=((List.replicate (a.length:Int).toNat (default:Int)),U)) 0 h trivial (kw Z Z) (fun s8 u10 ws8 h hg=>?_);refine jI (oN (Lx.ilt Z Z) (jA (jH ?_)));refine jN Z h (fun q11 h=>?_) (fun q11 h=>?_)
   ·refine jG (jH (jE (jI (oN mv (oN as' (jA (jP (dG [dF,dF,dF,dF,dF,dF,dF,dF,dF,dF,dF,dF,dF,([0],true)]) (by kernel_rfl) (by kernel_rfl) (fN Z mv (fN Z mv (fN Z mv (fN Z mv (fN Z mv (jD h fun g12 h=>fN Z (Lx.ixL bh Z Z g12 qD) (fN Z (lf (I (J a s8.2)) LR Z) ?_))))))))))))));refine fN Z mv (fN Z mv (jD h fun g13 h=>fN Z (Lx.ixL bh Z Z g13 qD) (fN Z (lf (I (J b s8.2)) LR Z) (fC h (fun _=>vq _ _) Z Z Z Z Z fun v14 _ h=>jD h fun g15 h=>fN Z (Lx.ixO (g:=false) bh Z Z nofun g15) (fV 0 [] Z Z (fun G hG=>EvA.stO (g:=false) (l:=s8.1) (cs:=[I v14]) v14 LR Z Z (hG.a0 Z) nofun (ay Z g15) Z Z Z) (jR (T.clean (H0:=[bE false u10 1 3 ((s8.1.set s8.2.toNat v14).map cI)]) (e0:=au [(18,I s8.2),(17,I (a.length:Int)),(7,hS false 0 u10 1 s8.1.length),(0,eL cI a),(1,eL cI b),(2,.fn (.func 225) [])]) Z (Lv Z (Lv Z (Lv Z (Lv Z (Lv Z (Lv Z Lu)))))) (jC (jW h fun g16 h=>oN (Lx.add Z Z g16) (oN mv (jA ?_)))))))))));obtain rfl:=LC h;exact ⟨((s8.1.set s8.2.toNat v14),(s8.2+(1:Int))),u10,Z,trivial,xD Z (Lv Z (Lv Z (Lv (congrArg (hS false 0 u10 1) (by simp:s8.1.length=(s8.1.set s8.2.toNat v14).length)) (Lv Z (Lv Z (Lv Z Lu))))))⟩
   ·refine jM (lX h fun h=>?_)
    cases h
    exact ⟨u10,trivial,kw Z Z⟩
theorem xw (a:LI) (b:LI) {q:(LI)} (h:l4 a b=some q):aA Tryz.prog 165 [eL cI a,eL cI b] (eL cI q):=by
 refine pM Tryz.func165 Z (by kernel_rfl) Z (jI (oN as' (jA (jI (oN mv (oN mv (oC h (fun _=>lq _ _) Z Z Z Z fun v1 _ h=>oN as' (jA (jK ?_)))))))))
 cases h
 exact bO Z Z Z
theorem vu (a:LI) (b:LI) {q:(LI)} (h:jl a b=some q):aA Tryz.prog 166 [eL cI a,eL cI b] (eL cI q):=by
 refine pM Tryz.func166 Z (by kernel_rfl) Z (jI (oN as' (jA (jH (jI (oN mv (oN mv (oC h (fun _=>kJ _ _) Z Z Z Z fun v1 _ h=>oN (Lx.not Z) (jA ?_)))))))));refine jN Z h (fun q2 h=>?_) (fun q2 h=>?_)
 ·refine jI (oN as' (jA (jK ?_)));obtain rfl:=LC h
  repeat (first|refine cN ?_|refine cO ?_)
  exact jQ (vs:=[.nil]) (.cons (.tmp Z) .nil) .nil0
 ·refine jG (jI (oN mv (oN (Lx.lenL bh Z) (jD h fun g3 h=>oA (EvA.mkN (c:=cI) (default:Int) bh Z Z g3 Z Z Z) (oN (Lx.asg (hS false 0 0 1 ((List.replicate (a.length:Int).toNat (default:Int)).length)) Z) (jA ?_))))));refine T.jF (G:=Nat) h (fun s4 gh=>True) (fun s4 gh=>[(5,hS false 0 gh 1 s4.length)]) (fun s4 gh=>[bE false gh 1 3 (s4.map cI)]) (fun s4 u29 h hg=>?_) (fun s4 h=>?_)
  ·refine jI (oN mv (oN (Lx.asg (hS false 0 u29 1 s4.length) Z) (jA (jK ?_))));obtain rfl:=LC h
   repeat (first|refine cN ?_|refine cO ?_)
   exact jQ (vs:=[hS false 0 u29 1 s4.length]) (.cons (.tmp Z) .nil) (Fz.own (g:=false) (ver:=u29) (l:=s4) Z Z Z nofun qD)
  ·refine jI (oN mv (oN (Lx.lenL bh Z) (oN mv (jA (jE ?_)))));refine jO (S:=(LI)×Int) (G:=Nat) (jw a b) (fun s8 gh=>True) (fun s8 gh=>[(17,I s8.2),(16,I (a.length:Int)),(5,hS false 0 gh 1 s8.1.length),(0,eL cI a),(1,eL cI b)]) (fun s8 gh=>[bE false gh 1 3 (s8.1.map cI)]) (s0:=((List.replicate (a.length:Int).toNat (default:Int)),U)) 0 h trivial (kw Z Z) (fun s8 u10 ws8 h hg=>?_);refine jI (oN (Lx.ilt Z Z) (jA (jH ?_)));refine jN Z h (fun q11 h=>?_) (fun q11 h=>?_)
   ·refine jG ?_;refine T.jF (G:=Nat) h (fun s12 gh=>True) (fun s12 gh=>[(17,I s8.2),(16,I (a.length:Int)),(5,hS false 0 gh 1 s12.length),(0,eL cI a),(1,eL cI b)]) (fun s12 gh=>[bE false gh 1 3 (s12.map cI)]) (fun s12 u27 h hg=>?_) (fun s12 h=>?_)
    ·refine jC (jW h fun g28 h=>oN (Lx.add Z Z g28) (oN mv (jA ?_)));obtain rfl:=LC h;exact ⟨(s12,(s8.2+V)),u27,Z,trivial,kw Z Z⟩
    ·refine jE (jI (oN mv (oN as' (jA (jI (oN mv (oN (Lx.lenL bh Z) (oN mv (jA (jE ?_))))))))));refine jO (S:=(LI)×Int) (G:=Nat) (iU a b s8) (fun s16 gh=>True) (fun s16 gh=>[(22,I s16.2),(21,I (b.length:Int)),(6,I s8.2),(17,I s8.2),(16,I (a.length:Int)),(5,hS false 0 gh 1 s16.1.length),(0,eL cI a),(1,eL cI b)]) (fun s16 gh=>[bE false gh 1 3 (s16.1.map cI)]) (s0:=(s8.1,U)) u10 h trivial (kw Z Z) (fun s16 u18 ws16 h hg=>?_);refine jI (oN (Lx.ilt Z Z) (jA (jH ?_)));refine jN Z h (fun q19 h=>?_) (fun q19 h=>?_)
     ·refine jG ?_;refine T.jF (G:=Nat) h (fun s20 gh=>True) (fun s20 gh=>[(22,I s16.2),(21,I (b.length:Int)),(6,I s8.2),(17,I s8.2),(16,I (a.length:Int)),(5,hS false 0 gh 1 s20.length),(0,eL cI a),(1,eL cI b)]) (fun s20 gh=>[bE false gh 1 3 (s20.map cI)]) (fun s20 u25 h hg=>?_) (fun s20 h=>?_)
      ·refine jC (jW h fun g26 h=>oN (Lx.add Z Z g26) (oN mv (jA ?_)));obtain rfl:=LC h;exact ⟨(s20,(s16.2+V)),u25,Z,trivial,kw Z Z⟩
      ·refine jE (jI (oN mv (oN as' (jA (jI (oN mv (oN mv (oN mv (oC h (fun _=>kI _ _ _) Z Z Z Z fun v21 _ h=>jA ?_)))))))));refine jN Z h (fun q22 h=>?_) (fun q22 h=>?_)
       ·refine jP (dG [dF,dF,dF,([0],false),dF,dF,dF,dF,dF,dF,([0],true)]) (by kernel_rfl) (by kernel_rfl) (fN Z mv (fN Z mv (jD h fun g23 h=>fN Z (Lx.ixO (g:=false) bh Z Z nofun g23) (fR [0] Z (fun G hG=>EvA.ldO (g:=false) (l:=s16.1) (I (J s16.1 s8.2)) LR Z (hG.a0 Z) nofun (ay Z g23) Z) (fN Z mv (fN Z mv (jD h fun g24 h=>fN Z (Lx.ixL bh Z Z g24 qD) (fN Z (lf (I (J b s16.2)) LR Z) (fN Z (Lx.bor Z Z) (fN Z (Lx.ixO (g:=false) bh Z Z nofun g23) (fV 0 [] Z Z (fun G hG=>EvA.stO (g:=false) (l:=s16.1) (cs:=[I (bOr .i64 (J s16.1 s8.2) (J b s16.2))]) (bOr .i64 (J s16.1 s8.2) (J b s16.2)) LR Z Z (hG.a0 Z) nofun (ay Z g23) Z Z Z) (jR ?_))))))))))));obtain rfl:=LC h;exact ⟨u18,trivial,xD Z (Lv Z (Lv Z (Lv Z (Lv Z (Lv Z (Lv (congrArg (hS false 0 u18 1) (by simp:s16.1.length=(s16.1.set s8.2.toNat (bOr .i64 (J s16.1 s8.2) (J b s16.2))).length)) (Lv Z (Lv Z Lu))))))))⟩
       ·refine jG ?_
        cases h
        exact ⟨u18,trivial,kw Z Z⟩
     ·refine jM (lX h fun h=>?_)
      cases h
      exact ⟨u18,trivial,kw Z Z⟩
   ·refine jM (lX h fun h=>?_)
    cases h
    exact ⟨u10,trivial,kw Z Z⟩
theorem xx:∀ (nf:Nat) (p:List (List LD)) (x:LF) (e_:aa) {q:(LI)} (h:cF nf p x e_=some q),aA Tryz.prog 104 [eL (cL LD.c) p,.agg (LF.c x),.agg (aa.c e_)] (eL cI q):=by
 intro nf
 induction nf with
 | zero=>intros;rename_i h;cases h
 | succ nf ih=>
  intro p x e_ q h;replace h:cE (cF nf) p x e_=some q:=h;refine pM Tryz.func104 Z (by kernel_rfl) Z (jI (oN (Lx.bxF [eL cI x.From,eL (cL cI) x.Order] Z Z Z) (oN (Lx.bxF (aa.c e_) Z Z Z) (oN as' (jA (jH (jI (oN (fa o6 Z) (oN (lf (I e_.Op) LR Z) (oN (Lx.ieq Z Z) (jA ?_)))))))))));refine jN Z h (fun q1 h=>?_) (fun q1 h=>?_)
  ·refine jI (oN mv (oN (lf (.agg (LF.c x)) tG Z) (oN (fa o6 Z) (oN (lf (St e_.Name) ty9 Z) (oC h (fun _=>zP _ _ _) Z Z Z Z fun v2 _ h=>oN as' (jA (jK ?_)))))))
   cases h
   exact bO Z Z Z
  ·refine jG (jH (jP (fun _=>([],false)) (by kernel_rfl) (by kernel_rfl) (fN Z mv (fN Z (lf (.agg (LF.c x)) tG Z) (fN Z (fa o6 Z) (fN Z (lf (eL TXimpl_RelExpr.c e_.Kids) CO Z) (jD h fun g3 h=>fN Z (Lx.res (Lx.ixL zh Z Z g3 TXimpl_RelExpr.len) (r' := .fp (aa.c (J e_.Kids U).out) 0) (fun _ _ hr=>wN (TXimpl_RelExpr.out_c _) hr)) (fN Z (lf (.agg (aa.c ((J e_.Kids U).out))) fw Z) (fC h (fun _=>ih _ _ _) Z Z Z Z Z fun v4 _ h=>fN Z as' (jR (jH (jI (oN (fa o6 Z) ?_)))))))))))));refine oN (lf (I e_.Op) LR Z) (jA (jE (jI (oN (Lx.ieq Z Z) (oN as' (jA ?_))))));refine jN Z h (fun q5 h=>?_) (fun q5 h=>?_)
   ·refine jH (T.clean (H0:=[]) (e0:=au [(7,eL cI v4)]) Z (Lv Z Lu) (jC (oN mv (oC h (fun _=>vo _) Z Z Z Z fun v6 _ h=>oN as' (jA (jK ?_))))))
    cases h
    exact bO Z Z Z
   ·refine jH (T.clean (H0:=[]) (e0:=au [(25,I e_.Op),(7,eL cI v4),(5,.fp (aa.c e_) 0),(4,.fp (LF.c x) 0),(0,eL (cL LD.c) p)]) Z (Lv Z (Lv Z (Lv Z (Lv Z (Lv Z Lu))))) (jC (oN (Lx.ieq Z Z) (oN as' (jA ?_)))));refine jN Z h (fun q7 h=>?_) (fun q7 h=>?_)
    ·refine jI (oN mv (oC h (fun _=>pY _) Z Z Z Z fun v8 _ h=>oN as' (jA (jK ?_))))
     cases h
     exact bO Z Z Z
    ·refine jG (jH (jP (fun _=>([],false)) (by kernel_rfl) (by kernel_rfl) (fN Z mv (fN Z (lf (.agg (LF.c x)) tG Z) (fN Z (fa o6 Z) (fN Z (lf (eL TXimpl_RelExpr.c e_.Kids) CO Z) (jD h fun g9 h=>fN Z (Lx.res (Lx.ixL zh Z Z g9 TXimpl_RelExpr.len) (r' := .fp (aa.c (J e_.Kids V).out) 0) (fun _ _ hr=>wN (TXimpl_RelExpr.out_c _) hr)) (fN Z (lf (.agg (aa.c ((J e_.Kids V).out))) fw Z) (fC h (fun _=>ih _ _ _) Z Z Z Z Z fun v10 _ h=>fN Z as' (jR (jH (jI (oN (fa o6 Z) ?_)))))))))))));refine oN (lf (I e_.Op) LR Z) (jA (jE (jI (oN (Lx.ieq Z Z) (oN as' (jA ?_))))));refine jN Z h (fun q11 h=>?_) (fun q11 h=>?_)
     ·refine jH (T.clean (H0:=[]) (e0:=au [(8,eL cI v10),(7,eL cI v4)]) Z (Lv Z (Lv Z Lu)) (jC (oN mv (oN mv (oC h (fun _=>xu _ _) Z Z Z Z fun v12 _ h=>oN as' (jA (jK ?_)))))))
      cases h
      exact bO Z Z Z
     ·refine jH (T.clean (H0:=[]) (e0:=au [(42,I e_.Op),(8,eL cI v10),(7,eL cI v4)]) Z (Lv Z (Lv Z (Lv Z Lu))) (jC (oN (Lx.ieq Z Z) (oN as' (jA ?_)))));refine jN Z h (fun q13 h=>?_) (fun q13 h=>?_)
      ·refine jI (oN mv (oN mv (oC h (fun _=>yd _ _) Z Z Z Z fun v14 _ h=>oN as' (jA (jK ?_)))))
       cases h
       exact bO Z Z Z
      ·refine jI (oN (Lx.ieq Z Z) (oN as' (jA ?_)));refine jN Z h (fun q15 h=>?_) (fun q15 h=>?_)
       ·refine jI (oN mv (oN mv (oC h (fun _=>xw _ _) Z Z Z Z fun v16 _ h=>oN as' (jA (jK ?_)))))
        cases h
        exact bO Z Z Z
       ·refine jG (jI (oN mv (oN mv (oC h (fun _=>vu _ _) Z Z Z Z fun v17 _ h=>oN as' (jA (jK ?_))))))
        cases h
        exact bO Z Z Z
theorem yf (p:List (List LD)) (x:LF) (e_:aa) {q:(LI)} (h:qq p x e_=some q):aA Tryz.prog 104 [eL (cL LD.c) p,.agg (LF.c x),.agg (aa.c e_)] (eL cI q):=by
 obtain ⟨nf,h⟩:=uO h;exact xx nf p x e_ h
theorem mO (r_:LI) {q:Bool} (h:dP r_=some q):aA Tryz.prog 168 [eL cI r_] (Bo q):=by
 refine pM Tryz.func168 Z (by kernel_rfl) Z (jI (oN as' (jA ?_)));obtain ⟨Ks1,es1,ws1,h,ks1⟩:=sumL h;refine T.join (S:=Unit) (G:=Unit) (fun s1=>Ks1 s1=some q) (fun s1 gh=>True) (fun s1 gh=>[]) (fun s1 gh=>[]) (fun s1 gh h hg=>?_) ?_
 ·clear ks1;subst es1;refine jI (oN as' (jA (jK ?_)))
  cases h
  exact bO Z Z Z
 ·refine jI (oN mv (oN (Lx.lenL bh Z) (oN mv (jA (jE ?_)))));refine T.lU h (fun s4=>[(6,I s4),(5,I (r_.length:Int)),(0,eL cI r_)]) (fun s4=>[]) (kw Z Z) (fun s4 ws4 h=>?_);refine jI (oN (Lx.ilt Z Z) (jA (jH ?_)));refine jN Z h (fun q6 h=>?_) (fun q6 h=>?_)
  ·refine jG (jH (jE (jI (oN mv (oN as' (jA (jI (oN mv (oN mv (oN mv (oC h (fun _=>kI _ _ _) Z Z Z Z fun v7 _ h=>jA ?_)))))))))));refine jN Z h (fun q8 h=>?_) (fun q8 h=>?_)
   ·refine jI (oN as' (jA (jK (lX h fun h=>?_))));obtain rfl:=LC h;replace h:=congrArg some (show _=_ from ks1)
    cases h
    exact bO Z Z Z
   ·refine jG (jC (jW h fun g9 h=>oN (Lx.add Z Z g9) (oN mv (jA ?_))));exact lE h (kw Z Z)
  ·refine jM (lX h fun h=>?_)
   cases h
   exact ⟨(),(),ks1,trivial,kw Z Z⟩
theorem vv (r_:LI) {q:Bool} (h:jm r_=some q):aA Tryz.prog 167 [eL cI r_] (Bo q):=by
 refine pM Tryz.func167 Z (by kernel_rfl) Z (jI (oN as' (jA (jI (oN mv (oC h (fun _=>eu _) Z Z Z Z fun v1 _ h=>oN mv ?_))))));refine TO.jB h 4 (fun s2=>[(9,Bo s2)]) (fun s2=>[]) (fun s2 q3 h js2=>?_) (fun s2 q3 h js2=>?_) (fun s2 h=>?_)
 ·refine gN Z q3 mv (jB h fun v4 cv4 h=>gN Z q3 (Lx.call Z Z Z (pY r_ cv4) Z) (jB h fun v5 cv5 h=>gN Z q3 (Lx.call Z Z Z (mO v4 cv5) Z) (oN (Lx.pickT Z q3 (Bo v5) Z) ?_)))
  cases h
  exact js2 _ _ (kw Z Z)
 ·refine gS Z q3 (gS Z q3 (gS Z q3 (oN (Lx.pickF Z q3 (Bo false) Z) ?_)))
  cases h
  exact js2 _ _ (kw Z Z)
 ·refine oN as' (jA (jK ?_))
  cases h
  exact bO Z Z Z
theorem qJ (x:Int) {q:Int} (h:l6 x=some q):aA Tryz.prog 267 [.v (.int .u64 x)] (I q):=by
 refine pM Tryz.func267 Z (by kernel_rfl) Z (jI (oN as' (jA (jI (oN mv (jD h fun g1 h=>oN (Lx.shr Z Z g1) (oN (Lx.band Z Z) (oN mv (oN (Lx.band Z Z) (jW h fun g2 h=>oN (Lx.add Z Z g2) (oN as' (jA (jI ?_)))))))))))));refine oN mv (jD h fun g3 h=>oN (Lx.shr Z Z g3) (oN (Lx.band Z Z) (oN mv (oN (Lx.band Z Z) (jW h fun g4 h=>oN (Lx.add Z Z g4) (oN as' (jA (jI (oN mv (jD h fun g5 h=>oN (Lx.shr Z Z g5) (oN mv (jW h fun g6 h=>?_))))))))))));refine jB h fun w7 ew7 h=>?_;replace ew7:=osi ew7;refine oN (Lx.res (Lx.add Z Z g6) (r' := .v (.int .u64 w7)) (fun _ _ hr=>by rw [<- ew7];exact hr)) (oN (Lx.band Z Z) (oN as' (jA (jH (T.clean (H0:=[]) (e0:=au [(0,.v (.int .u64 (bZ .u64 w7 (1085102592571150095:Int))))]) Z (Lv Z Lu) (jC (oN mv (oN mv (jD h fun g8 h=>oN (Lx.shr Z Z g8) (jW h fun g9 h=>oN (Lx.add Z Z g9) (oN as' (jA (jI ?_)))))))))))));refine oN mv (oN mv (jD h fun g10 h=>oN (Lx.shr Z Z g10) (jW h fun g11 h=>oN (Lx.add Z Z g11) (oN as' (jA (jI (oN mv (oN mv (jD h fun g12 h=>oN (Lx.shr Z Z g12) (jW h fun g13 h=>oN (Lx.add Z Z g13) (oN as' ?_)))))))))));refine jA (jI (oN mv (jW h fun g14 h=>oN (Lx.iconv K3.und Tryz.underlying3 Z g14) (oN (Lx.band Z Z) (oN as' (jA (jK ?_)))))))
 cases h
 exact bO Z Z Z
theorem rT (x:Int) {q:Int} (h:nD x=some q):aA Tryz.prog 227 [.v (.int .u64 x)] (I q):=by
 refine pM Tryz.func227 Z (by kernel_rfl) Z (jI (oN as' (jA (jH ?_))));refine T.cond Z (fun q=>absurd (q.symm.trans Z) (by decide)) (fun _=>?_);refine jG (jI (oN mv (oC h (fun _=>qJ _) Z Z Z Z fun v1 _ h=>oN as' (jA (jK ?_)))))
 cases h
 exact bO Z Z Z
theorem xy (r_:LI) {q:Int} (h:sZ r_=some q):aA Tryz.prog 169 [eL cI r_] (I q):=by
 refine pM Tryz.func169 Z (by kernel_rfl) Z (jI (oN as' (jA (jH (jI (oN mv (oC h (fun _=>eu _) Z Z Z Z fun v1 _ h=>oN (Lx.not Z) (jA ?_))))))));refine jN Z h (fun q2 h=>?_) (fun q2 h=>?_)
 ·refine jI (oN as' (jA (jK ?_)))
  cases h
  exact bO Z Z Z
 ·refine jG (jI (oN as' (jA ?_)));refine T.jU h (fun s3=>[(3,I s3)]) (fun s3=>[]) (fun s3 h=>?_) (fun s3 h=>?_)
  ·refine jI (oN mv (oN as' (jA (jK ?_))))
   cases h
   exact bO Z Z Z
  ·refine jI (oN mv (oN (Lx.lenL bh Z) (oN mv (jA (jE ?_)))));refine T.lU h (fun s6=>[(11,I s6.1),(10,I (r_.length:Int)),(9,eL cI r_),(3,I s6.2)]) (fun s6=>[]) (kw Z Z) (fun s6 ws6 h=>?_);refine jI (oN (Lx.ilt Z Z) (jA (jH ?_)));refine jN Z h (fun q8 h=>?_) (fun q8 h=>?_)
   ·refine jG (jH (jE (jI (jD h fun g9 h=>oN (Lx.ixL bh Z Z g9 qD) (oN (lf (I (J r_ s6.1)) LR Z) (oN as' (jA (jC (oN mv (oN mv (jW h fun g10 h=>oN (Lx.iconv LR.und Tryz.underlying155 Z g10) (oC h (fun _=>rT _) Z Z Z Z fun v11 _ h=>jW h fun g12 h=>?_))))))))))));refine oN (Lx.add Z Z g12) (oN as' (jA (jC (jW h fun g13 h=>oN (Lx.add Z Z g13) (oN mv (jA ?_))))));exact lE h (kw Z Z)
   ·refine jM (lX h fun h=>?_)
    cases h
    exact ⟨(),trivial,kw Z Z⟩
theorem wA (kind:Int) (r_:LI) {q:Bool} (h:nQ kind r_=some q):aA Tryz.prog 105 [I kind,eL cI r_] (Bo q):=by
 refine pM Tryz.func105 Z (by kernel_rfl) Z (jI (oN as' (jA (jH (jI (oN mv (jA (jE (jI (oN (Lx.ieq Z Z) (oN as' (jA ?_))))))))))));refine jN Z h (fun q1 h=>?_) (fun q1 h=>?_)
 ·refine jI (oN mv (oC h (fun _=>vv _) Z Z Z Z fun v2 _ h=>oN as' (jA (jK ?_))))
  cases h
  exact bO Z Z Z
 ·refine jI (oN (Lx.ieq Z Z) (oN as' (jA ?_)));refine jN Z h (fun q3 h=>?_) (fun q3 h=>?_)
  ·refine jI (oN mv (oC h (fun _=>mO _) Z Z Z Z fun v4 _ h=>oN as' (jA (jK ?_))))
   cases h
   exact bO Z Z Z
  ·refine jG (jI (oN mv (oC h (fun _=>xy _) Z Z Z Z fun v5 _ h=>oN (Lx.ieq Z Z) (oN as' (jA (jK ?_))))))
   cases h
   exact bO Z Z Z
theorem vw (p:List (List LD)) (x:LF) (m:List ai) {q:Int×(LI)} (h:gz p x m=some q):aA Tryz.prog 47 [eL (cL LD.c) p,.agg (LF.c x),eL ai.c m] (.tup [I q.1,eL cI q.2]):=by
 refine pM Tryz.func47 Z (by kernel_rfl) Z (jI (oN (Lx.bxF [eL cI x.From,eL (cL cI) x.Order] Z Z Z) (oN as' (oN as' (jA ?_)))));obtain ⟨Ks1,es1,ws1,h,ks1⟩:=sumL h;refine T.join (S:=Unit) (G:=Unit) (fun s1=>Ks1 s1=some q) (fun s1 gh=>True) (fun s1 gh=>[]) (fun s1 gh=>[]) (fun s1 gh h hg=>?_) ?_
 ·clear ks1;subst es1;refine jI (oN as' (oN as' (jA (jK ?_))));obtain rfl:=LC h
  repeat (first|refine cN ?_|refine cO ?_)
  exact jQ (vs:=[I (-1:Int),.nil]) (.cons (.tmp Z) (.cons (.tmp Z) .nil)) (.tupL (.cons (qC Z) (.cons .nil0 .nil)))
 ·refine jI (oN mv (oN (Lx.lenL GU Z) (oN mv (jA (jE ?_)))));refine T.lU h (fun s4=>[(13,I s4),(12,I (m.length:Int)),(11,eL ai.c m),(4,.fp (LF.c x) 0),(0,eL (cL LD.c) p)]) (fun s4=>[]) (kw Z Z) (fun s4 ws4 h=>?_);refine jI (oN (Lx.ilt Z Z) (jA (jH ?_)));refine jN Z h (fun q6 h=>?_) (fun q6 h=>?_)
  ·refine jG (jH (jE (jI (oN mv (jD h fun g7 h=>oN (Lx.ixL GU Z Z g7 qD) (oN (lf (.agg (ai.c (J m s4))) Ei Z) (oA (EvA.al Ic Z Z) (oN as' (oV (sr (ai.c (⟨(J m s4).Kind,((J m s4).Expr)⟩:ai)) Ei Z Z Z Z) (jA (jI (oN mv (oN (lf (.agg (LF.c x)) tG Z) (oN (fa Ej Z) ?_))))))))))))));refine oA (lh (.agg (aa.c ((J m s4).Expr))) fw Z Z Z) (oC h (fun _=>yf _ _ _) Z Z Z Z fun v8 _ h=>oN as' (jA (jI (oN (fa Ej Z) (oA (lh (I ((J m s4).Kind)) LR Z Z Z) (oN mv (oC h (fun _=>wA _ _) Z Z Z Z fun v9 _ h=>oN (Lx.not Z) (jA ?_))))))));refine jN Z h (fun q10 h=>?_) (fun q10 h=>?_)
   ·refine jH (T.clean (H0:=[some ⟨0,4,133,[(ai.c (⟨(J m s4).Kind,((J m s4).Expr)⟩:ai))]⟩]) (e0:=au [(10,eL cI v8),(8,I s4)]) Z (Lv Z (Lv Z Lu)) (jC (oN mv (oN mv (oN as' (oN as' (jA (jK (lX h fun h=>?_)))))))));obtain rfl:=LC h;replace h:=congrArg some (show _=_ from ks1);obtain rfl:=LC h
    repeat (first|refine cN ?_|refine cO ?_)
    exact jQ (vs:=[I s4,eL cI v8]) (.cons (.tmp Z) (.cons (.tmp Z) .nil)) (.tupL (.cons (qC Z) (.cons (qC Z) .nil)))
   ·refine jG (T.clean (H0:=[some ⟨0,4,133,[(ai.c (⟨(J m s4).Kind,((J m s4).Expr)⟩:ai))]⟩]) (e0:=au [(13,I s4),(12,I (m.length:Int)),(11,eL ai.c m),(4,.fp (LF.c x) 0),(0,eL (cL LD.c) p)]) Z (Lv Z (Lv Z (Lv Z (Lv Z (Lv Z Lu))))) (jC (jW h fun g11 h=>oN (Lx.add Z Z g11) (oN mv (jA ?_)))));exact lE h (nB Z .nil (aj (.fz (qC Z)) (aj (.fz (qC Z)) (aj (.fz (qC Z)) (aj (.fz (qC Z)) (aj (.fz (qC Z)) aS))))))
  ·refine jM (lX h fun h=>?_)
   cases h
   exact ⟨(),(),ks1,trivial,kw Z Z⟩
set_option maxHeartbeats 4000000 in
theorem rq (v:az) (t:Int) (index:Int) (reg:Int) (aI:Nat) (jY:Nat) (jg:Nat) (gw1:Bool) (hgw1:gw1=true->v.values=[]) {q:az×Int} (h:eO v t index reg=some q):dx Tryz.prog 207 [.hp 0 aI 6 0 0,I t,I index,I reg] [some ⟨aI,6,185,[[eL (cL LD.c) v.p,eL cI v.x.From,eL (cL cI) v.x.Order,eL LG.c v.events,hS gw1 1 jY 1 v.values.length,hS false 2 jg 1 v.busy.length]]⟩,bE gw1 jY 1 3 (v.values.map cI),bE false jg 1 4 (v.busy.map cB)] (JC (I q.2) fun ver=>[some ⟨aI,6,185,[[eL (cL LD.c) q.1.p,eL cI q.1.x.From,eL (cL cI) q.1.x.Order,eL LG.c q.1.events,hS gw1 1 jY 1 v.values.length,hS false 2 jg 1 q.1.busy.length]]⟩,bE gw1 jY 1 3 (v.values.map cI),bE false jg 1 4 (q.1.busy.map cB)]):=by
 refine dx.mkS Tryz.func207 Z (by kernel_rfl) Z (by kernel_rfl) (e0:=au [(0,.hp 0 aI 6 0 0),(1,I t),(2,I index),(3,I reg)]) (Lv Z (Lv Z (Lv Z (Lv Z Lu)))) (jI (oN as' (jA (jI (oN as' (jA ?_))))));refine T.jU h (fun s1=>[(9,I s1)]) (fun s1=>[some ⟨aI,6,185,[[eL (cL LD.c) v.p,eL cI v.x.From,eL (cL cI) v.x.Order,eL LG.c v.events,hS gw1 1 jY 1 v.values.length,hS false 2 jg 1 v.busy.length]]⟩,bE gw1 jY 1 3 (v.values.map cI),bE false jg 1 4 (v.busy.map cB)]) (fun s1 h=>?_) (fun s1 h=>?_)
 ·refine jI (oN mv (oN as' (jA (jK ?_))));obtain rfl:=LC h
  repeat (first|refine cN ?_|refine cO ?_)
  exact ⟨au [(8,I s1)],[some ⟨aI,6,185,[[eL (cL LD.c) v.p,eL cI v.x.From,eL (cL cI) v.x.Order,eL LG.c v.events,hS gw1 1 jY 1 v.values.length,hS false 2 jg 1 v.busy.length]]⟩,bE gw1 jY 1 3 (v.values.map cI),bE false jg 1 4 (v.busy.map cB)],kw Z Z,jQ (vs:=[I s1]) (.cons (.tmp Z) .nil) ⟨0,Z,Z⟩⟩
 ·refine jI (oN mv (oN (nl Z) (oN (fa uY Z) (oA (lh (eL LG.c v.events) Jv Z Z Z) (oN (Lx.lenL vX Z) (oN mv (jA (jE ?_))))))));refine T.lU h (fun s4=>[(17,I s4.1),(16,I (v.events.length:Int)),(15,eL LG.c v.events),(9,I s4.2),(0,.hp 0 aI 6 0 0),(1,I t),(2,I index),(3,I reg)]) (fun s4=>[some ⟨aI,6,185,[[eL (cL LD.c) v.p,eL cI v.x.From,eL (cL cI) v.x.Order,eL LG.c v.events,hS gw1 1 jY 1 v.values.length,hS false 2 jg 1 v.busy.length]]⟩,bE gw1 jY 1 3 (v.values.map cI),bE false jg 1 4 (v.busy.map cB)]) (kw Z Z) (fun s4 ws4 h=>?_);refine jI (oN (Lx.ilt Z Z) (jA (jH ?_)));refine jN Z h (fun q6 h=>?_) (fun q6 h=>?_)
  ·refine jG ?_;refine T.jU h (fun s7=>[(9,I s7),(17,I s4.1),(16,I (v.events.length:Int)),(15,eL LG.c v.events),(0,.hp 0 aI 6 0 0),(1,I t),(2,I index),(3,I reg)]) (fun s7=>[some ⟨aI,6,185,[[eL (cL LD.c) v.p,eL cI v.x.From,eL (cL cI) v.x.Order,eL LG.c v.events,hS gw1 1 jY 1 v.values.length,hS false 2 jg 1 v.busy.length]]⟩,bE gw1 jY 1 3 (v.values.map cI),bE false jg 1 4 (v.busy.map cB)]) (fun s7 h=>?_) (fun s7 h=>?_)
   ·refine jC (jW h fun g16 h=>oN (Lx.add Z Z g16) (oN mv (jA ?_)));exact lE h (kw Z Z)
   ·refine jE (jI (oN mv (jD h fun g8 h=>oN (Lx.ixL vX Z Z g8 qD) (oN (lf (.agg (LG.c (J v.events s4.1))) zN Z) (oA (EvA.al Eh Z Z) (oN as' (oV (sr (LG.c (J v.events s4.1)) zN Z Z Z Z) (jA ?_))))))));refine T.jU h (fun s9=>[(51,Bo s9),(10,I s4.1),(17,I s4.1),(16,I (v.events.length:Int)),(15,eL LG.c v.events),(9,I s4.2),(0,.hp 0 aI 6 0 0),(1,I t),(2,I index),(3,I reg)]) (fun s9=>[some ⟨aI,6,185,[[eL (cL LD.c) v.p,eL cI v.x.From,eL (cL cI) v.x.Order,eL LG.c v.events,hS gw1 1 jY 1 v.values.length,hS false 2 jg 1 v.busy.length]]⟩,bE gw1 jY 1 3 (v.values.map cI),bE false jg 1 4 (v.busy.map cB),some ⟨0,5,74,[(LG.c (J v.events s4.1))]⟩]) (fun s9 h=>?_) (fun s9 h=>?_)
    ·refine jN Z h (fun q15 h=>?_) (fun q15 h=>?_)
     ·refine jC (oN mv (oN as' (jA ?_)))
      cases h
      exact ⟨(),trivial,nB Z (.cons (.row (.cons (.fz (qC Z)) (.cons (.fz (qC Z)) (.cons (.fz (qC Z)) (.cons (.fz (qC Z)) (.cons (.hS (g:=gw1) (b:=1) (ver:=jY) (s:=1) (n:=v.values.length) Z) (.cons (.hS (g:=false) (b:=2) (ver:=jg) (s:=1) (n:=v.busy.length) Z) .nil))))))) (.cons (.list (g:=gw1) (ver:=jY) (l:=v.values) qD) (.cons (.list (g:=false) (ver:=jg) (l:=v.busy) qD) .nil))) (aj (.fz (qC Z)) (aj (.fz (qC Z)) (aj (.fz (qC Z)) (aj (.fz (qC Z)) (aj (.hp (nlb Z)) (aj (.fz (qC Z)) (aj (.fz (qC Z)) (aj (.fz (qC Z)) aS))))))))⟩
     ·refine jG ?_
      cases h
      exact ⟨(),trivial,nB Z (.cons (.row (.cons (.fz (qC Z)) (.cons (.fz (qC Z)) (.cons (.fz (qC Z)) (.cons (.fz (qC Z)) (.cons (.hS (g:=gw1) (b:=1) (ver:=jY) (s:=1) (n:=v.values.length) Z) (.cons (.hS (g:=false) (b:=2) (ver:=jg) (s:=1) (n:=v.busy.length) Z) .nil))))))) (.cons (.list (g:=gw1) (ver:=jY) (l:=v.values) qD) (.cons (.list (g:=false) (ver:=jg) (l:=v.busy) qD) .nil))) (aj (.fz (qC Z)) (aj (.fz (qC Z)) (aj (.fz (qC Z)) (aj (.fz (qC Z)) (aj (.hp (nlb Z)) (aj (.fz (qC Z)) (aj (.fz (qC Z)) (aj (.fz (qC Z)) aS))))))))⟩
    ·refine T.drawG (dG [dF,([3],false),dF,dF,dF,dF,([3],false),dF,dF,dF,dF,dF,([3],false),dF,dF,dF,dF,dF,([0],false),dF,dF,dF,dF,([3],false),dF,dF,dF,dF,dF,dF]) (by kernel_rfl) (by kernel_rfl) (tN Z (fa qh Z) (tR [3] Z (fun G hG=>EvA.loadhp (I ((J v.events s4.1).Thread)) LR Z (hG.a0 Z) Z Z Z Z) (tN Z mv (tN Z (Lx.ieq Z Z) (tN Z mv ?_)))));rcases Cr h with ⟨q10,h⟩ | ⟨q10,h⟩
     ·refine LS Z q10 Z (fa qh Z) (tgR Z q10 [3] Z (fun G hG=>EvA.loadhp (I ((J v.events s4.1).Index)) LR Z (hG.a0 Z) Z Z Z Z) (LS Z q10 Z mv (LS Z q10 Z (Lx.ilt Z Z) (tN Z (Lx.pickT Z q10 (Bo (decide (((J v.events s4.1).Index)<index))) Z) (tN Z mv ?_)))));rcases Cr h with ⟨q11,h⟩ | ⟨q11,h⟩
      ·refine LS Z q11 Z (fa qh Z) (tgR Z q11 [3] Z (fun G hG=>EvA.loadhp (Bo ((J v.events s4.1).Reads)) ty4 Z (hG.a0 Z) Z Z Z Z) (tN Z (Lx.pickT Z q11 (Bo ((J v.events s4.1).Reads)) Z) (tN Z mv ?_)));rcases Cr h with ⟨q12,h⟩ | ⟨q12,h⟩
       ·refine LS Z q12 Z mv (LS Z q12 Z (nl Z) (LS Z q12 Z (fa uY Z) (tgR Z q12 [0] Z (fun G hG=>EvA.loadhp (eL (cL LD.c) v.p) Ib Z (hG.a0 Z) Z Z Z Z) (LS Z q12 Z mv (jD h fun g13 h=>LS Z q12 Z (Lx.ixL mE Z Z g13 qD) (LS Z q12 Z (lf (eL LD.c (J v.p t)) xG Z) (LS Z q12 Z (fa qh Z) (tgR Z q12 [3] Z (fun G hG=>EvA.loadhp (I ((J v.events s4.1).Index)) LR Z (hG.a0 Z) Z Z Z Z) (jD h fun g14 h=>LS Z q12 Z (Lx.ixL sj Z Z g14 qD) (LS Z q12 Z (fa nA Z) (LS Z q12 Z (lf (I ((J (J v.p t) ((J v.events s4.1).Index)).Reg)) LR Z) (LS Z q12 Z mv (LS Z q12 Z (Lx.ieq Z Z) ?_)))))))))))));refine tN Z (Lx.pickT Z q12 (Bo (((J (J v.p t) ((J v.events s4.1).Index)).Reg)==reg)) Z) (TG.nil ?_)
        cases h
        exact ⟨(),trivial,kw Z Z⟩
       ·refine LU Z q12 (LU Z q12 (LU Z q12 (LU Z q12 (LU Z q12 (LU Z q12 (LU Z q12 (LU Z q12 (LU Z q12 (LU Z q12 (LU Z q12 (LU Z q12 (LU Z q12 (LU Z q12 (tN Z (Lx.pickF Z q12 (Bo false) Z) (TG.nil ?_)))))))))))))))
        cases h
        exact ⟨(),trivial,kw Z Z⟩
      ·refine LU Z q11 (LU Z q11 (tN Z (Lx.pickF Z q11 (Bo false) Z) (tN Z mv (LU Z Z (LU Z Z (LU Z Z (LU Z Z (LU Z Z (LU Z Z (LU Z Z (LU Z Z (LU Z Z (LU Z Z (LU Z Z (LU Z Z ?_)))))))))))))));refine LU Z Z (LU Z Z (tN Z (Lx.pickF Z Z (Bo false) Z) (TG.nil ?_)))
       cases h
       exact ⟨(),trivial,kw Z Z⟩
     ·refine LU Z q10 (LU Z q10 (LU Z q10 (LU Z q10 (tN Z (Lx.pickF Z q10 (Bo false) Z) (tN Z mv (LU Z Z (LU Z Z (tN Z (Lx.pickF Z Z (Bo false) Z) (tN Z mv (LU Z Z (LU Z Z (LU Z Z (LU Z Z (LU Z Z (LU Z Z ?_)))))))))))))));refine LU Z Z (LU Z Z (LU Z Z (LU Z Z (LU Z Z (LU Z Z (LU Z Z (LU Z Z (tN Z (Lx.pickF Z Z (Bo false) Z) (TG.nil ?_)))))))))
      cases h
      exact ⟨(),trivial,kw Z Z⟩
  ·refine jM (lX h fun h=>?_)
   cases h
   exact ⟨(),trivial,kw Z Z⟩
set_option maxHeartbeats 4000000 in
theorem sN:∀ (nf:Nat) (v:az) (i:Int) (aI:Nat) (jY:Nat) (jg:Nat) (gw1:Bool) (hgw1:gw1=true->v.values=[]) {q:az×Int×Bool} (h:bI nf v i=some q),dx Tryz.prog 152 [.hp 0 aI 6 0 0,I i] [some ⟨aI,6,185,[[eL (cL LD.c) v.p,eL cI v.x.From,eL (cL cI) v.x.Order,eL LG.c v.events,hS gw1 1 jY 1 v.values.length,hS false 2 jg 1 v.busy.length]]⟩,bE gw1 jY 1 3 (v.values.map cI),bE false jg 1 4 (v.busy.map cB)] (JC (.tup [I q.2.1,Bo q.2.2]) fun ver=>[some ⟨aI,6,185,[[eL (cL LD.c) q.1.p,eL cI q.1.x.From,eL (cL cI) q.1.x.Order,eL LG.c q.1.events,hS gw1 1 jY 1 v.values.length,hS false 2 jg 1 q.1.busy.length]]⟩,bE gw1 jY 1 3 (v.values.map cI),bE false jg 1 4 (q.1.busy.map cB)]):=by
 intro nf
 induction nf with
 | zero=>intros;rename_i h;cases h
 | succ nf ih=>
  intro v i aI jY jg gw1 hgw1 q h;replace h:fu (bI nf) v i=some q:=h;refine dx.mkS Tryz.func152 Z (by kernel_rfl) Z (by kernel_rfl) (e0:=au [(0,.hp 0 aI 6 0 0),(1,I i)]) (Lv Z (Lv Z Lu)) (jI (oN as' (oN as' (jA (jI (oN mv (oN (nl Z) (oN (fa uY Z) (oA (lh (eL LG.c v.events) Jv Z Z Z) (oN mv (jD h fun g1 h=>oN (Lx.ixL vX Z Z g1 qD) (oN (lf (.agg (LG.c (J v.events i))) zN Z) (oA (EvA.al Eh Z Z) (oV (sr (LG.c (J v.events i)) zN Z Z Z Z) ?_))))))))))))));refine jA (jH (jI (oN (fa qh Z) (oA (lh (I ((J v.events i).Thread)) LR Z Z Z) (oN (Lx.ilt Z Z) (jA ?_))))));refine jN Z h (fun q2 h=>?_) (fun q2 h=>?_)
  ·refine jI (oN as' (oN as' (jA (jK ?_))));obtain rfl:=LC h
   repeat (first|refine cN ?_|refine cO ?_)
   exact ⟨au [(4,I U),(5,Bo true)],[some ⟨aI,6,185,[[eL (cL LD.c) v.p,eL cI v.x.From,eL (cL cI) v.x.Order,eL LG.c v.events,hS gw1 1 jY 1 v.values.length,hS false 2 jg 1 v.busy.length]]⟩,bE gw1 jY 1 3 (v.values.map cI),bE false jg 1 4 (v.busy.map cB)],nB Z (.cons (.row (.cons (.fz (qC Z)) (.cons (.fz (qC Z)) (.cons (.fz (qC Z)) (.cons (.fz (qC Z)) (.cons (.hS (g:=gw1) (b:=1) (ver:=jY) (s:=1) (n:=v.values.length) Z) (.cons (.hS (g:=false) (b:=2) (ver:=jg) (s:=1) (n:=v.busy.length) Z) .nil))))))) (.cons (.list (g:=gw1) (ver:=jY) (l:=v.values) qD) (.cons (.list (g:=false) (ver:=jg) (l:=v.busy) qD) .nil))) (aj (.fz (qC Z)) (aj (.fz (qC Z)) aS)),jQ (vs:=[I U,Bo true]) (.cons (.tmp Z) (.cons (.tmp Z) .nil)) ⟨0,Z,Z⟩⟩
  ·refine jG (jH (T.reserve (jP (dG [dF,dF,dF,([0],false),dF,([3],false),dF,dF,dF,([3],false),dF,dF,([4],true),([4],true)]) (by kernel_rfl) (by kernel_rfl) (fN Z mv (fN Z (nl Z) (fN Z (fa uY Z) (fR [0] Z (fun G hG=>EvA.loadhp (eL (cL LD.c) v.p) Ib Z (hG.a0 Z) Z Z Z Z) (fN Z (fa qh Z) (fR [3] Z (fun G hG=>EvA.loadhp (I ((J v.events i).Thread)) LR Z (hG.a0 Z) Z Z Z Z) (jD h fun g3 h=>fN Z (Lx.ixL mE Z Z g3 qD) (fN Z (lf (eL LD.c (J v.p ((J v.events i).Thread))) xG Z) (fN Z (fa qh Z) (fR [3] Z (fun G hG=>EvA.loadhp (I ((J v.events i).Index)) LR Z (hG.a0 Z) Z Z Z Z) (jD h fun g4 h=>?_))))))))))))));refine fN Z (Lx.ixL sj Z Z g4 qD) (fN Z (lf (.agg (LD.c (J (J v.p ((J v.events i).Thread)) ((J v.events i).Index)))) m8 Z) (fW 4 [] Z Z (fun G hG=>EvA.alR 4 xb Z Z (hG.a0 Z)) (fV 4 [] Z Z (fun G hG=>EvA.st (cs:=(LD.c (J (J v.p ((J v.events i).Thread)) ((J v.events i).Index)))) ⟨0,4,97,[(LD.c (J (J v.p ((J v.events i).Thread)) ((J v.events i).Index)))]⟩ m8 Z Z (hG.a0 Z) Z Z Z Z Z Z) (jR (jH (jH (T.clean (H0:=[some ⟨aI,6,185,[[eL (cL LD.c) v.p,eL cI v.x.From,eL (cL cI) v.x.Order,eL LG.c v.events,hS gw1 1 jY 1 v.values.length,hS false 2 jg 1 v.busy.length]]⟩,bE gw1 jY 1 3 (v.values.map cI),bE false jg 1 4 (v.busy.map cB),some ⟨0,5,74,[(LG.c (J v.events i))]⟩,some ⟨0,4,97,[(LD.c (J (J v.p ((J v.events i).Thread)) ((J v.events i).Index)))]⟩]) (e0:=au [(7,.hp 4 0 4 0 0),(6,.hp 3 0 5 0 0),(0,.hp 0 aI 6 0 0),(1,I i)]) Z (Lv Z (Lv Z (Lv Z (Lv Z Lu)))) (jC (oN (fa nA Z) (oA (lh (I ((J (J v.p ((J v.events i).Thread)) ((J v.events i).Index)).Op)) LR Z Z Z) (oN (Lx.ine Z Z) (jA ?_))))))))))));refine jN Z h (fun q5 h=>?_) (fun q5 h=>?_)
   ·refine jI (oN (fa nA Z) (oA (lh (I ((J (J v.p ((J v.events i).Thread)) ((J v.events i).Index)).Val)) LR Z Z Z) (oN as' (oN as' (jA (jK ?_))))));obtain rfl:=LC h
    repeat (first|refine cN ?_|refine cO ?_)
    exact ⟨au [(4,I ((J (J v.p ((J v.events i).Thread)) ((J v.events i).Index)).Val)),(5,Bo true)],[some ⟨aI,6,185,[[eL (cL LD.c) v.p,eL cI v.x.From,eL (cL cI) v.x.Order,eL LG.c v.events,hS gw1 1 jY 1 v.values.length,hS false 2 jg 1 v.busy.length]]⟩,bE gw1 jY 1 3 (v.values.map cI),bE false jg 1 4 (v.busy.map cB)],nB Z (.cons (.row (.cons (.fz (qC Z)) (.cons (.fz (qC Z)) (.cons (.fz (qC Z)) (.cons (.fz (qC Z)) (.cons (.hS (g:=gw1) (b:=1) (ver:=jY) (s:=1) (n:=v.values.length) Z) (.cons (.hS (g:=false) (b:=2) (ver:=jg) (s:=1) (n:=v.busy.length) Z) .nil))))))) (.cons (.list (g:=gw1) (ver:=jY) (l:=v.values) qD) (.cons (.list (g:=false) (ver:=jg) (l:=v.busy) qD) .nil))) (aj (.fz (qC Z)) (aj (.fz (qC Z)) aS)),jQ (vs:=[I ((J (J v.p ((J v.events i).Thread)) ((J v.events i).Index)).Val),Bo true]) (.cons (.tmp Z) (.cons (.tmp Z) .nil)) ⟨0,Z,Z⟩⟩
   ·refine jG (jH (jI (oN mv (oN (nl Z) (oN (fa uY Z) (oA (lh (hS false 2 jg 1 v.busy.length) Ie Z Z Z) (oN mv (jD h fun g6 h=>oN (Lx.ixO (g:=false) Ig Z Z nofun g6) (oA (EvA.ldO (g:=false) (l:=v.busy) (Bo (J v.busy i)) ty4 Z Z nofun (ay Z g6) Z) (jA ?_))))))))));refine jN Z h (fun q7 h=>?_) (fun q7 h=>?_)
    ·refine jI (oN as' (oN as' (jA (jK ?_))));obtain rfl:=LC h
     repeat (first|refine cN ?_|refine cO ?_)
     exact ⟨au [(4,I U),(5,Bo false)],[some ⟨aI,6,185,[[eL (cL LD.c) v.p,eL cI v.x.From,eL (cL cI) v.x.Order,eL LG.c v.events,hS gw1 1 jY 1 v.values.length,hS false 2 jg 1 v.busy.length]]⟩,bE gw1 jY 1 3 (v.values.map cI),bE false jg 1 4 (v.busy.map cB)],nB Z (.cons (.row (.cons (.fz (qC Z)) (.cons (.fz (qC Z)) (.cons (.fz (qC Z)) (.cons (.fz (qC Z)) (.cons (.hS (g:=gw1) (b:=1) (ver:=jY) (s:=1) (n:=v.values.length) Z) (.cons (.hS (g:=false) (b:=2) (ver:=jg) (s:=1) (n:=v.busy.length) Z) .nil))))))) (.cons (.list (g:=gw1) (ver:=jY) (l:=v.values) qD) (.cons (.list (g:=false) (ver:=jg) (l:=v.busy) qD) .nil))) (aj (.fz (qC Z)) (aj (.fz (qC Z)) aS)),jQ (vs:=[I U,Bo false]) (.cons (.tmp Z) (.cons (.tmp Z) .nil)) ⟨0,Z,Z⟩⟩
    ·refine jG (jI (oN mv (oN (fa qh Z) (oA (lh (I ((J v.events i).Thread)) LR Z Z Z) (oN (fa qh Z) (oA (lh (I ((J v.events i).Index)) LR Z Z Z) (oN (fa nA Z) (oA (lh (I ((J (J v.p ((J v.events i).Thread)) ((J v.events i).Index)).Reg)) LR Z Z Z) (jB h fun v8 cv8 h=>?_)))))))));refine oW Z Z Z (dx.outAt (rq (⟨v.p,(⟨v.x.From,v.x.Order⟩:LF),v.events,v.values,v.busy⟩:az) ((J v.events i).Thread) ((J v.events i).Index) ((J (J v.p ((J v.events i).Thread)) ((J v.events i).Index)).Reg) aI jY jg gw1 hgw1 cv8) [0,1,2] (by decide) (.cons Z (.rowL (.cons (ax 9 _ Z) (.cons (ax 9 _ Z) (.cons (ax 9 _ Z) (.cons (ax 9 _ Z) (.cons (aR Z) (.cons (aR Z) .nil))))))) (.bE Z qD (.cons Z (RenK.bE' qD) .nil))) (.cons (.hp Z) (.cons (ax 9 _ Z) (.cons (ax 9 _ Z) (.cons (ax 9 _ Z) .nil)))) (G:=fun v_=>[some ⟨aI,6,185,[[eL (cL LD.c) v8.1.p,eL cI v8.1.x.From,eL (cL cI) v8.1.x.Order,eL LG.c v8.1.events,hS gw1 1 jY 1 v.values.length,hS false 2 jg 1 v8.1.busy.length]]⟩,bE gw1 jY 1 3 (v.values.map cI),bE false jg 1 4 (v8.1.busy.map cB)]) (G':=fun v_=>[some ⟨aI,6,185,[[eL (cL LD.c) v8.1.p,eL cI v8.1.x.From,eL (cL cI) v8.1.x.Order,eL LG.c v8.1.events,hS gw1 1 jY 1 v.values.length,hS false 2 jg 1 v8.1.busy.length]]⟩,bE gw1 jY 1 3 (v.values.map cI),bE false jg 1 4 (v8.1.busy.map cB),some ⟨0,5,74,[(LG.c (J v.events i))]⟩,some ⟨0,4,97,[(LD.c (J (J v.p ((J v.events i).Thread)) ((J v.events i).Index)))]⟩]) 5 Z (fun v_ => .some (.rowL (.cons (ax 9 _ Z) (.cons (ax 9 _ Z) (.cons (ax 9 _ Z) (.cons (ax 9 _ Z) (.cons (aR (.inl Z)) (.cons (aR (.inl Z)) .nil))))))) (.bE qD (.some (RenK.bE' qD) .nil))) qD (r:=I v8.2) (ax 9 _ Z) qD) (fun u9=>?_);refine oN as' (jA (jH (jH (T.clean (H0:=[some ⟨aI,6,185,[[eL (cL LD.c) v8.1.p,eL cI v8.1.x.From,eL (cL cI) v8.1.x.Order,eL LG.c v8.1.events,hS gw1 1 jY 1 v.values.length,hS false 2 jg 1 v8.1.busy.length]]⟩,bE gw1 jY 1 3 (v.values.map cI),bE false jg 1 4 (v8.1.busy.map cB),some ⟨0,5,74,[(LG.c (J v.events i))]⟩,some ⟨0,4,97,[(LD.c (J (J v.p ((J v.events i).Thread)) ((J v.events i).Index)))]⟩]) (e0:=au [(8,I v8.2),(0,.hp 0 aI 6 0 0),(1,I i)]) Z (Lv Z (Lv Z (Lv Z Lu))) (jC (oN mv (oN (Lx.ilt Z Z) (jA ?_))))))));refine jN Z h (fun q10 h=>?_) (fun q10 h=>?_)
     ·refine jI (oN as' (oN as' (jA (jK ?_))));obtain rfl:=LC h
      repeat (first|refine cN ?_|refine cO ?_)
      exact ⟨au [(4,I U),(5,Bo true)],[some ⟨aI,6,185,[[eL (cL LD.c) v8.1.p,eL cI v8.1.x.From,eL (cL cI) v8.1.x.Order,eL LG.c v8.1.events,hS gw1 1 jY 1 v.values.length,hS false 2 jg 1 v8.1.busy.length]]⟩,bE gw1 jY 1 3 (v.values.map cI),bE false jg 1 4 (v8.1.busy.map cB)],nB Z (.cons (.row (.cons (.fz (qC Z)) (.cons (.fz (qC Z)) (.cons (.fz (qC Z)) (.cons (.fz (qC Z)) (.cons (.hS (g:=gw1) (b:=1) (ver:=jY) (s:=1) (n:=v.values.length) Z) (.cons (.hS (g:=false) (b:=2) (ver:=jg) (s:=1) (n:=v8.1.busy.length) Z) .nil))))))) (.cons (.list (g:=gw1) (ver:=jY) (l:=v.values) qD) (.cons (.list (g:=false) (ver:=jg) (l:=v8.1.busy) qD) .nil))) (aj (.fz (qC Z)) (aj (.fz (qC Z)) aS)),jQ (vs:=[I U,Bo true]) (.cons (.tmp Z) (.cons (.tmp Z) .nil)) ⟨0,Z,Z⟩⟩
     ·refine jG (jI (oN mv (oN (nl Z) (oN (fa uY Z) (oA (lh (hS false 2 jg 1 v8.1.busy.length) Ie Z Z Z) (oN mv (jD h fun g11 h=>oN (Lx.ixO (g:=false) Ig Z Z nofun g11) (oV (EvA.stO (g:=false) (l:=v8.1.busy) (cs:=[Bo true]) true ty4 Z Z Z nofun (ay Z g11) Z Z Z) (jA (jI (oN mv (oN mv (oN (nl Z) (oN (fa uY Z) ?_))))))))))))));refine oN (fa xa Z) (oA (lh (eL cI v8.1.x.From) o5 Z Z Z) (oN mv (jD h fun g12 h=>oN (Lx.ixL bh Z Z g12 qD) (oN (lf (I (J v8.1.x.From v8.2)) LR Z) (jB h fun v13 cv13 h=>?_)))));refine oW Z Z Z (dx.outAt (ih (⟨v8.1.p,(⟨v8.1.x.From,v8.1.x.Order⟩:LF),v8.1.events,v.values,(v8.1.busy.set i.toNat true)⟩:az) (J v8.1.x.From v8.2) aI jY jg gw1 hgw1 cv13) [0,1,2] (by decide) (.cons Z (.rowL (.cons (ax 9 _ Z) (.cons (ax 9 _ Z) (.cons (ax 9 _ Z) (.cons (ax 9 _ Z) (.cons (aR Z) (.cons (Hg Z ((by simp))) .nil))))))) (.bE Z qD (.cons Z (RenK.bE' qD) .nil))) (.cons (.hp Z) (.cons (ax 9 _ Z) .nil)) (G:=fun v_=>[some ⟨aI,6,185,[[eL (cL LD.c) v13.1.p,eL cI v13.1.x.From,eL (cL cI) v13.1.x.Order,eL LG.c v13.1.events,hS gw1 1 jY 1 v.values.length,hS false 2 jg 1 v13.1.busy.length]]⟩,bE gw1 jY 1 3 (v.values.map cI),bE false jg 1 4 (v13.1.busy.map cB)]) (G':=fun v_=>[some ⟨aI,6,185,[[eL (cL LD.c) v13.1.p,eL cI v13.1.x.From,eL (cL cI) v13.1.x.Order,eL LG.c v13.1.events,hS gw1 1 jY 1 v.values.length,hS false 2 jg 1 v13.1.busy.length]]⟩,bE gw1 jY 1 3 (v.values.map cI),bE false jg 1 4 (v13.1.busy.map cB),some ⟨0,5,74,[(LG.c (J v.events i))]⟩,some ⟨0,4,97,[(LD.c (J (J v.p ((J v.events i).Thread)) ((J v.events i).Index)))]⟩]) 5 Z (fun v_ => .some (.rowL (.cons (ax 9 _ Z) (.cons (ax 9 _ Z) (.cons (ax 9 _ Z) (.cons (ax 9 _ Z) (.cons (aR (.inl Z)) (.cons (aR (.inl Z)) .nil))))))) (.bE qD (.some (RenK.bE' qD) .nil))) qD (r:=.tup [I v13.2.1,Bo v13.2.2]) (ax 9 _ Z) qD) (fun u14=>?_);refine oN mv (oN (Lx.ext (I v13.2.1) Z Z) (oN (Lx.ext (Bo v13.2.2) Z Z) (oN as' (oN as' (jA (jH (T.clean (H0:=[some ⟨aI,6,185,[[eL (cL LD.c) v13.1.p,eL cI v13.1.x.From,eL (cL cI) v13.1.x.Order,eL LG.c v13.1.events,hS gw1 1 jY 1 v.values.length,hS false 2 jg 1 v13.1.busy.length]]⟩,bE gw1 jY 1 3 (v.values.map cI),bE false jg 1 4 (v13.1.busy.map cB),some ⟨0,5,74,[(LG.c (J v.events i))]⟩,some ⟨0,4,97,[(LD.c (J (J v.p ((J v.events i).Thread)) ((J v.events i).Index)))]⟩]) (e0:=au [(10,Bo v13.2.2),(9,I v13.2.1),(0,.hp 0 aI 6 0 0),(1,I i)]) Z (Lv Z (Lv Z (Lv Z (Lv Z Lu)))) (jC (oN mv (oN (nl Z) (oN (fa uY Z) (oA (lh (hS false 2 jg 1 v13.1.busy.length) Ie Z Z Z) (oN mv (jD h fun g15 h=>oN (Lx.ixO (g:=false) Ig Z Z nofun g15) ?_))))))))))))));refine oV (EvA.stO (g:=false) (l:=v13.1.busy) (cs:=[Bo false]) false ty4 Z Z Z nofun (ay Z g15) Z Z Z) (jA (jI (oN mv (oN mv (oN as' (oN as' (jA (jK ?_))))))));obtain rfl:=LC h
      repeat (first|refine cN ?_|refine cO ?_)
      exact ⟨au [(4,I v13.2.1),(5,Bo v13.2.2)],[some ⟨aI,6,185,[[eL (cL LD.c) v13.1.p,eL cI v13.1.x.From,eL (cL cI) v13.1.x.Order,eL LG.c v13.1.events,hS gw1 1 jY 1 v.values.length,hS false 2 jg 1 ((v13.1.busy.set i.toNat false).length)]]⟩,bE gw1 jY 1 3 (v.values.map cI),bE false jg 1 4 ((v13.1.busy.set i.toNat false).map cB)],nB Z (.cons (.row (.cons (.fz (qC Z)) (.cons (.fz (qC Z)) (.cons (.fz (qC Z)) (.cons (.fz (qC Z)) (.cons (.hS (g:=gw1) (b:=1) (ver:=jY) (s:=1) (n:=v.values.length) Z) (.cons (.eqv (congrArg (hS false 2 jg 1) (by simp:v13.1.busy.length=(v13.1.busy.set i.toNat false).length)) (.hS (g:=false) (b:=2) (ver:=jg) (s:=1) (n:=(v13.1.busy.set i.toNat false).length) Z)) .nil))))))) (.cons (.list (g:=gw1) (ver:=jY) (l:=v.values) qD) (.cons (.list (g:=false) (ver:=jg) (l:=(v13.1.busy.set i.toNat false)) qD) .nil))) (aj (.fz (qC Z)) (aj (.fz (qC Z)) aS)),jQ (vs:=[I v13.2.1,Bo v13.2.2]) (.cons (.tmp Z) (.cons (.tmp Z) .nil)) ⟨0,Z,Z⟩⟩
set_option maxHeartbeats 4000000 in
theorem tO (v:az) (i:Int) (aI:Nat) (jY:Nat) (jg:Nat) (gw1:Bool) (hgw1:gw1=true->v.values=[]) {q:az×Int×Bool} (h:kQ v i=some q):dx Tryz.prog 152 [.hp 0 aI 6 0 0,I i] [some ⟨aI,6,185,[[eL (cL LD.c) v.p,eL cI v.x.From,eL (cL cI) v.x.Order,eL LG.c v.events,hS gw1 1 jY 1 v.values.length,hS false 2 jg 1 v.busy.length]]⟩,bE gw1 jY 1 3 (v.values.map cI),bE false jg 1 4 (v.busy.map cB)] (JC (.tup [I q.2.1,Bo q.2.2]) fun ver=>[some ⟨aI,6,185,[[eL (cL LD.c) q.1.p,eL cI q.1.x.From,eL (cL cI) q.1.x.Order,eL LG.c q.1.events,hS gw1 1 jY 1 v.values.length,hS false 2 jg 1 q.1.busy.length]]⟩,bE gw1 jY 1 3 (v.values.map cI),bE false jg 1 4 (q.1.busy.map cB)]):=by
 obtain ⟨nf,h⟩:=uO h;exact sN nf v i aI jY jg gw1 hgw1 h
set_option maxHeartbeats 4000000 in
theorem xz (p:List (List LD)) (x:LF) {q:(LI)×Bool} (h:l7 p x=some q):aA Tryz.prog 90 [eL (cL LD.c) p,.agg (LF.c x)] (.tup [eL cI q.1,Bo q.2]):=by
 refine pM Tryz.func90 Z (by kernel_rfl) Z (jI (oN (Lx.bxF [eL cI x.From,eL (cL cI) x.Order] Z Z Z) (oN as' (oN as' (jA (jH (T.reserve (T.reserve (jP (dG [dF,dF,dF,dF,dF,([1],true),dF]) (by kernel_rfl) (by kernel_rfl) (fN Z mv (fN Z (lf (.agg (LF.c x)) tG Z) (fN Z mv (fC h (fun _=>mF _) Z Z Z Z Z fun v1 _ h=>fN Z (Lx.build [eL (cL LD.c) p,eL cI x.From,eL (cL cI) x.Order,eL LG.c v1,hS true 0 0 1 (([]:LI).length),.nil] Tryz.underlying185 KY uY Z Z) (fW 1 [] Z Z (fun G hG=>EvA.bxA (cs:=[eL (cL LD.c) p,eL cI x.From,eL (cL cI) x.Order,eL LG.c v1,hS true 0 0 1 (([]:LI).length),.nil]) 1 Z Z (hG.a0 Z)) ?_))))))))))))));refine fN Z as' (jR (jI (oN mv (oN mv (oN (nl Z) (oN (fa uY Z) (oA (lh (eL LG.c v1) Jv Z Z Z) (oN (Lx.lenL vX Z) (jD h fun g2 h=>oA (EvA.mkN (c:=cB) (default:Bool) Ig Z Z g2 Z Z Z) (oN (nl Z) (oN (fa uY Z) (oV (sr [eL (cL LD.c) p,eL cI x.From,eL (cL cI) x.Order,eL LG.c v1,hS true 0 0 1 (([]:LI).length),hS false 2 0 1 ((List.replicate (v1.length:Int).toNat (default:Bool)).length)] Ie Z Z Z Z) (jA ?_)))))))))))));obtain ⟨Ks3,es3,ws3,h,ks3⟩:=sumL h;refine T.join (S:=(LI)×(List (List LD))×(LI)×(LL)×(List LG)×(List Bool)) (G:=(Bool×Nat)×Nat) (fun s3=>Ks3 s3=some q) (fun s3 gh=>(gh.1.1=true->s3.1=[])) (fun s3 gh=>[(6,.hp 1 0 6 0 0)]) (fun s3 gh=>[bE gh.1.1 gh.1.2 1 3 (s3.1.map cI),some ⟨0,6,185,[[eL (cL LD.c) s3.2.1,eL cI s3.2.2.1,eL (cL cI) s3.2.2.2.1,eL LG.c s3.2.2.2.2.1,hS gh.1.1 0 gh.1.2 1 s3.1.length,hS false 2 gh.2 1 s3.2.2.2.2.2.length]]⟩,bE false gh.2 1 4 (s3.2.2.2.2.2.map cB)]) (fun s3 gh h n28=>?_) ?_
 ·clear ks3;subst es3;obtain ⟨⟨b27,u26⟩,u29⟩:=gh;refine jI (oN mv (oN (nl Z) (oN (fa uY Z) (oA (lh (hS b27 0 u26 1 s3.1.length) o5 Z Z Z) (oN (Lx.asg (hS b27 0 u26 1 s3.1.length) Z) (oN as' (jA (jK ?_))))))));obtain rfl:=LC h
  repeat (first|refine cN ?_|refine cO ?_)
  exact jQ (vs:=[hS b27 0 u26 1 s3.1.length,Bo true]) (.cons (.tmp Z) (.cons (.tmp Z) .nil)) (.tupL (.cons (Fz.own (g:=b27) (ver:=u26) (l:=s3.1) Z Z Z n28 qD) (.cons (qC Z) .nil)))
 ·refine jH (T.clean (H0:=[bE true 0 1 3 (([]:LI).map cI),some ⟨0,6,185,[[eL (cL LD.c) p,eL cI x.From,eL (cL cI) x.Order,eL LG.c v1,hS true 0 0 1 (([]:LI).length),hS false 2 0 1 ((List.replicate (v1.length:Int).toNat (default:Bool)).length)]]⟩,bE false 0 1 4 ((List.replicate (v1.length:Int).toNat (default:Bool)).map cB)]) (e0:=au [(6,.hp 1 0 6 0 0)]) Z (Lv Z Lu) (jC (oN mv (oN (nl Z) (oN (fa uY Z) (oA (lh (eL LG.c v1) Jv Z Z Z) (oN (Lx.lenL vX Z) (oN mv (jA (jE ?_))))))))));refine jO (S:=(LI)×(List (List LD))×(LI)×(LL)×(List LG)×(List Bool)×Int) (G:=(Bool×Nat)×Nat) (kR v1) (fun s10 gh=>(gh.1.1=true->s10.1=[])) (fun s10 gh=>[(32,I s10.2.2.2.2.2.2),(31,I (v1.length:Int)),(30,eL LG.c v1),(6,.hp 1 0 6 0 0)]) (fun s10 gh=>[bE gh.1.1 gh.1.2 1 3 (s10.1.map cI),some ⟨0,6,185,[[eL (cL LD.c) s10.2.1,eL cI s10.2.2.1,eL (cL cI) s10.2.2.2.1,eL LG.c s10.2.2.2.2.1,hS gh.1.1 0 gh.1.2 1 s10.1.length,hS false 2 gh.2 1 s10.2.2.2.2.2.1.length]]⟩,bE false gh.2 1 4 (s10.2.2.2.2.2.1.map cB)]) (s0:=(([]:LI),p,x.From,x.Order,v1,(List.replicate (v1.length:Int).toNat (default:Bool)),U)) ((true,0),0) h qD (kw Z Z) (fun s10 gh ws10 h n14=>?_);obtain ⟨⟨b13,u12⟩,u15⟩:=gh;refine jI (oN (Lx.ilt Z Z) (jA (jH ?_)));refine jN Z h (fun q16 h=>?_) (fun q16 h=>?_)
  ·refine jG (jH (jE (jI (oN mv (jD h fun g17 h=>oN (Lx.ixL vX Z Z g17 qD) (oN (lf (.agg (LG.c (J v1 s10.2.2.2.2.2.2))) zN Z) (oA (EvA.al Eh Z Z) (oN as' (oV (sr (LG.c (J v1 s10.2.2.2.2.2.2)) zN Z Z Z Z) (jA (jI (oN as' (jA ?_)))))))))))));obtain ⟨Ks18,es18,ws18,h,ks18⟩:=sumL h;refine T.join (S:=(List (List LD))×(LI)×(LL)×(List LG)×(List Bool)×Int) (G:=Nat) (fun s18=>Ks18 s18=some ws10) (fun s18 gh=>True) (fun s18 gh=>[(9,I s18.2.2.2.2.2),(32,I s10.2.2.2.2.2.2),(31,I (v1.length:Int)),(30,eL LG.c v1),(6,.hp 1 0 6 0 0)]) (fun s18 gh=>[bE b13 u12 1 3 (s10.1.map cI),some ⟨0,6,185,[[eL (cL LD.c) s18.1,eL cI s18.2.1,eL (cL cI) s18.2.2.1,eL LG.c s18.2.2.2.1,hS b13 0 u12 1 s10.1.length,hS false 2 gh 1 s18.2.2.2.2.1.length]]⟩,bE false gh 1 4 (s18.2.2.2.2.1.map cB),some ⟨0,5,74,[(LG.c (J v1 s10.2.2.2.2.2.2))]⟩]) (fun s18 u23 h hg=>?_) ?_
   ·clear ks18;subst es18;refine jC (oN mv (oN mv (oN (nl Z) (oN (fa uY Z) (oA (lh (hS b13 0 u12 1 s10.1.length) o5 Z Z Z) (oN mv (oN (Lx.mkF (c:=cI) ([s18.2.2.2.2.2]:LI) [[I s18.2.2.2.2.2]] bh Z Z Z qD qD Z) (jL h fun g24 h=>oA (EvA.app1 (g:=b13) (l:=s10.1) s18.2.2.2.2.2 bh (by kernel_rfl) Z Z Z n14 (bL.fz (l:=([s18.2.2.2.2.2]:LI)) Z qD) g24) (oN (nl Z) (oN (fa uY Z) (oV (sr [eL (cL LD.c) s18.1,eL cI s18.2.1,eL (cL cI) s18.2.2.1,eL LG.c s18.2.2.2.1,hS false 0 (u12+1) 1 ((s10.1++[s18.2.2.2.2.2]).length),hS false 2 u23 1 s18.2.2.2.2.1.length] o5 Z Z Z Z) (jA (jC (jW h fun g25 h=>?_))))))))))))));refine oN (Lx.add Z Z g25) (oN mv (jA ?_));obtain rfl:=LC h;exact ⟨((s10.1++[s18.2.2.2.2.2]),s18.1,s18.2.1,s18.2.2.1,s18.2.2.2.1,s18.2.2.2.2.1,(s10.2.2.2.2.2.2+V)),((false,u12+1),u23),Z,nofun,nB Z (.cons (.list (g:=false) (ver:=u12+1) (l:=(s10.1++[s18.2.2.2.2.2])) qD) (.cons (.row (.cons (.fz (qC Z)) (.cons (.fz (qC Z)) (.cons (.fz (qC Z)) (.cons (.fz (qC Z)) (.cons (.hS (g:=false) (b:=0) (ver:=u12+1) (s:=1) (n:=(s10.1++[s18.2.2.2.2.2]).length) Z) (.cons (.hS (g:=false) (b:=2) (ver:=u23) (s:=1) (n:=s18.2.2.2.2.1.length) Z) .nil))))))) (.cons (.list (g:=false) (ver:=u23) (l:=s18.2.2.2.2.1) qD) .nil))) (aj (.fz (qC Z)) (aj (.fz (qC Z)) (aj (.fz (qC Z)) (aj (.hp (nlb Z)) aS))))⟩
   ·refine jI (oN (fa qh Z) (oA (lh (Bo ((J v1 s10.2.2.2.2.2.2).di)) ty4 Z Z Z) (jA ?_)));refine jN Z h (fun q19 h=>?_) (fun q19 h=>?_)
    ·refine jI (oN mv (oN mv (jB h fun v20 cv20 h=>?_)));refine oW Z Z Z (dx.outAt (tO (⟨s10.2.1,(⟨s10.2.2.1,s10.2.2.2.1⟩:LF),s10.2.2.2.2.1,s10.1,s10.2.2.2.2.2.1⟩:az) s10.2.2.2.2.2.2 0 u12 u15 b13 n14 cv20) [1,0,2] (by decide) (.cons Z (.rowL (.cons (ax 9 _ Z) (.cons (ax 9 _ Z) (.cons (ax 9 _ Z) (.cons (ax 9 _ Z) (.cons (aR Z) (.cons (aR Z) .nil))))))) (.bE Z qD (.cons Z (RenK.bE' qD) .nil))) (.cons (.hp Z) (.cons (ax 9 _ Z) .nil)) (G:=fun v_=>[some ⟨0,6,185,[[eL (cL LD.c) v20.1.p,eL cI v20.1.x.From,eL (cL cI) v20.1.x.Order,eL LG.c v20.1.events,hS b13 0 u12 1 s10.1.length,hS false 2 u15 1 v20.1.busy.length]]⟩,bE b13 u12 1 3 (s10.1.map cI),bE false u15 1 4 (v20.1.busy.map cB)]) (G':=fun v_=>[bE b13 u12 1 3 (s10.1.map cI),some ⟨0,6,185,[[eL (cL LD.c) v20.1.p,eL cI v20.1.x.From,eL (cL cI) v20.1.x.Order,eL LG.c v20.1.events,hS b13 0 u12 1 s10.1.length,hS false 2 u15 1 v20.1.busy.length]]⟩,bE false u15 1 4 (v20.1.busy.map cB),some ⟨0,5,74,[(LG.c (J v1 s10.2.2.2.2.2.2))]⟩]) 4 Z (fun v_ => .some (.rowL (.cons (ax 9 _ Z) (.cons (ax 9 _ Z) (.cons (ax 9 _ Z) (.cons (ax 9 _ Z) (.cons (aR (.inl Z)) (.cons (aR (.inl Z)) .nil))))))) (.bE qD (.some (RenK.bE' qD) .nil))) qD (r:=.tup [I v20.2.1,Bo v20.2.2]) (ax 9 _ Z) qD) (fun u21=>?_);refine oN mv (oN (Lx.ext (I v20.2.1) Z Z) (oN (Lx.ext (Bo v20.2.2) Z Z) (oN as' (oN as' (jA (jH (jI (oN mv (oN (Lx.not Z) (jA ?_))))))))));refine jN Z h (fun q22 h=>?_) (fun q22 h=>?_)
     ·refine jH (T.clean (H0:=[bE b13 u12 1 3 (s10.1.map cI),some ⟨0,6,185,[[eL (cL LD.c) v20.1.p,eL cI v20.1.x.From,eL (cL cI) v20.1.x.Order,eL LG.c v20.1.events,hS b13 0 u12 1 s10.1.length,hS false 2 u15 1 v20.1.busy.length]]⟩,bE false u15 1 4 (v20.1.busy.map cB),some ⟨0,5,74,[(LG.c (J v1 s10.2.2.2.2.2.2))]⟩]) (e0:=au []) Z Lu (jC (oN as' (oN as' (jA (jK ?_))))));obtain rfl:=LC h;replace h:=congrArg some (show _=_ from ks18);refine lX h fun h=>?_;obtain rfl:=LC h;replace h:=congrArg some (show _=_ from ks3);obtain rfl:=LC h
      repeat (first|refine cN ?_|refine cO ?_)
      exact jQ (vs:=[.nil,Bo false]) (.cons (.tmp Z) (.cons (.tmp Z) .nil)) (.tupL (.cons .nil0 (.cons (qC Z) .nil)))
     ·refine jG (T.clean (H0:=[bE b13 u12 1 3 (s10.1.map cI),some ⟨0,6,185,[[eL (cL LD.c) v20.1.p,eL cI v20.1.x.From,eL (cL cI) v20.1.x.Order,eL LG.c v20.1.events,hS b13 0 u12 1 s10.1.length,hS false 2 u15 1 v20.1.busy.length]]⟩,bE false u15 1 4 (v20.1.busy.map cB),some ⟨0,5,74,[(LG.c (J v1 s10.2.2.2.2.2.2))]⟩]) (e0:=au [(10,I v20.2.1),(32,I s10.2.2.2.2.2.2),(31,I (v1.length:Int)),(30,eL LG.c v1),(6,.hp 1 0 6 0 0)]) Z (Lv Z (Lv Z (Lv Z (Lv Z (Lv Z Lu))))) (jC (oN mv (oN as' (jA ?_)))));obtain rfl:=LC h;exact ⟨(v20.1.p,v20.1.x.From,v20.1.x.Order,v20.1.events,v20.1.busy,v20.2.1),u15,ks18,trivial,kw Z Z⟩
    ·refine jG ?_;obtain rfl:=LC h;exact ⟨(s10.2.1,s10.2.2.1,s10.2.2.2.1,s10.2.2.2.2.1,s10.2.2.2.2.2.1,(-1:Int)),u15,ks18,trivial,kw Z Z⟩
  ·refine jM (lX h fun h=>?_);obtain rfl:=LC h;exact ⟨(s10.1,s10.2.1,s10.2.2.1,s10.2.2.2.1,s10.2.2.2.2.1,s10.2.2.2.2.2.1),((b13,u12),u15),ks3,n14,kw Z Z⟩
theorem yg (p:List (List LD)) (x:LF) (m:List ai) {q:ByteArray} (h:qw p x m=some q):aA Tryz.prog 68 [eL (cL LD.c) p,.agg (LF.c x),eL ai.c m] (St q):=by
 refine pM Tryz.func68 Z (by kernel_rfl) Z (jI (oN (Lx.bxF [eL cI x.From,eL (cL cI) x.Order] Z Z Z) (oN as' (jA (jH (jI (oN mv (oN (lf (.agg (LF.c x)) tG Z) (oC h (fun _=>xz _ _) Z Z Z Z fun v1 _ h=>oN mv (oN (Lx.ext (eL cI v1.1) Z Z) (oN (Lx.ext (Bo v1.2) Z Z) (oN as' (oN as' (jA ?_))))))))))))));refine jI (oN mv (oN (Lx.not Z) (jA ?_)));refine jN Z h (fun q2 h=>?_) (fun q2 h=>?_)
 ·refine jI (oN as' (jA (jK ?_)))
  cases h
  exact bO Z Z Z
 ·refine jG (jI (oN mv (oN (lf (.agg (LF.c x)) tG Z) (oN mv (oC h (fun _=>vw _ _ _) Z Z Z Z fun v3 _ h=>oN mv (oN (Lx.ext (I v3.1) Z Z) (oN (Lx.ext (eL cI v3.2) Z Z) (oN as' (oN as' (jA (jH (jH (T.clean (H0:=[]) (e0:=au [(10,eL cI v3.2),(9,I v3.1),(0,eL (cL LD.c) p),(2,eL ai.c m)]) Z (Lv Z (Lv Z (Lv Z (Lv Z Lu)))) (jC ?_))))))))))))));refine oN mv (oN (Lx.ilt Z Z) (jA ?_));refine jN Z h (fun q4 h=>?_) (fun q4 h=>?_)
  ·refine jI (oN as' (jA (jK ?_)))
   cases h
   exact bO Z Z Z
  ·cases h
theorem uz (p:List (List LD)) (x:LF) (m:List ai) {q:ByteArray} (h:iL p x m=some q):aA Tryz.prog 28 [eL (cL LD.c) p,.agg (LF.c x),eL ai.c m] (St q):=by
 refine pM Tryz.func28 Z (by kernel_rfl) Z (jI (oN (Lx.bxF [eL cI x.From,eL (cL cI) x.Order] Z Z Z) (oN as' (jA (jH (jI (oN mv (oN (lf (.agg (LF.c x)) tG Z) (oC h (fun _=>wu _ _) Z Z Z Z fun v1 _ h=>oN (Lx.not Z) (oN mv ?_))))))))));refine TO.jB h 4 (fun s2=>[(15,Bo s2),(4,.fp (LF.c x) 0),(0,eL (cL LD.c) p),(2,eL ai.c m)]) (fun s2=>[]) (fun s2 q3 h js2=>?_) (fun s2 q3 h js2=>?_) (fun s2 h=>?_)
 ·refine gS Z q3 (gS Z q3 (gS Z q3 (oN (Lx.pickT Z q3 (Bo true) Z) ?_)))
  cases h
  exact js2 _ _ (kw Z Z)
 ·refine gN Z q3 mv (jB h fun v4 cv4 h=>gN Z q3 (Lx.call Z Z Z (pX m cv4) Z) (gN Z q3 (Lx.not Z) (oN (Lx.pickF Z q3 (Bo (!v4)) Z) ?_)))
  cases h
  exact js2 _ _ (kw Z Z)
 ·refine jA ?_;refine jN Z h (fun q5 h=>?_) (fun q5 h=>?_)
  ·refine jI (oN as' (jA (jK ?_)))
   cases h
   exact bO Z Z Z
  ·refine jG (jI (oN mv (oN (lf (.agg (LF.c x)) tG Z) (oN mv (oC h (fun _=>yg _ _ _) Z Z Z Z fun v6 _ h=>oN as' (jA (jK ?_)))))))
   cases h
   exact bO Z Z Z
end
end Go.Proofs.YtcmimhffgmckjaaGreatDoor
