/- Texts joined. No conditions. -/
import Derived.OpenShut
import Derived.Carry
import Derived.ChangeOld
import Derived.RowKit
import Derived.LaidMore
import Derived.LaidSub
import Derived.MakeChecks
import Derived.Test.YtpkhamajimidnaaGreatDoorV12
namespace Go.Proofs.YtpkhamajimidnaaGreatDoor
noncomputable section
open _root_.List renaming getElem?_map -> Qd
set_option maxHeartbeats 4000000
open Go.RowKit
set_option maxRecDepth 100000
theorem rE (p:List (List KE)) (x:KG) (m:List ae) {q} (h:gT p x m=some q):ax Tryz.prog 69 [eL (cL KE.c) p,.agg (KG.c x),eL ae.c m] (.tup [I q.1,eL cI q.2]):=by
 refine pM Tryz.func69 Z (by kernel_rfl) Z (jI (oN (Kz.bxF [eL cI x.From,eL (cL cI) x.Order] Z Z Z) (oN as' (oN as' (jA ?_)))));obtain ⟨Ks1,es1,ws1,h,ks1⟩:=mX h;refine T.join (S:=Unit) (G:=Unit) (fun s1=>Ks1 s1=some q) (fun s1 gh=>True) (fun s1 gh=>[]) (fun s1 gh=>[]) (fun s1 gh h hg=>?_) ?_
 ·clear ks1;subst es1;refine jI (oN as' (oN as' (jA (jK ?_))));obtain rfl:=KD h
  repeat (first|refine jd ?_|refine je ?_)
  exact jQ (vs:=[I (-1:Int),.nil]) (.cons (.tmp Z) (.cons (.tmp Z) .nil)) (.tupL (.cons (qC Z) (.cons .nil0 .nil)))
 refine jI (oN mv (oN (Kz.lenL vS Z) (oN mv (jA (jE ?_)))));refine T.lU h (fun s4=>[(13,I s4),(12,I (m.length:Int)),(11,eL ae.c m),(4,.fp (KG.c x) 0),(0,eL (cL KE.c) p)]) (fun s4=>[]) (kw Z Z) (fun s4 ws4 h=>?_);let d0:=(ae.c (⟨(J m s4).Kind,((J m s4).Expr)⟩:ae));refine jI (oN (Kz.ilt Z Z) (jA (jH ?_)));refine jN Z h (fun q6 h=>?_) (fun q6 h=>?_)
 ·refine jG (jH (jE (jI (oN mv (jD h fun g7 h=>oN (Kz.ixL vS Z Z g7 qD) (oN (lf (.agg (ae.c (J m s4))) EG Z) (oA (EvA.al Jm Z Z) (oN as' (oV (sr d0 EG Z Z Z Z) (jA (jI (oN mv (oN (lf (.agg (KG.c x)) qX Z) (oN (fa Ci Z) ?_))))))))))))));refine oA (lh (.agg (aa.c ((J m s4).Expr))) tT Z Z Z) (oC h (fun _=>vB _ _ _) Z Z Z Z fun v8 _ h=>oN as' (jA (jI (oN (fa Ci Z) (oA (lh (I ((J m s4).Kind)) KN Z Z Z) (oN mv (oC h (fun _=>sJ _ _) Z Z Z Z fun v9 _ h=>oN (Kz.not Z) (jA ?_))))))));refine jN Z h (fun q10 h=>?_) (fun q10 h=>?_)
  ·refine jH (T.clean (H0:=[some ⟨0,4,65,[d0]⟩]) (e0:=ak [(10,eL cI v8),(8,I s4)]) Z (Ky Z (Ky Z Kw)) (jC (oN mv (oN mv (oN as' (oN as' (jA (jK (lX h fun h=>?_)))))))));obtain rfl:=KD h;replace h:=congrArg some (show _=_ from ks1);obtain rfl:=KD h
   repeat (first|refine jd ?_|refine je ?_)
   exact jQ (vs:=[I s4,eL cI v8]) (.cons (.tmp Z) (.cons (.tmp Z) .nil)) (.tupL (.cons (qC Z) (.cons (qC Z) .nil)))
  refine jG (T.clean (H0:=[some ⟨0,4,65,[d0]⟩]) (e0:=ak [(13,I s4),(12,I (m.length:Int)),(11,eL ae.c m),(4,.fp (KG.c x) 0),(0,eL (cL KE.c) p)]) Z (Ky Z (Ky Z (Ky Z (Ky Z (Ky Z Kw))))) (jC (jW h fun g11 h=>oN (Kz.add Z Z g11) (oN mv (jA ?_)))));exact lE h (rU Z .nil (ah (.fz (qC Z)) (ah (.fz (qC Z)) (ah (.fz (qC Z)) (ah (.fz (qC Z)) (ah (.fz (qC Z)) bq))))))
 refine jM (lX h fun h=>?_)
 cases h
 exact ⟨(),(),ks1,trivial,kw Z Z⟩
theorem mV (i:Int) {q} (h:i9 i=some q):ax Tryz.prog 205 [I i] (St q):=by
 refine pM Tryz.func205 Z (by kernel_rfl) Z (jI (oN as' (jA (jH (jI (oN mv (oN (Kz.ilt Z Z) (jA ?_))))))));refine jN Z h (fun q1 h=>?_) (fun q1 h=>?_)
 ·refine jI (oN mv (oN mv (jW h fun g2 h=>oN (Kz.add Z Z g2) (jD h fun g3 h=>oN (Kz.slst Tryz.underlying9 Z (.yes Z) (.yes Z) g3) (oN as' (jA (jK ?_)))))))
  cases h
  exact aD Z Z Z
 refine jG (jI (oN mv (jW h fun g4 h=>oN (Kz.mul Z Z g4) (oN mv (oN (Kz.mul Z Z g4) (jW h fun g5 h=>oN (Kz.add Z Z g5) (jD h fun g6 h=>oN (Kz.slst Tryz.underlying9 Z (.yes Z) (.yes Z) g6) (oN as' (jA (jK ?_))))))))))
 cases h
 exact aD Z Z Z
theorem lm (i:Int) (base:Int) {q} (h:fO i base=some q):ax Tryz.prog 177 [I i,I base] (St q):=by
 refine pM Tryz.func177 Z (by kernel_rfl) Z (jI (oN as' (jA (jH (jI (oN mv (oN (Kz.ieq Z Z) (jA ?_))))))));refine jN Z h (fun q1 h=>?_) (fun q1 h=>?_)
 ·refine jH (jI (oN mv (oN (Kz.ile Z Z) (oN mv ?_))));refine TO.jB h 3 (fun s2=>[(17,Bo s2),(0,I i)]) (fun s2=>[]) (fun s2 q3 h js2=>?_) (fun s2 q3 h js2=>?_) (fun s2 h=>?_)
  ·refine gN Z q3 mv (gN Z q3 (Kz.ilt Z Z) (oN (Kz.pickT Z q3 (Bo (decide (i<(100:Int)))) Z) ?_))
   cases h
   exact js2 _ _ (kw Z Z)
  ·refine gS Z q3 (gS Z q3 (oN (Kz.pickF Z q3 (Bo false) Z) ?_))
   cases h
   exact js2 _ _ (kw Z Z)
  refine jA ?_;refine jN Z h (fun q4 h=>?_) (fun q4 h=>?_)
  ·refine jI (oN mv (oC h (fun _=>mV _) Z Z Z Z fun v5 _ h=>oN as' (jA (jK ?_))))
   cases h
   exact aD Z Z Z
  cases h
 cases h
theorem nN (i:Int) {q} (h:jT i=some q):ax Tryz.prog 120 [I i] (St q):=by
 refine pM Tryz.func120 Z (by kernel_rfl) Z (jI (oN as' (jA (jI (oN mv (oC h (fun _=>lm _ _) Z Z Z Z fun v1 _ h=>oN as' (jA (jK ?_))))))))
 cases h
 exact aD Z Z Z
theorem o5 (i:Int) {q} (h:bO i=some q):ax Tryz.prog 70 [I i] (St q):=by
 refine pM Tryz.func70 Z (by kernel_rfl) Z (jI (oN as' (jA (jI (oN mv (oC h (fun _=>nN _) Z Z Z Z fun v1 _ h=>oN as' (jA (jK ?_))))))))
 cases h
 exact aD Z Z Z
theorem sK (r_:LI) (start:Int) {q} (h:iG r_ start=some q):ax Tryz.prog 122 [eL cI r_,I start] (nE cI q):=by
 refine pM Tryz.func122 Z (by kernel_rfl) Z (jI (oN as' (jA (jI (oN as' (jA ?_))))));obtain ⟨Ks1,es1,ws1,h,ks1⟩:=mX h;refine T.join (S:=Unit) (G:=Unit) (fun s1=>Ks1 s1=some q) (fun s1 gh=>True) (fun s1 gh=>[]) (fun s1 gh=>[]) (fun s1 gh h hg=>?_) ?_
 ·clear ks1;subst es1;refine jI (oN as' (jA (jK ?_)));obtain rfl:=KD h
  repeat (first|refine jd ?_|refine je ?_)
  exact jQ (vs:=[.nil]) (.cons (.tmp Z) .nil) .nil
 refine jI (oN mv (oN (Kz.mkF (c:=cI) ([start]:LI) [[I start]] aK Z Z Z qD qD Z) (oA (EvA.mkO (c:=(cL cI)) ([([start]:LI)]:LL) [[eL cI ([start]:LI)]] pU Z Z Z qD Z Z) (oN (Kz.asg (hS false 0 0 1 (([([start]:LI)]:LL).length)) Z) (jA (jE ?_))))));refine jO (S:=(LL)×Int) (G:=Nat) (iV r_ start) (fun s5 gh=>True) (fun s5 gh=>[(6,hS false 0 gh 1 s5.1.length),(5,I s5.2),(0,eL cI r_),(1,I start)]) (fun s5 gh=>[bE false gh 1 23 (s5.1.map (cL cI))]) (s0:=(([([start]:LI)]:LL),U)) 0 h trivial (kw Z Z) (fun s5 u7 ws5 h hg=>?_);refine jH (jI (oN mv (oN (Kz.lenO (g:=false) pU Z nofun) (oN (Kz.igt Z Z) (jA ?_)))));refine jN Z h (fun q8 h=>?_) (fun q8 h=>?_)
 ·refine jG ?_;obtain ⟨Ks9,es9,ws9,h,ks9⟩:=mX h;refine T.join (S:=(LL)×Int) (G:=Nat) (fun s9=>Ks9 s9=some ws5) (fun s9 gh=>True) (fun s9 gh=>[(6,hS false 0 gh 1 s9.1.length),(5,I s9.2),(0,eL cI r_),(1,I start)]) (fun s9 gh=>[bE false gh 1 23 (s9.1.map (cL cI))]) (fun s9 u37 h hg=>?_) ?_
  ·clear ks9;subst es9;refine jC (oN mv (jD h fun g38 h=>oA (EvA.cutO (l:=s9.1) (zl:=V) (zh:=(s9.1.length:Int)) (Kz.slhs Tryz.underlying24 nu (l:=V) (h:=(s9.1.length:Int)) Z (.yes Z) .no g38) Z Z g38) (oN (Kz.asg (hS false 0 (u37+1) 1 (((s9.1.drop V.toNat).take ((s9.1.length:Int).toNat-V.toNat)).length)) Z) (jA ?_))));obtain rfl:=KD h;exact ⟨(((s9.1.drop V.toNat).take ((s9.1.length:Int).toNat-V.toNat)),s9.2),u37+1,Z,trivial,kw Z Z⟩
  refine jE (jI (oN mv (jD h fun g10 h=>oN (Kz.ixO (g:=false) pU Z Z nofun g10) (oA (EvA.ldO (g:=false) (l:=s5.1) (eL cI (s5.1.getD (U.toNat) default)) nu Z Z nofun (aI Z g10) Z) (oN as' (jA (jI (oN mv (oN mv (oN (Kz.lenL aK Z) (jW h fun g11 h=>oN (Kz.sub Z Z g11) (jD h fun g12 h=>oN (Kz.ixL aK Z Z g12 qD) ?_))))))))))));refine oN (lf (I (J (s5.1.getD (U.toNat) default) (((s5.1.getD (U.toNat) default).length:Int)-V))) KN Z) (oN as' (jA (jH (jI (oN mv (oN mv (oN mv (oC h (fun _=>cZ _ _ _) Z Z Z Z fun v13 _ h=>jA ?_))))))));refine jN Z h (fun q14 h=>?_) (fun q14 h=>?_)
  ·refine jH (T.clean (H0:=[bE false u7 1 23 (s5.1.map (cL cI))]) (e0:=ak [(7,eL cI (s5.1.getD (U.toNat) default))]) Z (Ky Z Kw) (jC (oN mv (oN as' (jA (jK (jD h fun gE h=>?_)))))));obtain rfl:=KD h;replace h:=congrArg some (show _=_ from ks9);refine lX h fun h=>?_;obtain rfl:=KD h;replace h:=congrArg some (show _=_ from ks1);obtain rfl:=KD h
   repeat (first|refine jd ?_|refine je ?_)
   exact jQ (vs:=[eL cI (s5.1.getD (U.toNat) default)]) (.cons (.tmp Z) .nil) ((JU gE).symm ▸ (qC Z))
  refine jG (jH (T.clean (H0:=[bE false u7 1 23 (s5.1.map (cL cI))]) (e0:=ak [(8,I (J (s5.1.getD (U.toNat) default) (((s5.1.getD (U.toNat) default).length:Int)-V))),(7,eL cI (s5.1.getD (U.toNat) default)),(6,hS false 0 u7 1 s5.1.length),(5,I s5.2),(0,eL cI r_),(1,I start)]) Z (Ky Z (Ky Z (Ky Z (Ky Z (Ky Z (Ky Z Kw)))))) (jC (oN mv (oN (Kz.lenL aK Z) (oN mv (jA (jE ?_))))))));refine jO (S:=(LL)×Int×Int) (G:=Nat) (dV r_ s5) (fun s18 gh=>True) (fun s18 gh=>[(34,I s18.2.1),(33,I (r_.length:Int)),(8,I (J (s5.1.getD (U.toNat) default) (((s5.1.getD (U.toNat) default).length:Int)-V))),(7,eL cI (s5.1.getD (U.toNat) default)),(6,hS false 0 gh 1 s18.1.length),(5,I s18.2.2),(0,eL cI r_),(1,I start)]) (fun s18 gh=>[bE false gh 1 23 (s18.1.map (cL cI))]) (s0:=(s5.1,U,s5.2)) u7 h trivial (kw Z Z) (fun s18 u20 ws18 h hg=>?_);refine jI (oN (Kz.ilt Z Z) (jA (jH ?_)));refine jN Z h (fun q21 h=>?_) (fun q21 h=>?_)
  ·refine jG ?_;refine T.jF (G:=Nat) h (fun s22 gh=>True) (fun s22 gh=>[(6,hS false 0 gh 1 s22.1.length),(5,I s22.2),(34,I s18.2.1),(33,I (r_.length:Int)),(8,I (J (s5.1.getD (U.toNat) default) (((s5.1.getD (U.toNat) default).length:Int)-V))),(7,eL cI (s5.1.getD (U.toNat) default)),(0,eL cI r_),(1,I start)]) (fun s22 gh=>[bE false gh 1 23 (s22.1.map (cL cI))]) (fun s22 u35 h hg=>?_) (fun s22 h=>?_)
   ·refine jC (jW h fun g36 h=>oN (Kz.add Z Z g36) (oN mv (jA ?_)));obtain rfl:=KD h;exact ⟨(s22.1,(s18.2.1+V),s22.2),u35,Z,trivial,kw Z Z⟩
   refine jE (jI (oN mv (oN as' (jA (jI (oN mv (oN mv (oN mv (oC h (fun _=>cZ _ _ _) Z Z Z Z fun v23 _ h=>oN mv ?_)))))))));refine TO.jB h 6 (fun s24=>[(47,Bo s24),(9,I s18.2.1),(34,I s18.2.1),(33,I (r_.length:Int)),(8,I (J (s5.1.getD (U.toNat) default) (((s5.1.getD (U.toNat) default).length:Int)-V))),(7,eL cI (s5.1.getD (U.toNat) default)),(6,hS false 0 u20 1 s18.1.length),(5,I s18.2.2),(0,eL cI r_),(1,I start)]) (fun s24=>[bE false u20 1 23 (s18.1.map (cL cI))]) (fun s24 q25 h js24=>?_) (fun s24 q25 h js24=>?_) (fun s24 h=>?_)
   ·refine gN Z q25 mv (gN Z q25 mv (jD h fun g26 h=>gN Z q25 (Kz.shr Z Z g26) (gN Z q25 (Kz.band Z Z) (gN Z q25 (Kz.ieq Z Z) (oN (Kz.pickT Z q25 (Bo ((cN .i64 (gz .i64 s18.2.2 s18.2.1) V)==U)) Z) ?_)))))
    cases h
    exact js24 _ _ (kw Z Z)
   ·refine gS Z q25 (gS Z q25 (gS Z q25 (gS Z q25 (gS Z q25 (oN (Kz.pickF Z q25 (Bo false) Z) ?_)))))
    cases h
    exact js24 _ _ (kw Z Z)
   refine jA ?_;refine jN Z h (fun q27 h=>?_) (fun q27 h=>?_)
   ·refine jI (oN mv (oN mv (jD h fun g28 h=>oN (Kz.shl Z Z g28) (oN (Kz.bor Z Z) (oN as' (jA (jC (oN mv (oN mv (jB h fun v29 cv29 h=>?_))))))))));refine oG Z Z Z ((dN (s5.1.getD (U.toNat) default) cv29).own Z (wH qD) Bd 1 Z) (fun g30 v31 n32=>?_);refine oN mv (oN (Kz.mkF (c:=cI) ([s18.2.1]:LI) [[I s18.2.1]] aK Z Z Z qD qD Z) (jL h fun g33 h=>oA (EvA.app1 (g:=g30) (l:=v29) s18.2.1 aK (by kernel_rfl) Z Z Z (fun x=>List.eq_nil_of_length_eq_zero (n32 x)) (bK.fz (l:=([s18.2.1]:LI)) Z qD) g33) (oA (EvA.mkR [[hS false 1 (v31+1) 1 ((v29++[s18.2.1]).length)]] pU Z Z Z Z) (jL h fun g34 h=>oA (EvA.appR (g:=false) (rows:=s18.1.map (cL cI)) (rows':=s18.1.map (cL cI)++[[hS false 1 (v31+1) 1 ((v29++[s18.2.1]).length)]]) (n':=s18.1.length+1) pU (by kernel_rfl) Z Z (by simp) nofun (bK.raw (rows:=[[hS false 1 (v31+1) 1 ((v29++[s18.2.1]).length)]]) Z Z Z) g34 Z Z) (oN (Kz.asg (hS false 0 (u20+1) 1 (s18.1.length+1)) Z) (jA ?_))))));obtain rfl:=KD h;exact ⟨u20+1,trivial,rU Z (.cons (.snoc qD (.cons (.cons (.fz (Fz.own (g:=false) (ver:=v31+1) (l:=(v29++[s18.2.1])) Z Z Z nofun qD)) .nil) .nil)) .nil) (ah (.eqv (congrArg (hS false 0 (u20+1) 1) (by simp:(s18.1.length+1)=(s18.1++[(v29++[s18.2.1])]).length)) (.hS (g:=false) (b:=0) (ver:=u20+1) (s:=1) (n:=(s18.1++[(v29++[s18.2.1])]).length) Z)) (ah (.fz (qC Z)) (ah (.fz (qC Z)) (ah (.fz (qC Z)) (ah (.fz (qC Z)) (ah (.fz (qC Z)) (ah (.fz (qC Z)) (ah (.fz (qC Z)) bq))))))))⟩
   refine jG ?_
   cases h
   exact ⟨u20,trivial,kw Z Z⟩
  refine jM (lX h fun h=>?_);obtain rfl:=KD h;exact ⟨(s18.1,s18.2.2),u20,ks9,trivial,kw Z Z⟩
 refine jM (lX h fun h=>?_)
 cases h
 exact ⟨(),(),ks1,trivial,rU Z .nil bq⟩
theorem sM (r_:LI) {q} (h:iH r_=some q):ax Tryz.prog 71 [eL cI r_] (eL cI q):=by
 refine pM Tryz.func71 Z (by kernel_rfl) Z (jI (oN as' (jA (jH (jI (oN mv (oC h (fun _=>bJ _) Z Z Z Z fun v1 _ h=>oN (Kz.not Z) (jA ?_))))))));refine jN Z h (fun q2 h=>?_) (fun q2 h=>?_)
 ·refine jI (oN as' (jA (jK ?_)));obtain rfl:=KD h
  repeat (first|refine jd ?_|refine je ?_)
  exact jQ (vs:=[.nil]) (.cons (.tmp Z) .nil) .nil0
 refine jG (jI (oN as' (jA ?_)));refine T.jU h (fun s3=>[(3,nE cI s3)]) (fun s3=>[]) (fun s3 h=>?_) (fun s3 h=>?_)
 ·refine jI (oN mv (oN as' (jA (jK ?_))));obtain rfl:=KD h
  repeat (first|refine jd ?_|refine je ?_)
  exact jQ (vs:=[nE cI s3]) (.cons (.tmp Z) .nil) (Fz.eqv (.of_isF 9 _ (I9 s3)) (Ja s3))
 refine jI (oN mv (oN (Kz.lenL aK Z) (oN mv (jA (jE ?_)))));refine T.lU h (fun s6=>[(11,I s6.1),(10,I (r_.length:Int)),(3,nE cI s6.2),(0,eL cI r_)]) (fun s6=>[]) (kw Z Z) (fun s6 ws6 h=>?_);refine jI (oN (Kz.ilt Z Z) (jA (jH ?_)));refine jN Z h (fun q8 h=>?_) (fun q8 h=>?_)
 ·refine jG ?_;refine T.jU h (fun s9=>[(3,nE cI s9),(11,I s6.1),(10,I (r_.length:Int)),(0,eL cI r_)]) (fun s9=>[]) (fun s9 h=>?_) (fun s9 h=>?_)
  ·refine jC (jW h fun g16 h=>oN (Kz.add Z Z g16) (oN mv (jA ?_)));exact lE h (kw Z Z)
  refine jE (jI (oN mv (oN as' (jA (jI (oN mv (oN mv (oC h (fun _=>sK _ _) Z Z Z Z fun v10 _ h=>oN as' (jA (jI (oN mv (oN (Kz.nilNe Tryz.underlying23 Z Z) (oN mv ?_)))))))))))));refine TO.jB h 10 (fun s11=>[(29,Bo s11),(5,nE cI v10),(11,I s6.1),(10,I (r_.length:Int)),(3,nE cI s6.2),(0,eL cI r_)]) (fun s11=>[]) (fun s11 q12 h js11=>?_) (fun s11 q12 h js11=>?_) (fun s11 h=>?_)
  ·refine gN Z q12 mv (gN Z q12 (Kz.nilEq Tryz.underlying23 Z Z) (gN Z q12 mv ?_));refine TO.jB h 6 (fun s13=>[(28,Bo s13),(22,Bo s6.2.isEmpty),(21,Bo s6.2.isEmpty),(20,nE cI s6.2),(19,Bo (!v10.isEmpty)),(5,nE cI v10),(11,I s6.1),(10,I (r_.length:Int)),(3,nE cI s6.2),(0,eL cI r_)]) (fun s13=>[]) (fun s13 q14 h js13=>?_) (fun s13 q14 h js13=>?_) (fun s13 h=>?_)
   ·refine gS Z q14 (gS Z q14 (gS Z q14 (gS Z q14 (gS Z q14 (gN Z q12 (Kz.pickT Z q14 (Bo true) Z) ?_)))))
    cases h
    exact js13 _ _ (kw Z Z)
   ·refine gN Z q14 mv (gN Z q14 (Kz.lenE aK Z) (gN Z q14 mv (gN Z q14 (Kz.lenE aK Z) (gN Z q14 (Kz.ilt Z Z) (gN Z q12 (Kz.pickF Z q14 (Bo (decide ((v10.length:Int)<(s6.2.length:Int)))) Z) ?_)))))
    cases h
    exact js13 _ _ (kw Z Z)
   refine oN (Kz.pickT Z q12 (Bo s13) Z) ?_
   cases h
   exact js11 _ _ (kw Z Z)
  ·refine gS Z q12 (gS Z q12 (gS Z q12 (gU Z (gU Z (gU Z (gU Z (gU Z (gS Z q12 (oN (Kz.pickF Z q12 (Bo false) Z) ?_)))))))))
   cases h
   exact js11 _ _ (kw Z Z)
  refine jA ?_;refine jN Z h (fun q15 h=>?_) (fun q15 h=>?_)
  ·refine jC (oN mv (oN as' (jA ?_)))
   cases h
   exact ⟨(),trivial,kw Z Z⟩
  refine jG ?_
  cases h
  exact ⟨(),trivial,kw Z Z⟩
 refine jM (lX h fun h=>?_)
 cases h
 exact ⟨(),trivial,kw Z Z⟩
theorem sN (x:KE) {q} (h:fu x=some q):ax Tryz.prog 123 [.agg (KE.c x)] (St q):=by
 refine pM Tryz.func123 Z (by kernel_rfl) Z (jI (oN (Kz.bxF [I x.Op,I x.Loc,I x.Reg,I x.Val] Z Z Z) (oN as' (jA (jH (jP (fun _=>([],false)) (by kernel_rfl) (by kernel_rfl) (fN Z (fa mq Z) (fN Z (lf (I x.Loc) KN Z) (fN Z (fa mq Z) (fN Z (lf (I x.Loc) KN Z) (jW h fun g1 h=>fN Z (Kz.add Z Z g1) (jD h fun g2 h=>fN Z (Kz.slst Tryz.underlying9 Z (.yes Z) (.yes Z) g2) (fN Z (fa mq Z) ?_)))))))))))));refine fN Z (lf (I x.Reg) KN Z) (fN Z (fa mq Z) (fN Z (lf (I x.Reg) KN Z) (jW h fun g3 h=>fN Z (Kz.add Z Z g3) (jD h fun g4 h=>fN Z (Kz.slst Tryz.underlying9 Z (.yes Z) (.yes Z) g4) (fN Z (fa mq Z) (fN Z (lf (I x.Val) KN Z) (fN Z (fa mq Z) (fN Z (lf (I x.Val) KN Z) (jW h fun g5 h=>fN Z (Kz.add Z Z g5) (jD h fun g6 h=>fN Z (Kz.slst Tryz.underlying9 Z (.yes Z) (.yes Z) g6) (fN Z as' ?_)))))))))));refine fN Z as' (fN Z as' (jR (jH (jH (T.clean (H0:=[]) (e0:=ak [(5,St ((⟨#[48,49,50,51,52,53,54,55,56,57]⟩:ByteArray).extract x.Val.toNat (x.Val+V).toNat)),(4,St ((⟨#[97,98,99]⟩:ByteArray).extract x.Reg.toNat (x.Reg+V).toNat)),(3,St ((⟨#[120,121,122]⟩:ByteArray).extract x.Loc.toNat (x.Loc+V).toNat)),(1,.fp (KE.c x) 0)]) Z (Ky Z (Ky Z (Ky Z (Ky Z Kw)))) (jC (oN (fa mq Z) (oN (lf (I x.Op) KN Z) (jA (jE (jI (oN (Kz.ieq Z Z) (oN as' (jA ?_))))))))))))));refine jN Z h (fun q7 h=>?_) (fun q7 h=>?_)
 ·refine jI (oN mv (jD h fun g8 h=>oN (Kz.cat Z Z g8) (oN mv (jD h fun g9 h=>oN (Kz.cat Z Z g9) (oN as' (jA (jK ?_)))))))
  cases h
  exact aD Z Z Z
 refine jI (oN (Kz.ieq Z Z) (oN as' (jA ?_)));refine jN Z h (fun q10 h=>?_) (fun q10 h=>?_)
 ·refine jI (oN mv (jD h fun g11 h=>oN (Kz.cat Z Z g11) (oN mv (jD h fun g12 h=>oN (Kz.cat Z Z g12) (oN as' (jA (jK ?_)))))))
  cases h
  exact aD Z Z Z
 refine jI (oN (Kz.ieq Z Z) (oN as' (jA ?_)));refine jN Z h (fun q13 h=>?_) (fun q13 h=>?_)
 ·refine jI (oN mv (jD h fun g14 h=>oN (Kz.cat Z Z g14) (oN mv (jD h fun g15 h=>oN (Kz.cat Z Z g15) (oN as' (jA (jK ?_)))))))
  cases h
  exact aD Z Z Z
 refine jI (oN (Kz.ieq Z Z) (oN as' (jA ?_)));refine jN Z h (fun q16 h=>?_) (fun q16 h=>?_)
 ·refine jI (oN mv (jD h fun g17 h=>oN (Kz.cat Z Z g17) (oN mv (jD h fun g18 h=>oN (Kz.cat Z Z g18) (jD h fun g19 h=>oN (Kz.cat Z Z g19) (oN mv (jD h fun g20 h=>oN (Kz.cat Z Z g20) (oN as' (jA (jK ?_))))))))))
  cases h
  exact aD Z Z Z
 refine jG (jI (oN as' (jA (jK ?_))))
 cases h
 exact aD Z Z Z
theorem sO (p:List (List KE)) (e_:KH) {q} (h:cW p e_=some q):ax Tryz.prog 72 [eL (cL KE.c) p,.agg (KH.c e_)] (St q):=by
 refine pM Tryz.func72 Z (by kernel_rfl) Z (jI (oN (Kz.bxF [I e_.Thread,I e_.Index,I e_.Loc,Bo e_.Reads,Bo e_.aC] Z Z Z) (oN as' (jA (jH (jI (oN (fa cg Z) (oN (lf (I e_.Thread) KN Z) (oN (Kz.ilt Z Z) (jA ?_))))))))));refine jN Z h (fun q1 h=>?_) (fun q1 h=>?_)
 ·refine jI (oN (fa cg Z) (oN (lf (I e_.Loc) KN Z) (oN (fa cg Z) (oN (lf (I e_.Loc) KN Z) (jW h fun g2 h=>oN (Kz.add Z Z g2) (jD h fun g3 h=>oN (Kz.slst Tryz.underlying9 Z (.yes Z) (.yes Z) g3) (jD h fun g4 h=>oN (Kz.cat Z Z g4) (oN as' (jA (jK ?_))))))))))
  cases h
  exact aD Z Z Z
 refine jG (jH (jP (fun _=>([],false)) (by kernel_rfl) (by kernel_rfl) (fN Z (fa cg Z) (fN Z (lf (I e_.Thread) KN Z) (fC h (fun _=>o5 _) Z Z Z Z Z fun v5 _ h=>jD h fun g6 h=>fN Z (Kz.cat Z Z g6) (fN Z mv (fN Z (fa cg Z) (fN Z (lf (I e_.Thread) KN Z) (jD h fun g7 h=>fN Z (Kz.ixL yj Z Z g7 qD) (fN Z (lf (eL KE.c (J p e_.Thread)) AK Z) (fN Z (fa cg Z) (fN Z (lf (I e_.Index) KN Z) ?_))))))))))));refine jD h fun g8 h=>fN Z (Kz.ixL xB Z Z g8 qD) (fN Z (lf (.agg (KE.c (J (J p e_.Thread) e_.Index))) xp Z) (fC h (fun _=>sN _) Z Z Z Z Z fun v9 _ h=>jD h fun g10 h=>fN Z (Kz.cat Z Z g10) (fN Z as' (jR (jK ?_)))))
 cases h
 exact aD Z Z Z
theorem vC (p:List (List KE)) (x:KG) (m:List ae) {q} (h:dK p x m=some q):ax Tryz.prog 32 [eL (cL KE.c) p,.agg (KG.c x),eL ae.c m] (St q):=by
 refine pM Tryz.func32 Z (by kernel_rfl) Z (jI (oN (Kz.bxF [eL cI x.From,eL (cL cI) x.Order] Z Z Z) (oN as' (jA (jH (jI (oN mv (oN (lf (.agg (KG.c x)) qX Z) (oC h (fun _=>um _ _) Z Z Z Z fun v1 _ h=>oN mv (oN (Kz.ext (eL cI v1.1) Z Z) (oN (Kz.ext (Bo v1.2) Z Z) (oN as' (oN as' (jA ?_))))))))))))));refine jI (oN mv (oN (Kz.not Z) (jA ?_)));refine jN Z h (fun q2 h=>?_) (fun q2 h=>?_)
 ·refine jI (oN as' (jA (jK ?_)))
  cases h
  exact aD Z Z Z
 refine jG (jI (oN mv (oN (lf (.agg (KG.c x)) qX Z) (oN mv (oC h (fun _=>rE _ _ _) Z Z Z Z fun v3 _ h=>oN mv (oN (Kz.ext (I v3.1) Z Z) (oN (Kz.ext (eL cI v3.2) Z Z) (oN as' (oN as' (jA (jH (jH (T.clean (H0:=[]) (e0:=ak [(10,eL cI v3.2),(9,I v3.1),(0,eL (cL KE.c) p),(2,eL ae.c m)]) Z (Ky Z (Ky Z (Ky Z (Ky Z Kw)))) (jC ?_))))))))))))));refine oN mv (oN (Kz.ilt Z Z) (jA ?_));refine jN Z h (fun q4 h=>?_) (fun q4 h=>?_)
 ·refine jI (oN as' (jA (jK ?_)))
  cases h
  exact aD Z Z Z
 refine jG (jI (oN mv (oC h (fun _=>o5 _) Z Z Z Z fun v5 _ h=>jD h fun g6 h=>oN (Kz.cat Z Z g6) (oN as' (jA (jH (jI (oN mv (oN mv (jD h fun g7 h=>oN (Kz.ixL vS Z Z g7 qD) (oN (fa Ci Z) (oN (lf (I ((J m v3.1).Kind)) KN Z) ?_))))))))))));refine oN (Kz.ine Z Z) (jA ?_);refine jN Z h (fun q8 h=>?_) (fun q8 h=>?_)
 ·refine jI (oN mv (oN as' (jA (jK ?_))))
  cases h
  exact aD Z Z Z
 refine jG (jI (oN mv (oC h (fun _=>j6 _) Z Z Z Z fun v9 _ h=>oN as' (jA (jH (T.reserve (jC (oN (Kz.asg (hS true 0 0 1 (([]:List ByteArray).length)) Z) (jA ?_)))))))));refine T.jF (G:=(Bool×Nat)) h (fun s10 gh=>(gh.1=true->s10=[])) (fun s10 gh=>[(13,hS gh.1 0 gh.2 1 s10.length),(11,St ((⟨#[114,117,108,101,32]⟩:ByteArray)++v5))]) (fun s10 gh=>[bE gh.1 gh.2 1 9 (s10.map cS)]) (fun s10 gh h n30=>?_) (fun s10 h=>?_)
 ·obtain ⟨b29,u28⟩:=gh;refine jI (oN mv (jD h fun g31 h=>oN (Kz.cat Z Z g31) (oN mv (jB h fun v32 cv32 h=>oA (EvA.callT Z Z (uN s10 (⟨#[44,32]⟩:ByteArray) cv32) (.cons (Fz.own (g:=b29) (ver:=u28) (l:=s10) Z Z Z n30 qD) (.cons (qC Z) .nil)) Z) (jD h fun g33 h=>oN (Kz.cat Z Z g33) (oN as' (jA (jK ?_))))))))
  cases h
  exact aD Z Z Z
 refine jI (oN mv (oC h (fun _=>sM _) Z Z Z Z fun v11 _ h=>oN (Kz.lenL aK Z) (oN mv (jA (jE ?_)))));refine jO (S:=(List ByteArray)×Int) (G:=(Bool×Nat)) (fP p v9 v11) (fun s17 gh=>(gh.1=true->s17.1=[])) (fun s17 gh=>[(48,I s17.2),(47,I (v11.length:Int)),(46,eL cI v11),(13,hS gh.1 0 gh.2 1 s17.1.length),(12,eL KH.c v9),(11,St ((⟨#[114,117,108,101,32]⟩:ByteArray)++v5)),(0,eL (cL KE.c) p)]) (fun s17 gh=>[bE gh.1 gh.2 1 9 (s17.1.map cS)]) (s0:=(([]:List ByteArray),U)) (true,0) h qD (kw Z Z) (fun s17 gh ws17 h n21=>?_);obtain ⟨b20,u19⟩:=gh;refine jI (oN (Kz.ilt Z Z) (jA (jH ?_)));refine jN Z h (fun q22 h=>?_) (fun q22 h=>?_)
 ·refine jG (jH (jE (jI (jD h fun g23 h=>oN (Kz.ixL aK Z Z g23 qD) (oN (lf (I (J v11 s17.2)) KN Z) (oN as' (jA (jC (oN mv (oN mv (oN mv (oN mv (jD h fun g24 h=>oN (Kz.ixL mR Z Z g24 qD) ?_)))))))))))));refine oN (lf (.agg (KH.c (J v9 (J v11 s17.2)))) rY Z) (oC h (fun _=>sO _ _) Z Z Z Z fun v25 _ h=>oN (Kz.mkF (c:=cS) ([v25]:List ByteArray) [[St v25]] AL Z Z Z qD qD Z) (jL h fun g26 h=>oA (EvA.app1 (g:=b20) (l:=s17.1) v25 AL (by kernel_rfl) Z Z Z n21 (bK.fz (l:=([v25]:List ByteArray)) Z qD) g26) (oN (Kz.asg (hS false 0 (u19+1) 1 ((s17.1++[v25]).length)) Z) (jA (jC (jW h fun g27 h=>oN (Kz.add Z Z g27) (oN mv (jA ?_))))))));obtain rfl:=KD h;exact ⟨((s17.1++[v25]),(s17.2+V)),(false,u19+1),Z,nofun,kw Z Z⟩
 refine jM (lX h fun h=>?_)
 cases h
 exact ⟨(b20,u19),n21,kw Z Z⟩
theorem qB (p:List (List KE)) (x:KG) (m:List ae) {q} (h:bz p x m=some q):ax Tryz.prog 12 [eL (cL KE.c) p,.agg (KG.c x),eL ae.c m] (St q):=by
 refine pM Tryz.func12 Z (by kernel_rfl) Z (jI (oN (Kz.bxF [eL cI x.From,eL (cL cI) x.Order] Z Z Z) (oN as' (jA (jH (jI (oN mv (oN (lf (.agg (KG.c x)) qX Z) (oC h (fun _=>sG _ _) Z Z Z Z fun v1 _ h=>oN (Kz.not Z) (oN mv ?_))))))))));refine TO.jB h 4 (fun s2=>[(15,Bo s2),(4,.fp (KG.c x) 0),(0,eL (cL KE.c) p),(2,eL ae.c m)]) (fun s2=>[]) (fun s2 q3 h js2=>?_) (fun s2 q3 h js2=>?_) (fun s2 h=>?_)
 ·refine gS Z q3 (gS Z q3 (gS Z q3 (oN (Kz.pickT Z q3 (Bo true) Z) ?_)))
  cases h
  exact js2 _ _ (kw Z Z)
 ·refine gN Z q3 mv (jB h fun v4 cv4 h=>gN Z q3 (Kz.call Z Z Z (ru m cv4) Z) (gN Z q3 (Kz.not Z) (oN (Kz.pickF Z q3 (Bo (!v4)) Z) ?_)))
  cases h
  exact js2 _ _ (kw Z Z)
 refine jA ?_;refine jN Z h (fun q5 h=>?_) (fun q5 h=>?_)
 ·refine jI (oN as' (jA (jK ?_)))
  cases h
  exact aD Z Z Z
 refine jG (jI (oN mv (oN (lf (.agg (KG.c x)) qX Z) (oN mv (oC h (fun _=>vC _ _ _) Z Z Z Z fun v6 _ h=>oN as' (jA (jK ?_)))))))
 cases h
 exact aD Z Z Z
theorem vD (a:KE) (b:KE) {q} (h:kZ a b=some q):ax Tryz.prog 74 [.agg (KE.c a),.agg (KE.c b)] (Bo q):=by
 refine pM Tryz.func74 Z (by kernel_rfl) Z (jI (oN (Kz.bxF [I a.Op,I a.Loc,I a.Reg,I a.Val] Z Z Z) (oN (Kz.bxF (KE.c b) Z Z Z) (oN as' (jA (jH (jI (oN (fa mq Z) (oN (lf (I a.Op) KN Z) (oN (fa mq Z) (oN (lf (I b.Op) KN Z) (oN (Kz.ine Z Z) (jA ?_)))))))))))));refine jN Z h (fun q1 h=>?_) (fun q1 h=>?_)
 ·refine jI (oN as' (jA (jK ?_)))
  cases h
  exact aD Z Z Z
 refine jG (jH (jI (oN (fa mq Z) (oN (lf (I a.Loc) KN Z) (oN (fa mq Z) (oN (lf (I b.Loc) KN Z) (oN (Kz.ine Z Z) (jA ?_))))))));refine jN Z h (fun q2 h=>?_) (fun q2 h=>?_)
 ·refine jI (oN as' (jA (jK ?_)))
  cases h
  exact aD Z Z Z
 refine jG (jH (jI (oN (fa mq Z) (oN (lf (I a.Reg) KN Z) (oN (fa mq Z) (oN (lf (I b.Reg) KN Z) (oN (Kz.ine Z Z) (jA ?_))))))));refine jN Z h (fun q3 h=>?_) (fun q3 h=>?_)
 ·refine jH (T.clean (H0:=[]) (e0:=ak []) Z Kw (jC (oN as' (jA (jK ?_)))))
  cases h
  exact aD Z Z Z
 refine jG (jH (jH (T.clean (H0:=[]) (e0:=ak [(3,.fp (KE.c b) 0),(2,.fp (KE.c a) 0)]) Z (Ky Z (Ky Z Kw)) (jC (oN (fa mq Z) (oN (lf (I a.Val) KN Z) (oN (fa mq Z) (oN (lf (I b.Val) KN Z) (oN (Kz.ine Z Z) (jA ?_))))))))));refine jN Z h (fun q4 h=>?_) (fun q4 h=>?_)
 ·refine jI (oN as' (jA (jK ?_)))
  cases h
  exact aD Z Z Z
 refine jG (jI (oN as' (jA (jK ?_))))
 cases h
 exact aD Z Z Z
theorem uy (a:List KE) (b:List KE) {q} (h:jX a b=some q):ax Tryz.prog 33 [eL KE.c a,eL KE.c b] (Bo q):=by
 refine pM Tryz.func33 Z (by kernel_rfl) Z (jI (oN as' (jA (jH (jI (oN mv (oN (Kz.lenL xB Z) (oN mv (oN (Kz.lenL xB Z) (oN (Kz.ine Z Z) (jA ?_)))))))))));refine jN Z h (fun q1 h=>?_) (fun q1 h=>?_)
 ·refine jI (oN as' (jA (jK ?_)))
  cases h
  exact aD Z Z Z
 refine jG ?_;obtain ⟨Ks2,es2,ws2,h,ks2⟩:=mX h;refine T.join (S:=Unit) (G:=Unit) (fun s2=>Ks2 s2=some q) (fun s2 gh=>True) (fun s2 gh=>[]) (fun s2 gh=>[]) (fun s2 gh h hg=>?_) ?_
 ·clear ks2;subst es2;refine jI (oN as' (jA (jK ?_)))
  cases h
  exact aD Z Z Z
 refine jI (oN as' (jA (jE ?_)));refine T.lU h (fun s5=>[(5,I s5),(0,eL KE.c a),(1,eL KE.c b)]) (fun s5=>[]) (kw Z Z) (fun s5 ws5 h=>?_);refine jH (jI (oN mv (oN mv (oN (Kz.lenL xB Z) (oN (Kz.ilt Z Z) (jA ?_))))));refine jN Z h (fun q7 h=>?_) (fun q7 h=>?_)
 ·refine jG (jH (jE (jH (jP (fun _=>([],false)) (by kernel_rfl) (by kernel_rfl) (fN Z mv (fN Z mv (jD h fun g8 h=>fN Z (Kz.ixL xB Z Z g8 qD) (fN Z (lf (.agg (KE.c (J a s5))) xp Z) (fN Z mv (fN Z mv (jD h fun g9 h=>fN Z (Kz.ixL xB Z Z g9 qD) (fN Z (lf (.agg (KE.c (J b s5))) xp Z) (fC h (fun _=>vD _ _) Z Z Z Z Z fun v10 _ h=>?_)))))))))))));refine fN Z (Kz.not Z) (jR ?_);refine jN Z h (fun q11 h=>?_) (fun q11 h=>?_)
  ·refine jH (T.clean (H0:=[]) (e0:=ak []) Z Kw (jC (oN as' (jA (jK (lX h fun h=>?_))))));obtain rfl:=KD h;replace h:=congrArg some (show _=_ from ks2)
   cases h
   exact aD Z Z Z
  refine jG (jC (oN mv (jW h fun g12 h=>oN (Kz.add Z Z g12) (oN as' (jA ?_)))));exact lE h (kw Z Z)
 refine jM (lX h fun h=>?_)
 cases h
 exact ⟨(),(),ks2,trivial,kw Z Z⟩
theorem sP (a:List (List KE)) (b:List (List KE)) {q} (h:fw a b=some q):ax Tryz.prog 13 [eL (cL KE.c) a,eL (cL KE.c) b] (Bo q):=by
 refine pM Tryz.func13 Z (by kernel_rfl) Z (jI (oN as' (jA (jH (jI (oN mv (oN (Kz.lenL yj Z) (oN mv (oN (Kz.lenL yj Z) (oN (Kz.ine Z Z) (jA ?_)))))))))));refine jN Z h (fun q1 h=>?_) (fun q1 h=>?_)
 ·refine jI (oN as' (jA (jK ?_)))
  cases h
  exact aD Z Z Z
 refine jG ?_;obtain ⟨Ks2,es2,ws2,h,ks2⟩:=mX h;refine T.join (S:=Unit) (G:=Unit) (fun s2=>Ks2 s2=some q) (fun s2 gh=>True) (fun s2 gh=>[]) (fun s2 gh=>[]) (fun s2 gh h hg=>?_) ?_
 ·clear ks2;subst es2;refine jI (oN as' (jA (jK ?_)))
  cases h
  exact aD Z Z Z
 refine jI (oN as' (jA (jE ?_)));refine T.lU h (fun s5=>[(5,I s5),(0,eL (cL KE.c) a),(1,eL (cL KE.c) b)]) (fun s5=>[]) (kw Z Z) (fun s5 ws5 h=>?_);refine jH (jI (oN mv (oN mv (oN (Kz.lenL yj Z) (oN (Kz.ilt Z Z) (jA ?_))))));refine jN Z h (fun q7 h=>?_) (fun q7 h=>?_)
 ·refine jG (jH (jE (jH (jP (fun _=>([],false)) (by kernel_rfl) (by kernel_rfl) (fN Z mv (fN Z mv (jD h fun g8 h=>fN Z (Kz.ixL yj Z Z g8 qD) (fN Z (lf (eL KE.c (J a s5)) AK Z) (fN Z mv (fN Z mv (jD h fun g9 h=>fN Z (Kz.ixL yj Z Z g9 qD) (fN Z (lf (eL KE.c (J b s5)) AK Z) (fC h (fun _=>uy _ _) Z Z Z Z Z fun v10 _ h=>?_)))))))))))));refine fN Z (Kz.not Z) (jR ?_);refine jN Z h (fun q11 h=>?_) (fun q11 h=>?_)
  ·refine jH (T.clean (H0:=[]) (e0:=ak []) Z Kw (jC (oN as' (jA (jK (lX h fun h=>?_))))));obtain rfl:=KD h;replace h:=congrArg some (show _=_ from ks2)
   cases h
   exact aD Z Z Z
  refine jG (jC (oN mv (jW h fun g12 h=>oN (Kz.add Z Z g12) (oN as' (jA ?_)))));exact lE h (kw Z Z)
 refine jM (lX h fun h=>?_)
 cases h
 exact ⟨(),(),ks2,trivial,kw Z Z⟩
theorem qh (a:LI) (b:LI) {q} (h:jY a b=some q):ax Tryz.prog 19 [eL cI a,eL cI b] (Bo q):=by
 refine pM Tryz.func19 Z (by kernel_rfl) Z (jI (oN as' (jA (jH (jI (oN mv (oN (Kz.lenL aK Z) (oN mv (oN (Kz.lenL aK Z) (oN (Kz.ine Z Z) (jA ?_)))))))))));refine jN Z h (fun q1 h=>?_) (fun q1 h=>?_)
 ·refine jI (oN as' (jA (jK ?_)))
  cases h
  exact aD Z Z Z
 refine jG ?_;obtain ⟨Ks2,es2,ws2,h,ks2⟩:=mX h;refine T.join (S:=Unit) (G:=Unit) (fun s2=>Ks2 s2=some q) (fun s2 gh=>True) (fun s2 gh=>[]) (fun s2 gh=>[]) (fun s2 gh h hg=>?_) ?_
 ·clear ks2;subst es2;refine jI (oN as' (jA (jK ?_)))
  cases h
  exact aD Z Z Z
 refine jI (oN as' (jA (jE ?_)));refine T.lU h (fun s5=>[(5,I s5),(0,eL cI a),(1,eL cI b)]) (fun s5=>[]) (kw Z Z) (fun s5 ws5 h=>?_);refine jH (jI (oN mv (oN mv (oN (Kz.lenL aK Z) (oN (Kz.ilt Z Z) (jA ?_))))));refine jN Z h (fun q7 h=>?_) (fun q7 h=>?_)
 ·refine jG (jH (jE (jH (jP (fun _=>([],false)) (by kernel_rfl) (by kernel_rfl) (fN Z mv (fN Z mv (jD h fun g8 h=>fN Z (Kz.ixL aK Z Z g8 qD) (fN Z (lf (I (J a s5)) KN Z) (fN Z mv (fN Z mv (jD h fun g9 h=>fN Z (Kz.ixL aK Z Z g9 qD) (fN Z (lf (I (J b s5)) KN Z) (fN Z (Kz.ine Z Z) ?_)))))))))))));refine jR ?_;refine jN Z h (fun q10 h=>?_) (fun q10 h=>?_)
  ·refine jH (T.clean (H0:=[]) (e0:=ak []) Z Kw (jC (oN as' (jA (jK (lX h fun h=>?_))))));obtain rfl:=KD h;replace h:=congrArg some (show _=_ from ks2)
   cases h
   exact aD Z Z Z
  refine jG (jC (oN mv (jW h fun g11 h=>oN (Kz.add Z Z g11) (oN as' (jA ?_)))));exact lE h (kw Z Z)
 refine jM (lX h fun h=>?_)
 cases h
 exact ⟨(),(),ks2,trivial,kw Z Z⟩
theorem vE (a:LL) (b:LL) {q} (h:lc a b=some q):ax Tryz.prog 34 [eL (cL cI) a,eL (cL cI) b] (Bo q):=by
 refine pM Tryz.func34 Z (by kernel_rfl) Z (jI (oN as' (jA (jH (jI (oN mv (oN (Kz.lenL pU Z) (oN mv (oN (Kz.lenL pU Z) (oN (Kz.ine Z Z) (jA ?_)))))))))));refine jN Z h (fun q1 h=>?_) (fun q1 h=>?_)
 ·refine jI (oN as' (jA (jK ?_)))
  cases h
  exact aD Z Z Z
 refine jG ?_;obtain ⟨Ks2,es2,ws2,h,ks2⟩:=mX h;refine T.join (S:=Unit) (G:=Unit) (fun s2=>Ks2 s2=some q) (fun s2 gh=>True) (fun s2 gh=>[]) (fun s2 gh=>[]) (fun s2 gh h hg=>?_) ?_
 ·clear ks2;subst es2;refine jI (oN as' (jA (jK ?_)))
  cases h
  exact aD Z Z Z
 refine jI (oN as' (jA (jE ?_)));refine T.lU h (fun s5=>[(5,I s5),(0,eL (cL cI) a),(1,eL (cL cI) b)]) (fun s5=>[]) (kw Z Z) (fun s5 ws5 h=>?_);refine jH (jI (oN mv (oN mv (oN (Kz.lenL pU Z) (oN (Kz.ilt Z Z) (jA ?_))))));refine jN Z h (fun q7 h=>?_) (fun q7 h=>?_)
 ·refine jG (jH (jE (jH (jP (fun _=>([],false)) (by kernel_rfl) (by kernel_rfl) (fN Z mv (fN Z mv (jD h fun g8 h=>fN Z (Kz.ixL pU Z Z g8 qD) (fN Z (lf (eL cI (J a s5)) nu Z) (fN Z mv (fN Z mv (jD h fun g9 h=>fN Z (Kz.ixL pU Z Z g9 qD) (fN Z (lf (eL cI (J b s5)) nu Z) (fC h (fun _=>qh _ _) Z Z Z Z Z fun v10 _ h=>?_)))))))))))));refine fN Z (Kz.not Z) (jR ?_);refine jN Z h (fun q11 h=>?_) (fun q11 h=>?_)
  ·refine jH (T.clean (H0:=[]) (e0:=ak []) Z Kw (jC (oN as' (jA (jK (lX h fun h=>?_))))));obtain rfl:=KD h;replace h:=congrArg some (show _=_ from ks2)
   cases h
   exact aD Z Z Z
  refine jG (jC (oN mv (jW h fun g12 h=>oN (Kz.add Z Z g12) (oN as' (jA ?_)))));exact lE h (kw Z Z)
 refine jM (lX h fun h=>?_)
 cases h
 exact ⟨(),(),ks2,trivial,kw Z Z⟩
theorem xk (a:KG) (b:KG) {q} (h:mf a b=some q):ax Tryz.prog 14 [.agg (KG.c a),.agg (KG.c b)] (Bo q):=by
 refine pM Tryz.func14 Z (by kernel_rfl) Z (jI (oN (Kz.bxF [eL cI a.From,eL (cL cI) a.Order] Z Z Z) (oN (Kz.bxF [eL cI b.From,eL (cL cI) b.Order] Z Z Z) (oN as' (jA (jH (jI (oN (fa uG Z) (oN (lf (eL cI a.From) nu Z) (oN (fa uG Z) (oN (lf (eL cI b.From) nu Z) (oC h (fun _=>qh _ _) Z Z Z Z fun v1 _ h=>oN (Kz.not Z) (jA ?_)))))))))))));refine jN Z h (fun q2 h=>?_) (fun q2 h=>?_)
 ·refine jI (oN as' (jA (jK ?_)))
  cases h
  exact aD Z Z Z
 refine jG (jH (jI (oN (fa uG Z) (oN (lf (eL (cL cI) a.Order) Cf Z) (oN (fa uG Z) (oN (lf (eL (cL cI) b.Order) Cf Z) (oC h (fun _=>vE _ _) Z Z Z Z fun v3 _ h=>oN (Kz.not Z) (jA ?_))))))));refine jN Z h (fun q4 h=>?_) (fun q4 h=>?_)
 ·refine jH (T.clean (H0:=[]) (e0:=ak []) Z Kw (jC (oN as' (jA (jK ?_)))))
  cases h
  exact aD Z Z Z
 refine jG (jH (T.clean (H0:=[]) (e0:=ak []) Z Kw (jC (oN as' (jA (jK ?_))))))
 cases h
 exact aD Z Z Z
theorem oz (rcf75:aa->aa->Option Bool) (ih75:∀ (a:aa) (b:aa) {q},rcf75 a b=some q->ax Tryz.prog 75 [.agg (aa.c a),.agg (aa.c b)] (Bo q)) (a:List TXimpl_RelExpr) (b:List TXimpl_RelExpr) {q:Bool} (h:fF rcf75 a b=some q):ax Tryz.prog 127 [eL TXimpl_RelExpr.c a,eL TXimpl_RelExpr.c b] (Bo q):=by
 refine pM Tryz.func127 Z (by kernel_rfl) Z (jI (oN as' (jA (jH (jI (oN mv (oN (Kz.lenL yT Z) (oN mv (oN (Kz.lenL yT Z) (oN (Kz.ine Z Z) (jA ?_)))))))))));refine jN Z h (fun q1 h=>?_) (fun q1 h=>?_)
 ·refine jI (oN as' (jA (jK ?_)))
  cases h
  exact aD Z Z Z
 refine jG ?_;obtain ⟨Ks2,es2,ws2,h,ks2⟩:=mX h;refine T.join (S:=Unit) (G:=Unit) (fun s2=>Ks2 s2=some q) (fun s2 gh=>True) (fun s2 gh=>[]) (fun s2 gh=>[]) (fun s2 gh h hg=>?_) ?_
 ·clear ks2;subst es2;refine jI (oN as' (jA (jK ?_)))
  cases h
  exact aD Z Z Z
 refine jI (oN as' (jA (jE ?_)));refine T.lU h (fun s5=>[(5,I s5),(0,eL TXimpl_RelExpr.c a),(1,eL TXimpl_RelExpr.c b)]) (fun s5=>[]) (kw Z Z) (fun s5 ws5 h=>?_);refine jH (jI (oN mv (oN mv (oN (Kz.lenL yT Z) (oN (Kz.ilt Z Z) (jA ?_))))));refine jN Z h (fun q7 h=>?_) (fun q7 h=>?_)
 ·refine jG (jH (jE (jH (jP (fun _=>([],false)) (by kernel_rfl) (by kernel_rfl) (fN Z mv (fN Z mv (jD h fun g8 h=>fN Z (Kz.res (Kz.ixL yT Z Z g8 TXimpl_RelExpr.len) (r' := .fp (aa.c (J a s5).out) 0) (fun _ _ hr=>mH (TXimpl_RelExpr.out_c _) hr)) (fN Z (lf (.agg (aa.c ((J a s5).out))) tT Z) (fN Z mv (fN Z mv (jD h fun g9 h=>fN Z (Kz.res (Kz.ixL yT Z Z g9 TXimpl_RelExpr.len) (r' := .fp (aa.c (J b s5).out) 0) (fun _ _ hr=>mH (TXimpl_RelExpr.out_c _) hr)) (fN Z (lf (.agg (aa.c ((J b s5).out))) tT Z) (fC h (fun _=>ih75 _ _) Z Z Z Z Z fun v10 _ h=>?_)))))))))))));refine fN Z (Kz.not Z) (jR ?_);refine jN Z h (fun q11 h=>?_) (fun q11 h=>?_)
  ·refine jH (T.clean (H0:=[]) (e0:=ak []) Z Kw (jC (oN as' (jA (jK (lX h fun h=>?_))))));obtain rfl:=KD h;replace h:=congrArg some (show _=_ from ks2)
   cases h
   exact aD Z Z Z
  refine jG (jC (oN mv (jW h fun g12 h=>oN (Kz.add Z Z g12) (oN as' (jA ?_)))));exact lE h (kw Z Z)
 refine jM (lX h fun h=>?_)
 cases h
 exact ⟨(),(),ks2,trivial,kw Z Z⟩
theorem rF:∀ (nf:Nat) (a:aa) (b:aa) {q} (h:bA nf a b=some q),ax Tryz.prog 75 [.agg (aa.c a),.agg (aa.c b)] (Bo q):=by
 intro nf
 induction nf with
 | zero=>intros;rename_i h;cases h
 | succ nf ih=>
  intro a b q h;replace h:fQ (bA nf) a b=some q:=h;refine pM Tryz.func75 Z (by kernel_rfl) Z (jI (oN (Kz.bxF [I a.Op,St a.Name,eL TXimpl_RelExpr.c a.Kids] Z Z Z) (oN (Kz.bxF [I b.Op,St b.Name,eL TXimpl_RelExpr.c b.Kids] Z Z Z) (oN as' (jA (jH (jI (oN (fa oU Z) (oN (lf (I a.Op) KN Z) (oN (fa oU Z) (oN (lf (I b.Op) KN Z) (oN (Kz.ine Z Z) (jA ?_)))))))))))));refine jN Z h (fun q1 h=>?_) (fun q1 h=>?_)
  ·refine jI (oN as' (jA (jK ?_)))
   cases h
   exact aD Z Z Z
  refine jG (jH (jI (oN (fa oU Z) (oN (lf (St a.Name) ty9 Z) (oN (fa oU Z) (oN (lf (St b.Name) ty9 Z) (oN (Kz.sne Z Z) (jA ?_))))))));refine jN Z h (fun q2 h=>?_) (fun q2 h=>?_)
  ·refine jI (oN as' (jA (jK ?_)))
   cases h
   exact aD Z Z Z
  refine jG (jH (jI (oN (fa oU Z) (oN (lf (eL TXimpl_RelExpr.c a.Kids) Bz Z) (oN (fa oU Z) (oN (lf (eL TXimpl_RelExpr.c b.Kids) Bz Z) (oC h (fun _=>oz _ ih _ _) Z Z Z Z fun v3 _ h=>oN (Kz.not Z) (jA ?_))))))));refine jN Z h (fun q4 h=>?_) (fun q4 h=>?_)
  ·refine jH (T.clean (H0:=[]) (e0:=ak []) Z Kw (jC (oN as' (jA (jK ?_)))))
   cases h
   exact aD Z Z Z
  refine jG (jH (T.clean (H0:=[]) (e0:=ak []) Z Kw (jC (oN as' (jA (jK ?_))))))
  cases h
  exact aD Z Z Z
theorem sQ (a:aa) (b:aa) {q} (h:lK a b=some q):ax Tryz.prog 75 [.agg (aa.c a),.agg (aa.c b)] (Bo q):=by
 obtain ⟨nf,h⟩:=nC h;exact rF nf a b h
theorem xm (a:ae) (b:ae) {q} (h:mg a b=some q):ax Tryz.prog 35 [.agg (ae.c a),.agg (ae.c b)] (Bo q):=by
 refine pM Tryz.func35 Z (by kernel_rfl) Z (jI (oN (Kz.bxF [I a.Kind,I a.Expr.Op,St a.Expr.Name,eL TXimpl_RelExpr.c a.Expr.Kids] Z Z Z) (oN (Kz.bxF (ae.c (⟨b.Kind,b.Expr⟩:ae)) Z Z Z) (oN as' (jA (jH (jI (oN (fa Ci Z) (oN (lf (I a.Kind) KN Z) (oN (fa Ci Z) (oN (lf (I b.Kind) KN Z) (oN (Kz.ine Z Z) (jA ?_)))))))))))));refine jN Z h (fun q1 h=>?_) (fun q1 h=>?_)
 ·refine jI (oN as' (jA (jK ?_)))
  cases h
  exact aD Z Z Z
 refine jG (jH (jI (oN (Kz.fafpS 3 Tryz.underlying65 Z (by kernel_rfl) Z Z (row2:=aa.c a.Expr)) (oN (lf (.agg (aa.c a.Expr)) tT Z) (oN (Kz.fafpS 3 Tryz.underlying65 Z (by kernel_rfl) Z Z (row2:=aa.c b.Expr)) (oN (lf (.agg (aa.c b.Expr)) tT Z) (oC h (fun _=>sQ _ _) Z Z Z Z fun v2 _ h=>oN (Kz.not Z) (jA ?_))))))));refine jN Z h (fun q3 h=>?_) (fun q3 h=>?_)
 ·refine jH (T.clean (H0:=[]) (e0:=ak []) Z Kw (jC (oN as' (jA (jK ?_)))))
  cases h
  exact aD Z Z Z
 refine jG (jH (T.clean (H0:=[]) (e0:=ak []) Z Kw (jC (oN as' (jA (jK ?_))))))
 cases h
 exact aD Z Z Z
theorem vF (a:List ae) (b:List ae) {q} (h:lg a b=some q):ax Tryz.prog 15 [eL ae.c a,eL ae.c b] (Bo q):=by
 refine pM Tryz.func15 Z (by kernel_rfl) Z (jI (oN as' (jA (jH (jI (oN mv (oN (Kz.lenL vS Z) (oN mv (oN (Kz.lenL vS Z) (oN (Kz.ine Z Z) (jA ?_)))))))))));refine jN Z h (fun q1 h=>?_) (fun q1 h=>?_)
 ·refine jI (oN as' (jA (jK ?_)))
  cases h
  exact aD Z Z Z
 refine jG ?_;obtain ⟨Ks2,es2,ws2,h,ks2⟩:=mX h;refine T.join (S:=Unit) (G:=Unit) (fun s2=>Ks2 s2=some q) (fun s2 gh=>True) (fun s2 gh=>[]) (fun s2 gh=>[]) (fun s2 gh h hg=>?_) ?_
 ·clear ks2;subst es2;refine jI (oN as' (jA (jK ?_)))
  cases h
  exact aD Z Z Z
 refine jI (oN as' (jA (jE ?_)));refine T.lU h (fun s5=>[(5,I s5),(0,eL ae.c a),(1,eL ae.c b)]) (fun s5=>[]) (kw Z Z) (fun s5 ws5 h=>?_);refine jH (jI (oN mv (oN mv (oN (Kz.lenL vS Z) (oN (Kz.ilt Z Z) (jA ?_))))));refine jN Z h (fun q7 h=>?_) (fun q7 h=>?_)
 ·refine jG (jH (jE (jH (jP (fun _=>([],false)) (by kernel_rfl) (by kernel_rfl) (fN Z mv (fN Z mv (jD h fun g8 h=>fN Z (Kz.ixL vS Z Z g8 qD) (fN Z (lf (.agg (ae.c (J a s5))) EG Z) (fN Z mv (fN Z mv (jD h fun g9 h=>fN Z (Kz.ixL vS Z Z g9 qD) (fN Z (lf (.agg (ae.c (J b s5))) EG Z) (fC h (fun _=>xm _ _) Z Z Z Z Z fun v10 _ h=>?_)))))))))))));refine fN Z (Kz.not Z) (jR ?_);refine jN Z h (fun q11 h=>?_) (fun q11 h=>?_)
  ·refine jH (T.clean (H0:=[]) (e0:=ak []) Z Kw (jC (oN as' (jA (jK (lX h fun h=>?_))))));obtain rfl:=KD h;replace h:=congrArg some (show _=_ from ks2)
   cases h
   exact aD Z Z Z
  refine jG (jC (oN mv (jW h fun g12 h=>oN (Kz.add Z Z g12) (oN as' (jA ?_)))));exact lE h (kw Z Z)
 refine jM (lX h fun h=>?_)
 cases h
 exact ⟨(),(),ks2,trivial,kw Z Z⟩
theorem mQ (aP:List (List aj)) (aX:aB) (aM:List au) {q} (h:dL aP aX aM=some q):ax Tryz.prog 3 [eL (cL aj.c) aP,.agg (aB.c aX),eL au.c aM] (Bo q):=by
 refine pM Tryz.func3 Z (by kernel_rfl) Z (jI (oN (Kz.bxF (aB.c aX) Z Z Z) (oN as' (jA (jI (oN as' (jA (jI (oN mv (oN mv (oC h (fun _=>rZ _ _) Z Z Z Z fun v1 _ h=>oN as' (jA (jH (jI ?_))))))))))))));refine oN mv (oN (Kz.ilt Z Z) (jA ?_));refine jN Z h (fun q2 h=>?_) (fun q2 h=>?_)
 ·refine jI (oN as' (jA (jK ?_)))
  cases h
  exact aD Z Z Z
 refine jG (jI (oN (lf (.agg (aB.c aX)) Ji Z) (oN mv (oC h (fun _=>wZ _ _) Z Z Z Z fun v3 _ h=>oN as' (jA (jH (jI (oN mv (oN (Kz.ilt Z Z) (jA ?_))))))))));refine jN Z h (fun q4 h=>?_) (fun q4 h=>?_)
 ·refine jH (T.clean (H0:=[]) (e0:=ak []) Z Kw (jC (oN as' (jA (jK ?_)))))
  cases h
  exact aD Z Z Z
 refine jG (jI (oN mv (oN mv (oC h (fun _=>uP _ _) Z Z Z Z fun v5 _ h=>oN as' (jA (jH (jH (T.clean (H0:=[]) (e0:=ak [(7,I v5),(4,.fp (aB.c aX) 0),(0,eL (cL aj.c) aP),(2,eL au.c aM)]) Z (Ky Z (Ky Z (Ky Z (Ky Z Kw)))) (jC (oN mv (oN (Kz.ilt Z Z) (jA ?_))))))))))));refine jN Z h (fun q6 h=>?_) (fun q6 h=>?_)
 ·refine jI (oN as' (jA (jK ?_)))
  cases h
  exact aD Z Z Z
 refine jG (jH (jP (fun _=>([],false)) (by kernel_rfl) (by kernel_rfl) (fN Z mv (fC h (fun _=>jZ _) Z Z Z Z Z fun v7 _ h=>fN Z (lf (.agg (aB.c aX)) Ji Z) (fC h (fun _=>mN _) Z Z Z Z Z fun v8 _ h=>fN Z mv (fC h (fun _=>lM _) Z Z Z Z Z fun v9 _ h=>fC h (fun _=>qz _ _ _) Z Z Z Z Z fun v10 _ h=>fN Z as' (jR (jI (oN mv (oC h (fun _=>jZ _) Z Z Z Z fun v11 _ h=>oN as' ?_))))))))));refine jA (jI (oN (lf (.agg (aB.c aX)) Ji Z) (oC h (fun _=>mN _) Z Z Z Z fun v12 _ h=>oA (EvA.al JO Z Z) (oV (sr (KG.c v12) qX Z Z Z Z) (jA (jI (oN mv (oC h (fun _=>lM _) Z Z Z Z fun v13 _ h=>oN as' (jA (jH (T.clean (H0:=[some ⟨0,2,34,[(KG.c v12)]⟩]) (e0:=ak [(11,eL ae.c v13),(10,.hp 0 0 2 0 0),(9,eL (cL KE.c) v11),(8,St v10),(4,.fp (aB.c aX) 0),(0,eL (cL aj.c) aP),(2,eL au.c aM)]) Z (Ky Z (Ky Z (Ky Z (Ky Z (Ky Z (Ky Z (Ky Z Kw))))))) (jC (oN mv ?_)))))))))))));refine oA (lh (.agg (KG.c v12)) qX Z Z Z) (oN mv (oC h (fun _=>qB _ _ _) Z Z Z Z fun v14 _ h=>oN as' (jA (jH (jI (oN mv (oN mv (oN (Kz.sne Z Z) (jA ?_)))))))));refine jN Z h (fun q15 h=>?_) (fun q15 h=>?_)
 ·refine jI (oN as' (jA (jK ?_)))
  cases h
  exact aD Z Z Z
 refine jG (jH (jI (oN mv (oN mv (oC h (fun _=>jZ _) Z Z Z Z fun v16 _ h=>oC h (fun _=>sP _ _) Z Z Z Z fun v17 _ h=>oN (Kz.not Z) (jA ?_))))));refine jN Z h (fun q18 h=>?_) (fun q18 h=>?_)
 ·refine jH (T.clean (H0:=[some ⟨0,2,34,[(KG.c v12)]⟩]) (e0:=ak []) Z Kw (jC (oN as' (jA (jK ?_)))))
  cases h
  exact aD Z Z Z
 refine jG (jH (jH (T.clean (H0:=[some ⟨0,2,34,[(KG.c v12)]⟩]) (e0:=ak [(11,eL ae.c v13),(10,.hp 0 0 2 0 0),(4,.fp (aB.c aX) 0),(2,eL au.c aM)]) Z (Ky Z (Ky Z (Ky Z (Ky Z Kw)))) (jP (dG [([0],false),dF,dF,dF,dF]) (by kernel_rfl) (by kernel_rfl) (fR [0] Z (fun G hG=>EvA.loadhp (.agg (KG.c v12)) qX Z (hG.a0 Z) Z Z Z Z) (fN Z (lf (.agg (aB.c aX)) Ji Z) (fC h (fun _=>mN _) Z Z Z Z Z fun v19 _ h=>fC h (fun _=>xk _ _) Z Z Z Z Z fun v20 _ h=>fN Z (Kz.not Z) (jR ?_))))))));refine jN Z h (fun q21 h=>?_) (fun q21 h=>?_)
 ·refine jI (oN as' (jA (jK ?_)))
  cases h
  exact aD Z Z Z
 refine jG (jH (jI (oN mv (oN mv (oC h (fun _=>lM _) Z Z Z Z fun v22 _ h=>oC h (fun _=>vF _ _) Z Z Z Z fun v23 _ h=>oN (Kz.not Z) (jA ?_))))));refine jN Z h (fun q24 h=>?_) (fun q24 h=>?_)
 ·refine jI (oN as' (jA (jK ?_)))
  cases h
  exact aD Z Z Z
 refine jG (jI (oN as' (jA (jK ?_))))
 cases h
 exact aD Z Z Z

open Go.ChangeShapes Go.WideShapes Go.ChangeAt Go.RowKit Go.WideElems
def Ez (P:Program) (ns:List String):Bool:=ns.all fun n=>((P.globalNamed n).bind (P.globals[·]?)).all fun gl=>P.readableRec gl.type&&decide (gl.type<P.types.size)
theorem qP {H:Type} {enc:TypeId×Value->H} {P:Program} (hl:laidOutB P=true) {W W':World} (hb:Below W.heap.size W W') {sp:Nat->Bool} :
  ∀ {ns:List String} {gs:List (DataW H)} {ps:List MemPlace},Ez P ns=true->DataW.TrodVars enc P W (fun _=>true) ns gs ps->(∀ x∈ps,sp x.block=true)->DataW.TrodVars enc P W' sp ns gs ps
 | [],[],_,_,h,_=>h
 | [],_::_,_,_,h,_=>h.elim
 | _::_,[],_,_,h,_=>h.elim
 | n::ns,d::ds,ps,hv,h,hsp=>by
  have hlt:=h.lt;obtain ⟨g,t,cs,fuel,p,q,h1,h2,h3,h4,hs,e⟩:=h;simp only [Ez,List.all_cons,bae] at hv;have ht:P.readableRec t=true/\t<P.types.size:=by
   have := hv.1;rw [h1] at this
   cases hg:P.globals[g]? with
   | none=>rw [hg] at h2;cases h2
   | some gl=>
    rw [hg] at h2;obtain rfl:gl.type=t:=osl h2;simpa [hg] using this
  have hp:∀ x∈p,x.block<W.heap.size:=fun x hx=>hlt x (by rw [e];simp [hx]);have h3':W'.var? P n=some cs:=by
   unfold World.var? at h3 ⊢;rw [h1] at h3 ⊢;simp only [Option.bind_some] at h3 ⊢;have hg:g<W.heap.size:=by
    cases hh:W.heap[g]? with
    | none=>rw [hh] at h3;cases h3
    | some o=>exact (Array.getElem?_eq_some_iff.1 hh).1
   rw [hb.block g hg];exact h3
  exact ⟨g,t,cs,fuel,p,q,h1,h2,h3',DataW.trod_stays (kids_book hl ht.1) (book_sized ht.1) (fun h=>by cases h) ⟨ht.2,book_self t⟩ h4 (fun x hx=>hb.same (hp x hx)) (fun x hx=>hsp x (by rw [e];simp [hx])),
   qP hl hb (by simpa [Ez] using hv.2) hs (fun x hx=>hsp x (by rw [e];simp [hx])),e⟩
theorem EA {P:Program} {W:World} {n:String} {d:DataW Unit} {g t e:Nat} {ss:List ByteArray} {l:List (String×DataW Unit)} (hm:laidMetH P l W) (hf:(l.filter fun x=>x.1==n)=[(n,d)]) (hn:d.handleName?.isNone=true)
  (hg:P.globalNamed n=some g) (ht:(P.globals[g]?).map (·.type)=some t) (hu:P.underlying t=some (.array ss.length e)) (hs:P.underlying e=some .string) (hc:P.cellsOf e=1) (hd:d = .agg (ss.map fun s => .lit (.string s.data.toList))) :
  ∀ j,j<ss.length->W.cell? ⟨g,j,none⟩=(ss[j]?).map .string:=by
 have h1:=hm.filter fun x=>x.1==n;rw [hf,MakeChecks.laidMetH_plain _ _ _ (by simp [hn])] at h1;obtain ⟨ps,⟨g',t',cs,fuel,p,q,hg',ht',hv,hr,_,_⟩,_,_⟩:=h1;obtain rfl:=osl (hg.symm.trans hg');obtain rfl:=osl (ht.symm.trans ht');obtain ⟨xs,m,_,ex,hlen,hl,hel⟩:=DataW.trod_array hu hr;intro j hj;have hE:=hel j hj;rw [hc,Nat.mul_one,geq (by omega)] at hE;obtain ⟨s,e1,e2,_⟩:=DataW.trod_string hs hE;have e3:xs.map (·.1)=ss.map fun s => .lit (.string s.data.toList):=by
  have := (Prod.mk.inj ex).1;rw [hd] at this;exact (DataW.agg.inj this).symm
 have e4:(xs.map (·.1))[j]? = (ss.map fun s=>(DataW.lit (.string s.data.toList):DataW Unit))[j]? := by rw [e3]
 rw [Qd,Qd,geq (by omega:j<xs.length),geq hj,e2] at e4;simp only [Option.map_some,sie,DataW.lit.injEq,Lit.string.injEq] at e4;have e5:s=ss[j]:=by
  cases s with | mk a=>cases hb:ss[j] with | mk b=>rw [hb] at e4;exact congrArg _ (Array.toList_inj.1 e4)
 rw [World.var?_cell hg hv j,geq hj,<- e5];have h0:((cs.toList.drop j).take 1)[0]? = some (.string s):=by rw [e1];rfl
 simpa using h0
theorem Hw {W:World} {g:Nat} {ss:List ByteArray} (h:∀ j,j<ss.length->W.cell? ⟨g,j,none⟩=(ss[j]?).map .string) (h0:0<ss.length) :
  FRel W (fun g=>g<W.heap.size) (.fp (ss.map fun s => .v (.string s)) 0) (.pointer (some ⟨g,0,none⟩)):=by
 have hlt:g<W.heap.size:=World.block_lt_of_cell? W ⟨g,0,none⟩ (u:=.string ss[0]) (by rw [h 0 h0,geq h0];rfl);have hrow:∀ (j:Nat) (c:AV),(ss.map fun s=>AV.v (.string s))[j]? = some c->∃ hj:j<ss.length,c = .v (.string ss[j]):=fun j c hc=>by
  rw [Qd] at hc
  by_cases hj:j<ss.length
  ·rw [geq hj] at hc;exact ⟨hj,(osl hc).symm⟩
  rw [gen (by omega)] at hc;cases hc
 refine .fp (o:=0) (fun j => .string (ss[j]?.getD ByteArray.empty)) hlt hlt (fun j c hc=>?_) (fun j c hc=>rfl) (fun j c hc=>?_)
 ·obtain ⟨hj,rfl⟩:=hrow j c hc;rw [Nat.zero_add,h j hj,geq hj];rfl
 obtain ⟨hj,rfl⟩:=hrow j c hc;rw [geq hj];exact .v rfl
end
end Go.Proofs.YtpkhamajimidnaaGreatDoor
