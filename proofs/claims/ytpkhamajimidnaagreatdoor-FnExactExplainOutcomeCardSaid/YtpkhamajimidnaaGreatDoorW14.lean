/- Texts joined. No conditions. -/
import Derived.Test.YtpkhamajimidnaaGreatDoorW13
namespace Go.Proofs.YtpkhamajimidnaaGreatDoor
noncomputable section
open _root_.List renaming replicate -> Wd, eq_nil_of_length_eq_zero -> We, length_set -> Wh, length_singleton -> Wi
set_option maxHeartbeats 4000000
open Go.RowKit
set_option maxRecDepth 100000
theorem vN (p:List (List Px)) (x:Py) (m:List ah) {q} (h:ko p x m=some q):au Tryz.prog 69 [eL (cL Px.c) p,.agg (Py.c x),eL ah.c m] (.tup [I q.1,eL cI q.2]):=by
 refine pM Tryz.func69 Z (by kernel_rfl) Z (jI (oN (Pt.bxF [eL cI x.From,eL (cL cI) x.Order] Z Z Z) (oN as' (oN as' (jA ?_)))));obtain ⟨Ks1,es1,ws1,h,ks1⟩:=qB h;refine T.join (S:=Unit) (G:=Unit) (λs1=>Ks1 s1=some q) (λs1 gh=>True) (λs1 gh=>[]) (λs1 gh=>[]) (λs1 gh h hg=>?_) ?_
 ·clear ks1;subst es1;refine jI (oN as' (oN as' (jA (jK ?_))));obtain rfl:=Pw h
  repeat (first|refine iA ?_|refine iB ?_)
  exact jQ (vs:=[I (-1:Int),.nil]) (.cons (.tmp Z) (.cons (.tmp Z) .nil)) (.tupL (.cons (qC Z) (.cons .nil0 .nil)))
 refine jI (oN mv (oN (Pt.lenL zU Z) (oN mv (jA (jE ?_)))));refine T.lU h (λs4=>[(13,I s4),(12,I (m.length:Int)),(11,eL ah.c m),(4,.fp (Py.c x) 0),(0,eL (cL Px.c) p)]) (λs4=>[]) (kw Z Z) (λs4 ws4 h=>?_);let d0:=(ah.c (⟨(J m s4).Kind,((J m s4).Expr)⟩:ah));refine jI (oN (Pt.ilt Z Z) (jA (jH ?_)));refine jN Z h (λq6 h=>?_) (λq6 h=>?_)
 ·refine jG (jH (jE (jI (oN mv (jD h λg7 h=>oN (Pt.ixL zU Z Z g7 qD) (oN (lf (.agg (ah.c (J m s4))) Jc Z) (oA (EvA.al NW Z Z) (oN as' (oV (sr d0 Jc Z Z Z Z) (jA (jI (oN mv (oN (lf (.agg (Py.c x)) pE Z) (oN (fa Gy Z) ?_))))))))))))));refine oA (lh (.agg (aa.c ((J m s4).Expr))) xS Z Z Z) (oC h (λ_=>zB _ _ _) Z Z Z Z λv8 _ h=>oN as' (jA (jI (oN (fa Gy Z) (oA (lh (I ((J m s4).Kind)) PL Z Z Z) (oN mv (oC h (λ_=>wU _ _) Z Z Z Z λv9 _ h=>oN (Pt.not Z) (jA ?_))))))));refine jN Z h (λq10 h=>?_) (λq10 h=>?_)
  ·refine jH (T.clean (H0:=[some ⟨0,4,65,[d0]⟩]) (e0:=ai [(10,eL cI v8),(8,I s4)]) Z (Ps Z (Ps Z Pq)) (jC (oN mv (oN mv (oN as' (oN as' (jA (jK (lX h λh=>?_)))))))));obtain rfl:=Pw h;replace h:=congrArg some (show _=_ from ks1);obtain rfl:=Pw h
   repeat (first|refine iA ?_|refine iB ?_)
   exact jQ (vs:=[I s4,eL cI v8]) (.cons (.tmp Z) (.cons (.tmp Z) .nil)) (.tupL (.cons (qC Z) (.cons (qC Z) .nil)))
  refine jG (T.clean (H0:=[some ⟨0,4,65,[d0]⟩]) (e0:=ai [(13,I s4),(12,I (m.length:Int)),(11,eL ah.c m),(4,.fp (Py.c x) 0),(0,eL (cL Px.c) p)]) Z (Ps Z (Ps Z (Ps Z (Ps Z (Ps Z Pq))))) (jC (jW h λg11 h=>oN (Pt.add Z Z g11) (oN mv (jA ?_)))));exact lE h (ow Z .nil (ae (.fz (qC Z)) (ae (.fz (qC Z)) (ae (.fz (qC Z)) (ae (.fz (qC Z)) (ae (.fz (qC Z)) aN))))))
 refine jM (lX h λh=>?_)
 cases h
 exact ⟨(),(),ks1,trivial,kw Z Z⟩
theorem qG (i:Int) {q} (h:lY i=some q):au Tryz.prog 205 [I i] (St q):=by
 refine pM Tryz.func205 Z (by kernel_rfl) Z (jI (oN as' (jA (jH (jI (oN mv (oN (Pt.ilt Z Z) (jA ?_))))))));refine jN Z h (λq1 h=>?_) (λq1 h=>?_)
 ·refine jI (oN mv (oN mv (jW h λg2 h=>oN (Pt.add Z Z g2) (jD h λg3 h=>oN (Pt.slst Tryz.underlying9 Z (.yes Z) (.yes Z) g3) (oN as' (jA (jK ?_)))))))
  cases h
  exact aF Z Z Z
 refine jG (jI (oN mv (jW h λg4 h=>oN (Pt.mul Z Z g4) (oN mv (oN (Pt.mul Z Z g4) (jW h λg5 h=>oN (Pt.add Z Z g5) (jD h λg6 h=>oN (Pt.slst Tryz.underlying9 Z (.yes Z) (.yes Z) g6) (oN as' (jA (jK ?_))))))))))
 cases h
 exact aF Z Z Z
theorem om (i:Int) (base:Int) {q} (h:iY i base=some q):au Tryz.prog 177 [I i,I base] (St q):=by
 refine pM Tryz.func177 Z (by kernel_rfl) Z (jI (oN as' (jA (jH (jI (oN mv (oN (Pt.ieq Z Z) (jA ?_))))))));refine jN Z h (λq1 h=>?_) (λq1 h=>?_)
 ·refine jH (jI (oN mv (oN (Pt.ile Z Z) (oN mv ?_))));refine TO.jB h 3 (λs2=>[(17,Bo s2),(0,I i)]) (λs2=>[]) (λs2 q3 h js2=>?_) (λs2 q3 h js2=>?_) (λs2 h=>?_)
  ·refine gN Z q3 mv (gN Z q3 (Pt.ilt Z Z) (oN (Pt.pickT Z q3 (Bo (decide (i<(100:Int)))) Z) ?_))
   cases h
   exact js2 _ _ (kw Z Z)
  ·refine gS Z q3 (gS Z q3 (oN (Pt.pickF Z q3 (Bo false) Z) ?_))
   cases h
   exact js2 _ _ (kw Z Z)
  refine jA ?_;refine jN Z h (λq4 h=>?_) (λq4 h=>?_)
  ·refine jI (oN mv (oC h (λ_=>qG _) Z Z Z Z λv5 _ h=>oN as' (jA (jK ?_))))
   cases h
   exact aF Z Z Z
  cases h
 cases h
theorem rA (i:Int) {q} (h:mK i=some q):au Tryz.prog 120 [I i] (St q):=by
 refine pM Tryz.func120 Z (by kernel_rfl) Z (jI (oN as' (jA (jI (oN mv (oC h (λ_=>om _ _) Z Z Z Z λv1 _ h=>oN as' (jA (jK ?_))))))))
 cases h
 exact aF Z Z Z
theorem iK (i:Int) {q} (h:aT i=some q):au Tryz.prog 70 [I i] (St q):=by
 refine pM Tryz.func70 Z (by kernel_rfl) Z (jI (oN as' (jA (jI (oN mv (oC h (λ_=>rA _) Z Z Z Z λv1 _ h=>oN as' (jA (jK ?_))))))))
 cases h
 exact aF Z Z Z
theorem wV (r_:LI) (start:Int) {q} (h:kY r_ start=some q):au Tryz.prog 122 [eL cI r_,I start] (nE cI q):=by
 refine pM Tryz.func122 Z (by kernel_rfl) Z (jI (oN as' (jA (jI (oN as' (jA ?_))))));obtain ⟨Ks1,es1,ws1,h,ks1⟩:=qB h;refine T.join (S:=Unit) (G:=Unit) (λs1=>Ks1 s1=some q) (λs1 gh=>True) (λs1 gh=>[]) (λs1 gh=>[]) (λs1 gh h hg=>?_) ?_
 ·clear ks1;subst es1;refine jI (oN as' (jA (jK ?_)));obtain rfl:=Pw h
  repeat (first|refine iA ?_|refine iB ?_)
  exact jQ (vs:=[.nil]) (.cons (.tmp Z) .nil) .nil
 refine jI (oN mv (oN (Pt.mkF (c:=cI) ([start]:LI) [[I start]] aD Z Z Z qD qD Z) (oA (EvA.mkO (c:=(cL cI)) ([([start]:LI)]:LL) [[eL cI ([start]:LI)]] gT Z Z Z qD Z Z) (oN (Pt.asg (hS false 0 0 1 (([([start]:LI)]:LL).length)) Z) (jA (jE ?_))))));refine jO (S:=(LL)×Int) (G:=Nat) (lN r_ start) (λs5 gh=>True) (λs5 gh=>[(6,hS false 0 gh 1 s5.1.length),(5,I s5.2),(0,eL cI r_),(1,I start)]) (λs5 gh=>[bE false gh 1 23 (s5.1.map (cL cI))]) (s0:=(([([start]:LI)]:LL),U)) 0 h trivial (kw Z Z) (λs5 u7 ws5 h hg=>?_);refine jH (jI (oN mv (oN (Pt.lenO (g:=false) gT Z nofun) (oN (Pt.igt Z Z) (jA ?_)))));refine jN Z h (λq8 h=>?_) (λq8 h=>?_)
 ·refine jG ?_;obtain ⟨Ks9,es9,ws9,h,ks9⟩:=qB h;refine T.join (S:=(LL)×Int) (G:=Nat) (λs9=>Ks9 s9=some ws5) (λs9 gh=>True) (λs9 gh=>[(6,hS false 0 gh 1 s9.1.length),(5,I s9.2),(0,eL cI r_),(1,I start)]) (λs9 gh=>[bE false gh 1 23 (s9.1.map (cL cI))]) (λs9 u37 h hg=>?_) ?_
  ·clear ks9;subst es9;refine jC (oN mv (jD h λg38 h=>oA (EvA.cutO (l:=s9.1) (zl:=V) (zh:=(s9.1.length:Int)) (Pt.slhs Tryz.underlying24 mZ (l:=V) (h:=(s9.1.length:Int)) Z (.yes Z) .no g38) Z Z g38) (oN (Pt.asg (hS false 0 (u37+1) 1 (((s9.1.drop V.toNat).take ((s9.1.length:Int).toNat-V.toNat)).length)) Z) (jA ?_))));obtain rfl:=Pw h;exact ⟨(((s9.1.drop V.toNat).take ((s9.1.length:Int).toNat-V.toNat)),s9.2),u37+1,Z,trivial,kw Z Z⟩
  refine jE (jI (oN mv (jD h λg10 h=>oN (Pt.ixO (g:=false) gT Z Z nofun g10) (oA (EvA.ldO (g:=false) (l:=s5.1) (eL cI (s5.1.getD (U.toNat) default)) mZ Z Z nofun (aH Z g10) Z) (oN as' (jA (jI (oN mv (oN mv (oN (Pt.lenL aD Z) (jW h λg11 h=>oN (Pt.sub Z Z g11) (jD h λg12 h=>oN (Pt.ixL aD Z Z g12 qD) ?_))))))))))));refine oN (lf (I (J (s5.1.getD (U.toNat) default) (((s5.1.getD (U.toNat) default).length:Int)-V))) PL Z) (oN as' (jA (jH (jI (oN mv (oN mv (oN mv (oC h (λ_=>eY _ _ _) Z Z Z Z λv13 _ h=>jA ?_))))))));refine jN Z h (λq14 h=>?_) (λq14 h=>?_)
  ·refine jH (T.clean (H0:=[bE false u7 1 23 (s5.1.map (cL cI))]) (e0:=ai [(7,eL cI (s5.1.getD (U.toNat) default))]) Z (Ps Z Pq) (jC (oN mv (oN as' (jA (jK (jD h λgE h=>?_)))))));obtain rfl:=Pw h;replace h:=congrArg some (show _=_ from ks9);refine lX h λh=>?_;obtain rfl:=Pw h;replace h:=congrArg some (show _=_ from ks1);obtain rfl:=Pw h
   repeat (first|refine iA ?_|refine iB ?_)
   exact jQ (vs:=[eL cI (s5.1.getD (U.toNat) default)]) (.cons (.tmp Z) .nil) ((OM gE).symm ▸ (qC Z))
  refine jG (jH (T.clean (H0:=[bE false u7 1 23 (s5.1.map (cL cI))]) (e0:=ai [(8,I (J (s5.1.getD (U.toNat) default) (((s5.1.getD (U.toNat) default).length:Int)-V))),(7,eL cI (s5.1.getD (U.toNat) default)),(6,hS false 0 u7 1 s5.1.length),(5,I s5.2),(0,eL cI r_),(1,I start)]) Z (Ps Z (Ps Z (Ps Z (Ps Z (Ps Z (Ps Z Pq)))))) (jC (oN mv (oN (Pt.lenL aD Z) (oN mv (jA (jE ?_))))))));refine jO (S:=(LL)×Int×Int) (G:=Nat) (f8 r_ s5) (λs18 gh=>True) (λs18 gh=>[(34,I s18.2.1),(33,I (r_.length:Int)),(8,I (J (s5.1.getD (U.toNat) default) (((s5.1.getD (U.toNat) default).length:Int)-V))),(7,eL cI (s5.1.getD (U.toNat) default)),(6,hS false 0 gh 1 s18.1.length),(5,I s18.2.2),(0,eL cI r_),(1,I start)]) (λs18 gh=>[bE false gh 1 23 (s18.1.map (cL cI))]) (s0:=(s5.1,U,s5.2)) u7 h trivial (kw Z Z) (λs18 u20 ws18 h hg=>?_);refine jI (oN (Pt.ilt Z Z) (jA (jH ?_)));refine jN Z h (λq21 h=>?_) (λq21 h=>?_)
  ·refine jG ?_;refine T.jF (G:=Nat) h (λs22 gh=>True) (λs22 gh=>[(6,hS false 0 gh 1 s22.1.length),(5,I s22.2),(34,I s18.2.1),(33,I (r_.length:Int)),(8,I (J (s5.1.getD (U.toNat) default) (((s5.1.getD (U.toNat) default).length:Int)-V))),(7,eL cI (s5.1.getD (U.toNat) default)),(0,eL cI r_),(1,I start)]) (λs22 gh=>[bE false gh 1 23 (s22.1.map (cL cI))]) (λs22 u35 h hg=>?_) (λs22 h=>?_)
   ·refine jC (jW h λg36 h=>oN (Pt.add Z Z g36) (oN mv (jA ?_)));obtain rfl:=Pw h;exact ⟨(s22.1,(s18.2.1+V),s22.2),u35,Z,trivial,kw Z Z⟩
   refine jE (jI (oN mv (oN as' (jA (jI (oN mv (oN mv (oN mv (oC h (λ_=>eY _ _ _) Z Z Z Z λv23 _ h=>oN mv ?_)))))))));refine TO.jB h 6 (λs24=>[(47,Bo s24),(9,I s18.2.1),(34,I s18.2.1),(33,I (r_.length:Int)),(8,I (J (s5.1.getD (U.toNat) default) (((s5.1.getD (U.toNat) default).length:Int)-V))),(7,eL cI (s5.1.getD (U.toNat) default)),(6,hS false 0 u20 1 s18.1.length),(5,I s18.2.2),(0,eL cI r_),(1,I start)]) (λs24=>[bE false u20 1 23 (s18.1.map (cL cI))]) (λs24 q25 h js24=>?_) (λs24 q25 h js24=>?_) (λs24 h=>?_)
   ·refine gN Z q25 mv (gN Z q25 mv (jD h λg26 h=>gN Z q25 (Pt.shr Z Z g26) (gN Z q25 (Pt.band Z Z) (gN Z q25 (Pt.ieq Z Z) (oN (Pt.pickT Z q25 (Bo ((eF .i64 (jw .i64 s18.2.2 s18.2.1) V)==U)) Z) ?_)))))
    cases h
    exact js24 _ _ (kw Z Z)
   ·refine gS Z q25 (gS Z q25 (gS Z q25 (gS Z q25 (gS Z q25 (oN (Pt.pickF Z q25 (Bo false) Z) ?_)))))
    cases h
    exact js24 _ _ (kw Z Z)
   refine jA ?_;refine jN Z h (λq27 h=>?_) (λq27 h=>?_)
   ·refine jI (oN mv (oN mv (jD h λg28 h=>oN (Pt.shl Z Z g28) (oN (Pt.bor Z Z) (oN as' (jA (jC (oN mv (oN mv (jB h λv29 cv29 h=>?_))))))))));refine oG Z Z Z ((bM (s5.1.getD (U.toNat) default) cv29).own Z (qF qD) qI 1 Z) (λg30 v31 n32=>?_);refine oN mv (oN (Pt.mkF (c:=cI) ([s18.2.1]:LI) [[I s18.2.1]] aD Z Z Z qD qD Z) (jL h λg33 h=>oA (EvA.app1 (g:=g30) (l:=v29) s18.2.1 aD (by kernel_rfl) Z Z Z (λx=>We (n32 x)) (bf.fz (l:=([s18.2.1]:LI)) Z qD) g33) (oA (EvA.mkR [[hS false 1 (v31+1) 1 ((v29++[s18.2.1]).length)]] gT Z Z Z Z) (jL h λg34 h=>oA (EvA.appR (g:=false) (rows:=s18.1.map (cL cI)) (rows':=s18.1.map (cL cI)++[[hS false 1 (v31+1) 1 ((v29++[s18.2.1]).length)]]) (n':=s18.1.length+1) gT (by kernel_rfl) Z Z (by simp) nofun (bf.raw (rows:=[[hS false 1 (v31+1) 1 ((v29++[s18.2.1]).length)]]) Z Z Z) g34 Z Z) (oN (Pt.asg (hS false 0 (u20+1) 1 (s18.1.length+1)) Z) (jA ?_))))));obtain rfl:=Pw h;exact ⟨u20+1,trivial,ow Z (.cons (.snoc qD (.cons (.cons (.fz (Fz.own (g:=false) (ver:=v31+1) (l:=(v29++[s18.2.1])) Z Z Z nofun qD)) .nil) .nil)) .nil) (ae (.eqv (congrArg (hS false 0 (u20+1) 1) (by simp:(s18.1.length+1)=(s18.1++[(v29++[s18.2.1])]).length)) (.hS (g:=false) (b:=0) (ver:=u20+1) (s:=1) (n:=(s18.1++[(v29++[s18.2.1])]).length) Z)) (ae (.fz (qC Z)) (ae (.fz (qC Z)) (ae (.fz (qC Z)) (ae (.fz (qC Z)) (ae (.fz (qC Z)) (ae (.fz (qC Z)) (ae (.fz (qC Z)) aN))))))))⟩
   refine jG ?_
   cases h
   exact ⟨u20,trivial,kw Z Z⟩
  refine jM (lX h λh=>?_);obtain rfl:=Pw h;exact ⟨(s18.1,s18.2.2),u20,ks9,trivial,kw Z Z⟩
 refine jM (lX h λh=>?_)
 cases h
 exact ⟨(),(),ks1,trivial,ow Z .nil aN⟩
theorem wW (r_:LI) {q} (h:kZ r_=some q):au Tryz.prog 71 [eL cI r_] (eL cI q):=by
 refine pM Tryz.func71 Z (by kernel_rfl) Z (jI (oN as' (jA (jH (jI (oN mv (oC h (λ_=>cE _) Z Z Z Z λv1 _ h=>oN (Pt.not Z) (jA ?_))))))));refine jN Z h (λq2 h=>?_) (λq2 h=>?_)
 ·refine jI (oN as' (jA (jK ?_)));obtain rfl:=Pw h
  repeat (first|refine iA ?_|refine iB ?_)
  exact jQ (vs:=[.nil]) (.cons (.tmp Z) .nil) .nil0
 refine jG (jI (oN as' (jA ?_)));refine T.jU h (λs3=>[(3,nE cI s3)]) (λs3=>[]) (λs3 h=>?_) (λs3 h=>?_)
 ·refine jI (oN mv (oN as' (jA (jK ?_))));obtain rfl:=Pw h
  repeat (first|refine iA ?_|refine iB ?_)
  exact jQ (vs:=[nE cI s3]) (.cons (.tmp Z) .nil) (Fz.eqv (.of_isF 9 _ (NI s3)) (NJ s3))
 refine jI (oN mv (oN (Pt.lenL aD Z) (oN mv (jA (jE ?_)))));refine T.lU h (λs6=>[(11,I s6.1),(10,I (r_.length:Int)),(3,nE cI s6.2),(0,eL cI r_)]) (λs6=>[]) (kw Z Z) (λs6 ws6 h=>?_);refine jI (oN (Pt.ilt Z Z) (jA (jH ?_)));refine jN Z h (λq8 h=>?_) (λq8 h=>?_)
 ·refine jG ?_;refine T.jU h (λs9=>[(3,nE cI s9),(11,I s6.1),(10,I (r_.length:Int)),(0,eL cI r_)]) (λs9=>[]) (λs9 h=>?_) (λs9 h=>?_)
  ·refine jC (jW h λg16 h=>oN (Pt.add Z Z g16) (oN mv (jA ?_)));exact lE h (kw Z Z)
  refine jE (jI (oN mv (oN as' (jA (jI (oN mv (oN mv (oC h (λ_=>wV _ _) Z Z Z Z λv10 _ h=>oN as' (jA (jI (oN mv (oN (Pt.nilNe Tryz.underlying23 Z Z) (oN mv ?_)))))))))))));refine TO.jB h 10 (λs11=>[(29,Bo s11),(5,nE cI v10),(11,I s6.1),(10,I (r_.length:Int)),(3,nE cI s6.2),(0,eL cI r_)]) (λs11=>[]) (λs11 q12 h js11=>?_) (λs11 q12 h js11=>?_) (λs11 h=>?_)
  ·refine gN Z q12 mv (gN Z q12 (Pt.nilEq Tryz.underlying23 Z Z) (gN Z q12 mv ?_));refine TO.jB h 6 (λs13=>[(28,Bo s13),(22,Bo s6.2.isEmpty),(21,Bo s6.2.isEmpty),(20,nE cI s6.2),(19,Bo (!v10.isEmpty)),(5,nE cI v10),(11,I s6.1),(10,I (r_.length:Int)),(3,nE cI s6.2),(0,eL cI r_)]) (λs13=>[]) (λs13 q14 h js13=>?_) (λs13 q14 h js13=>?_) (λs13 h=>?_)
   ·refine gS Z q14 (gS Z q14 (gS Z q14 (gS Z q14 (gS Z q14 (gN Z q12 (Pt.pickT Z q14 (Bo true) Z) ?_)))))
    cases h
    exact js13 _ _ (kw Z Z)
   ·refine gN Z q14 mv (gN Z q14 (Pt.lenE aD Z) (gN Z q14 mv (gN Z q14 (Pt.lenE aD Z) (gN Z q14 (Pt.ilt Z Z) (gN Z q12 (Pt.pickF Z q14 (Bo (decide ((v10.length:Int)<(s6.2.length:Int)))) Z) ?_)))))
    cases h
    exact js13 _ _ (kw Z Z)
   refine oN (Pt.pickT Z q12 (Bo s13) Z) ?_
   cases h
   exact js11 _ _ (kw Z Z)
  ·refine gS Z q12 (gS Z q12 (gS Z q12 (gU Z (gU Z (gU Z (gU Z (gU Z (gS Z q12 (oN (Pt.pickF Z q12 (Bo false) Z) ?_)))))))))
   cases h
   exact js11 _ _ (kw Z Z)
  refine jA ?_;refine jN Z h (λq15 h=>?_) (λq15 h=>?_)
  ·refine jC (oN mv (oN as' (jA ?_)))
   cases h
   exact ⟨(),trivial,kw Z Z⟩
  refine jG ?_
  cases h
  exact ⟨(),trivial,kw Z Z⟩
 refine jM (lX h λh=>?_)
 cases h
 exact ⟨(),trivial,kw Z Z⟩
theorem wX (x:Px) {q} (h:iE x=some q):au Tryz.prog 123 [.agg (Px.c x)] (St q):=by
 refine pM Tryz.func123 Z (by kernel_rfl) Z (jI (oN (Pt.bxF [I x.Op,I x.Loc,I x.Reg,I x.Val] Z Z Z) (oN as' (jA (jH (jP (λ_=>([],false)) (by kernel_rfl) (by kernel_rfl) (fN Z (fa p6 Z) (fN Z (lf (I x.Loc) PL Z) (fN Z (fa p6 Z) (fN Z (lf (I x.Loc) PL Z) (jW h λg1 h=>fN Z (Pt.add Z Z g1) (jD h λg2 h=>fN Z (Pt.slst Tryz.underlying9 Z (.yes Z) (.yes Z) g2) (fN Z (fa p6 Z) ?_)))))))))))));refine fN Z (lf (I x.Reg) PL Z) (fN Z (fa p6 Z) (fN Z (lf (I x.Reg) PL Z) (jW h λg3 h=>fN Z (Pt.add Z Z g3) (jD h λg4 h=>fN Z (Pt.slst Tryz.underlying9 Z (.yes Z) (.yes Z) g4) (fN Z (fa p6 Z) (fN Z (lf (I x.Val) PL Z) (fN Z (fa p6 Z) (fN Z (lf (I x.Val) PL Z) (jW h λg5 h=>fN Z (Pt.add Z Z g5) (jD h λg6 h=>fN Z (Pt.slst Tryz.underlying9 Z (.yes Z) (.yes Z) g6) (fN Z as' ?_)))))))))));refine fN Z as' (fN Z as' (jR (jH (jH (T.clean (H0:=[]) (e0:=ai [(5,St ((⟨#[48,49,50,51,52,53,54,55,56,57]⟩:ByteArray).extract x.Val.toNat (x.Val+V).toNat)),(4,St ((⟨#[97,98,99]⟩:ByteArray).extract x.Reg.toNat (x.Reg+V).toNat)),(3,St ((⟨#[120,121,122]⟩:ByteArray).extract x.Loc.toNat (x.Loc+V).toNat)),(1,.fp (Px.c x) 0)]) Z (Ps Z (Ps Z (Ps Z (Ps Z Pq)))) (jC (oN (fa p6 Z) (oN (lf (I x.Op) PL Z) (jA (jE (jI (oN (Pt.ieq Z Z) (oN as' (jA ?_))))))))))))));refine jN Z h (λq7 h=>?_) (λq7 h=>?_)
 ·refine jI (oN mv (jD h λg8 h=>oN (Pt.cat Z Z g8) (oN mv (jD h λg9 h=>oN (Pt.cat Z Z g9) (oN as' (jA (jK ?_)))))))
  cases h
  exact aF Z Z Z
 refine jI (oN (Pt.ieq Z Z) (oN as' (jA ?_)));refine jN Z h (λq10 h=>?_) (λq10 h=>?_)
 ·refine jI (oN mv (jD h λg11 h=>oN (Pt.cat Z Z g11) (oN mv (jD h λg12 h=>oN (Pt.cat Z Z g12) (oN as' (jA (jK ?_)))))))
  cases h
  exact aF Z Z Z
 refine jI (oN (Pt.ieq Z Z) (oN as' (jA ?_)));refine jN Z h (λq13 h=>?_) (λq13 h=>?_)
 ·refine jI (oN mv (jD h λg14 h=>oN (Pt.cat Z Z g14) (oN mv (jD h λg15 h=>oN (Pt.cat Z Z g15) (oN as' (jA (jK ?_)))))))
  cases h
  exact aF Z Z Z
 refine jI (oN (Pt.ieq Z Z) (oN as' (jA ?_)));refine jN Z h (λq16 h=>?_) (λq16 h=>?_)
 ·refine jI (oN mv (jD h λg17 h=>oN (Pt.cat Z Z g17) (oN mv (jD h λg18 h=>oN (Pt.cat Z Z g18) (jD h λg19 h=>oN (Pt.cat Z Z g19) (oN mv (jD h λg20 h=>oN (Pt.cat Z Z g20) (oN as' (jA (jK ?_))))))))))
  cases h
  exact aF Z Z Z
 refine jG (jI (oN as' (jA (jK ?_))))
 cases h
 exact aF Z Z Z
theorem wY (p:List (List Px)) (e_:Pz) {q} (h:eQ p e_=some q):au Tryz.prog 72 [eL (cL Px.c) p,.agg (Pz.c e_)] (St q):=by
 refine pM Tryz.func72 Z (by kernel_rfl) Z (jI (oN (Pt.bxF [I e_.Thread,I e_.Index,I e_.Loc,Bo e_.Reads,Bo e_.az] Z Z Z) (oN as' (jA (jH (jI (oN (fa dA Z) (oN (lf (I e_.Thread) PL Z) (oN (Pt.ilt Z Z) (jA ?_))))))))));refine jN Z h (λq1 h=>?_) (λq1 h=>?_)
 ·refine jI (oN (fa dA Z) (oN (lf (I e_.Loc) PL Z) (oN (fa dA Z) (oN (lf (I e_.Loc) PL Z) (jW h λg2 h=>oN (Pt.add Z Z g2) (jD h λg3 h=>oN (Pt.slst Tryz.underlying9 Z (.yes Z) (.yes Z) g3) (jD h λg4 h=>oN (Pt.cat Z Z g4) (oN as' (jA (jK ?_))))))))))
  cases h
  exact aF Z Z Z
 refine jG (jH (jP (λ_=>([],false)) (by kernel_rfl) (by kernel_rfl) (fN Z (fa dA Z) (fN Z (lf (I e_.Thread) PL Z) (fC h (λ_=>iK _) Z Z Z Z Z λv5 _ h=>jD h λg6 h=>fN Z (Pt.cat Z Z g6) (fN Z mv (fN Z (fa dA Z) (fN Z (lf (I e_.Thread) PL Z) (jD h λg7 h=>fN Z (Pt.ixL yM Z Z g7 qD) (fN Z (lf (eL Px.c (J p e_.Thread)) Ed Z) (fN Z (fa dA Z) (fN Z (lf (I e_.Index) PL Z) ?_))))))))))));refine jD h λg8 h=>fN Z (Pt.ixL AP Z Z g8 qD) (fN Z (lf (.agg (Px.c (J (J p e_.Thread) e_.Index))) Bm Z) (fC h (λ_=>wX _) Z Z Z Z Z λv9 _ h=>jD h λg10 h=>fN Z (Pt.cat Z Z g10) (fN Z as' (jR (jK ?_)))))
 cases h
 exact aF Z Z Z
theorem zC (p:List (List Px)) (x:Py) (m:List ah) {q} (h:aY p x m=some q):au Tryz.prog 32 [eL (cL Px.c) p,.agg (Py.c x),eL ah.c m] (St q):=by
 refine pM Tryz.func32 Z (by kernel_rfl) Z (jI (oN (Pt.bxF [eL cI x.From,eL (cL cI) x.Order] Z Z Z) (oN as' (jA (jH (jI (oN mv (oN (lf (.agg (Py.c x)) pE Z) (oC h (λ_=>rY _ _) Z Z Z Z λv1 _ h=>oN mv (oN (Pt.ext (eL cI v1.1) Z Z) (oN (Pt.ext (Bo v1.2) Z Z) (oN as' (oN as' (jA ?_))))))))))))));refine jI (oN mv (oN (Pt.not Z) (jA ?_)));refine jN Z h (λq2 h=>?_) (λq2 h=>?_)
 ·refine jI (oN as' (jA (jK ?_)))
  cases h
  exact aF Z Z Z
 refine jG (jI (oN mv (oN (lf (.agg (Py.c x)) pE Z) (oN mv (oC h (λ_=>vN _ _ _) Z Z Z Z λv3 _ h=>oN mv (oN (Pt.ext (I v3.1) Z Z) (oN (Pt.ext (eL cI v3.2) Z Z) (oN as' (oN as' (jA (jH (jH (T.clean (H0:=[]) (e0:=ai [(10,eL cI v3.2),(9,I v3.1),(0,eL (cL Px.c) p),(2,eL ah.c m)]) Z (Ps Z (Ps Z (Ps Z (Ps Z Pq)))) (jC ?_))))))))))))));refine oN mv (oN (Pt.ilt Z Z) (jA ?_));refine jN Z h (λq4 h=>?_) (λq4 h=>?_)
 ·refine jI (oN as' (jA (jK ?_)))
  cases h
  exact aF Z Z Z
 refine jG (jI (oN mv (oC h (λ_=>iK _) Z Z Z Z λv5 _ h=>jD h λg6 h=>oN (Pt.cat Z Z g6) (oN as' (jA (jH (jI (oN mv (oN mv (jD h λg7 h=>oN (Pt.ixL zU Z Z g7 qD) (oN (fa Gy Z) (oN (lf (I ((J m v3.1).Kind)) PL Z) ?_))))))))))));refine oN (Pt.ine Z Z) (jA ?_);refine jN Z h (λq8 h=>?_) (λq8 h=>?_)
 ·refine jI (oN mv (oN as' (jA (jK ?_))))
  cases h
  exact aF Z Z Z
 refine jG (jI (oN mv (oC h (λ_=>jp _) Z Z Z Z λv9 _ h=>oN as' (jA (jH (T.reserve (jC (oN (Pt.asg (hS true 0 0 1 (([]:List ByteArray).length)) Z) (jA ?_)))))))));refine T.jF (G:=(Bool×Nat)) h (λs10 gh=>(gh.1=true->s10=[])) (λs10 gh=>[(13,hS gh.1 0 gh.2 1 s10.length),(11,St ((⟨#[114,117,108,101,32]⟩:ByteArray)++v5))]) (λs10 gh=>[bE gh.1 gh.2 1 9 (s10.map cS)]) (λs10 gh h n30=>?_) (λs10 h=>?_)
 ·obtain ⟨b29,u28⟩:=gh;refine jI (oN mv (jD h λg31 h=>oN (Pt.cat Z Z g31) (oN mv (jB h λv32 cv32 h=>oA (EvA.callT Z Z (oU s10 (⟨#[44,32]⟩:ByteArray) cv32) (.cons (Fz.own (g:=b29) (ver:=u28) (l:=s10) Z Z Z n30 qD) (.cons (qC Z) .nil)) Z) (jD h λg33 h=>oN (Pt.cat Z Z g33) (oN as' (jA (jK ?_))))))))
  cases h
  exact aF Z Z Z
 refine jI (oN mv (oC h (λ_=>wW _) Z Z Z Z λv11 _ h=>oN (Pt.lenL aD Z) (oN mv (jA (jE ?_)))));refine jO (S:=(List ByteArray)×Int) (G:=(Bool×Nat)) (iZ p v9 v11) (λs17 gh=>(gh.1=true->s17.1=[])) (λs17 gh=>[(48,I s17.2),(47,I (v11.length:Int)),(46,eL cI v11),(13,hS gh.1 0 gh.2 1 s17.1.length),(12,eL Pz.c v9),(11,St ((⟨#[114,117,108,101,32]⟩:ByteArray)++v5)),(0,eL (cL Px.c) p)]) (λs17 gh=>[bE gh.1 gh.2 1 9 (s17.1.map cS)]) (s0:=(([]:List ByteArray),U)) (true,0) h qD (kw Z Z) (λs17 gh ws17 h n21=>?_);obtain ⟨b20,u19⟩:=gh;refine jI (oN (Pt.ilt Z Z) (jA (jH ?_)));refine jN Z h (λq22 h=>?_) (λq22 h=>?_)
 ·refine jG (jH (jE (jI (jD h λg23 h=>oN (Pt.ixL aD Z Z g23 qD) (oN (lf (I (J v11 s17.2)) PL Z) (oN as' (jA (jC (oN mv (oN mv (oN mv (oN mv (jD h λg24 h=>oN (Pt.ixL pG Z Z g24 qD) ?_)))))))))))));refine oN (lf (.agg (Pz.c (J v9 (J v11 s17.2)))) vB Z) (oC h (λ_=>wY _ _) Z Z Z Z λv25 _ h=>oN (Pt.mkF (c:=cS) ([v25]:List ByteArray) [[St v25]] AR Z Z Z qD qD Z) (jL h λg26 h=>oA (EvA.app1 (g:=b20) (l:=s17.1) v25 AR (by kernel_rfl) Z Z Z n21 (bf.fz (l:=([v25]:List ByteArray)) Z qD) g26) (oN (Pt.asg (hS false 0 (u19+1) 1 ((s17.1++[v25]).length)) Z) (jA (jC (jW h λg27 h=>oN (Pt.add Z Z g27) (oN mv (jA ?_))))))));obtain rfl:=Pw h;exact ⟨((s17.1++[v25]),(s17.2+V)),(false,u19+1),Z,nofun,kw Z Z⟩
 refine jM (lX h λh=>?_)
 cases h
 exact ⟨(b20,u19),n21,kw Z Z⟩
theorem zD (a:Px) (b:Px) {q} (h:nS a b=some q):au Tryz.prog 74 [.agg (Px.c a),.agg (Px.c b)] (Bo q):=by
 refine pM Tryz.func74 Z (by kernel_rfl) Z (jI (oN (Pt.bxF [I a.Op,I a.Loc,I a.Reg,I a.Val] Z Z Z) (oN (Pt.bxF (Px.c b) Z Z Z) (oN as' (jA (jH (jI (oN (fa p6 Z) (oN (lf (I a.Op) PL Z) (oN (fa p6 Z) (oN (lf (I b.Op) PL Z) (oN (Pt.ine Z Z) (jA ?_)))))))))))));refine jN Z h (λq1 h=>?_) (λq1 h=>?_)
 ·refine jI (oN as' (jA (jK ?_)))
  cases h
  exact aF Z Z Z
 refine jG (jH (jI (oN (fa p6 Z) (oN (lf (I a.Loc) PL Z) (oN (fa p6 Z) (oN (lf (I b.Loc) PL Z) (oN (Pt.ine Z Z) (jA ?_))))))));refine jN Z h (λq2 h=>?_) (λq2 h=>?_)
 ·refine jI (oN as' (jA (jK ?_)))
  cases h
  exact aF Z Z Z
 refine jG (jH (jI (oN (fa p6 Z) (oN (lf (I a.Reg) PL Z) (oN (fa p6 Z) (oN (lf (I b.Reg) PL Z) (oN (Pt.ine Z Z) (jA ?_))))))));refine jN Z h (λq3 h=>?_) (λq3 h=>?_)
 ·refine jH (T.clean (H0:=[]) (e0:=ai []) Z Pq (jC (oN as' (jA (jK ?_)))))
  cases h
  exact aF Z Z Z
 refine jG (jH (jH (T.clean (H0:=[]) (e0:=ai [(3,.fp (Px.c b) 0),(2,.fp (Px.c a) 0)]) Z (Ps Z (Ps Z Pq)) (jC (oN (fa p6 Z) (oN (lf (I a.Val) PL Z) (oN (fa p6 Z) (oN (lf (I b.Val) PL Z) (oN (Pt.ine Z Z) (jA ?_))))))))));refine jN Z h (λq4 h=>?_) (λq4 h=>?_)
 ·refine jI (oN as' (jA (jK ?_)))
  cases h
  exact aF Z Z Z
 refine jG (jI (oN as' (jA (jK ?_))))
 cases h
 exact aF Z Z Z
theorem yw (a:List Px) (b:List Px) {q} (h:mM a b=some q):au Tryz.prog 33 [eL Px.c a,eL Px.c b] (Bo q):=by
 refine pM Tryz.func33 Z (by kernel_rfl) Z (jI (oN as' (jA (jH (jI (oN mv (oN (Pt.lenL AP Z) (oN mv (oN (Pt.lenL AP Z) (oN (Pt.ine Z Z) (jA ?_)))))))))));refine jN Z h (λq1 h=>?_) (λq1 h=>?_)
 ·refine jI (oN as' (jA (jK ?_)))
  cases h
  exact aF Z Z Z
 refine jG ?_;obtain ⟨Ks2,es2,ws2,h,ks2⟩:=qB h;refine T.join (S:=Unit) (G:=Unit) (λs2=>Ks2 s2=some q) (λs2 gh=>True) (λs2 gh=>[]) (λs2 gh=>[]) (λs2 gh h hg=>?_) ?_
 ·clear ks2;subst es2;refine jI (oN as' (jA (jK ?_)))
  cases h
  exact aF Z Z Z
 refine jI (oN as' (jA (jE ?_)));refine T.lU h (λs5=>[(5,I s5),(0,eL Px.c a),(1,eL Px.c b)]) (λs5=>[]) (kw Z Z) (λs5 ws5 h=>?_);refine jH (jI (oN mv (oN mv (oN (Pt.lenL AP Z) (oN (Pt.ilt Z Z) (jA ?_))))));refine jN Z h (λq7 h=>?_) (λq7 h=>?_)
 ·refine jG (jH (jE (jH (jP (λ_=>([],false)) (by kernel_rfl) (by kernel_rfl) (fN Z mv (fN Z mv (jD h λg8 h=>fN Z (Pt.ixL AP Z Z g8 qD) (fN Z (lf (.agg (Px.c (J a s5))) Bm Z) (fN Z mv (fN Z mv (jD h λg9 h=>fN Z (Pt.ixL AP Z Z g9 qD) (fN Z (lf (.agg (Px.c (J b s5))) Bm Z) (fC h (λ_=>zD _ _) Z Z Z Z Z λv10 _ h=>?_)))))))))))));refine fN Z (Pt.not Z) (jR ?_);refine jN Z h (λq11 h=>?_) (λq11 h=>?_)
  ·refine jH (T.clean (H0:=[]) (e0:=ai []) Z Pq (jC (oN as' (jA (jK (lX h λh=>?_))))));obtain rfl:=Pw h;replace h:=congrArg some (show _=_ from ks2)
   cases h
   exact aF Z Z Z
  refine jG (jC (oN mv (jW h λg12 h=>oN (Pt.add Z Z g12) (oN as' (jA ?_)))));exact lE h (kw Z Z)
 refine jM (lX h λh=>?_)
 cases h
 exact ⟨(),(),ks2,trivial,kw Z Z⟩
theorem wZ (a:List (List Px)) (b:List (List Px)) {q} (h:iF a b=some q):au Tryz.prog 13 [eL (cL Px.c) a,eL (cL Px.c) b] (Bo q):=by
 refine pM Tryz.func13 Z (by kernel_rfl) Z (jI (oN as' (jA (jH (jI (oN mv (oN (Pt.lenL yM Z) (oN mv (oN (Pt.lenL yM Z) (oN (Pt.ine Z Z) (jA ?_)))))))))));refine jN Z h (λq1 h=>?_) (λq1 h=>?_)
 ·refine jI (oN as' (jA (jK ?_)))
  cases h
  exact aF Z Z Z
 refine jG ?_;obtain ⟨Ks2,es2,ws2,h,ks2⟩:=qB h;refine T.join (S:=Unit) (G:=Unit) (λs2=>Ks2 s2=some q) (λs2 gh=>True) (λs2 gh=>[]) (λs2 gh=>[]) (λs2 gh h hg=>?_) ?_
 ·clear ks2;subst es2;refine jI (oN as' (jA (jK ?_)))
  cases h
  exact aF Z Z Z
 refine jI (oN as' (jA (jE ?_)));refine T.lU h (λs5=>[(5,I s5),(0,eL (cL Px.c) a),(1,eL (cL Px.c) b)]) (λs5=>[]) (kw Z Z) (λs5 ws5 h=>?_);refine jH (jI (oN mv (oN mv (oN (Pt.lenL yM Z) (oN (Pt.ilt Z Z) (jA ?_))))));refine jN Z h (λq7 h=>?_) (λq7 h=>?_)
 ·refine jG (jH (jE (jH (jP (λ_=>([],false)) (by kernel_rfl) (by kernel_rfl) (fN Z mv (fN Z mv (jD h λg8 h=>fN Z (Pt.ixL yM Z Z g8 qD) (fN Z (lf (eL Px.c (J a s5)) Ed Z) (fN Z mv (fN Z mv (jD h λg9 h=>fN Z (Pt.ixL yM Z Z g9 qD) (fN Z (lf (eL Px.c (J b s5)) Ed Z) (fC h (λ_=>yw _ _) Z Z Z Z Z λv10 _ h=>?_)))))))))))));refine fN Z (Pt.not Z) (jR ?_);refine jN Z h (λq11 h=>?_) (λq11 h=>?_)
  ·refine jH (T.clean (H0:=[]) (e0:=ai []) Z Pq (jC (oN as' (jA (jK (lX h λh=>?_))))));obtain rfl:=Pw h;replace h:=congrArg some (show _=_ from ks2)
   cases h
   exact aF Z Z Z
  refine jG (jC (oN mv (jW h λg12 h=>oN (Pt.add Z Z g12) (oN as' (jA ?_)))));exact lE h (kw Z Z)
 refine jM (lX h λh=>?_)
 cases h
 exact ⟨(),(),ks2,trivial,kw Z Z⟩
theorem Be (a:LI) (b:LI) {q} (h:pW a b=some q):au Tryz.prog 19 [eL cI a,eL cI b] (Bo q):=by
 refine pM Tryz.func19 Z (by kernel_rfl) Z (jI (oN as' (jA (jH (jI (oN mv (oN (Pt.lenL aD Z) (oN mv (oN (Pt.lenL aD Z) (oN (Pt.ine Z Z) (jA ?_)))))))))));refine jN Z h (λq1 h=>?_) (λq1 h=>?_)
 ·refine jI (oN as' (jA (jK ?_)))
  cases h
  exact aF Z Z Z
 refine jG ?_;obtain ⟨Ks2,es2,ws2,h,ks2⟩:=qB h;refine T.join (S:=Unit) (G:=Unit) (λs2=>Ks2 s2=some q) (λs2 gh=>True) (λs2 gh=>[]) (λs2 gh=>[]) (λs2 gh h hg=>?_) ?_
 ·clear ks2;subst es2;refine jI (oN as' (jA (jK ?_)))
  cases h
  exact aF Z Z Z
 refine jI (oN as' (jA (jE ?_)));refine T.lU h (λs5=>[(5,I s5),(0,eL cI a),(1,eL cI b)]) (λs5=>[]) (kw Z Z) (λs5 ws5 h=>?_);refine jH (jI (oN mv (oN mv (oN (Pt.lenL aD Z) (oN (Pt.ilt Z Z) (jA ?_))))));refine jN Z h (λq7 h=>?_) (λq7 h=>?_)
 ·refine jG (jH (jE (jH (jP (λ_=>([],false)) (by kernel_rfl) (by kernel_rfl) (fN Z mv (fN Z mv (jD h λg8 h=>fN Z (Pt.ixL aD Z Z g8 qD) (fN Z (lf (I (J a s5)) PL Z) (fN Z mv (fN Z mv (jD h λg9 h=>fN Z (Pt.ixL aD Z Z g9 qD) (fN Z (lf (I (J b s5)) PL Z) (fN Z (Pt.ine Z Z) ?_)))))))))))));refine jR ?_;refine jN Z h (λq10 h=>?_) (λq10 h=>?_)
  ·refine jH (T.clean (H0:=[]) (e0:=ai []) Z Pq (jC (oN as' (jA (jK (lX h λh=>?_))))));obtain rfl:=Pw h;replace h:=congrArg some (show _=_ from ks2)
   cases h
   exact aF Z Z Z
  refine jG (jC (oN mv (jW h λg11 h=>oN (Pt.add Z Z g11) (oN as' (jA ?_)))));exact lE h (kw Z Z)
 refine jM (lX h λh=>?_)
 cases h
 exact ⟨(),(),ks2,trivial,kw Z Z⟩
theorem rZ (rcf75:aa->aa->Option Bool) (ih75:∀ (a:aa) (b:aa) {q},rcf75 a b=some q->au Tryz.prog 75 [.agg (aa.c a),.agg (aa.c b)] (Bo q)) (a:List TXimpl_RelExpr) (b:List TXimpl_RelExpr) {q:Bool} (h:iQ rcf75 a b=some q):au Tryz.prog 127 [eL TXimpl_RelExpr.c a,eL TXimpl_RelExpr.c b] (Bo q):=by
 refine pM Tryz.func127 Z (by kernel_rfl) Z (jI (oN as' (jA (jH (jI (oN mv (oN (Pt.lenL De Z) (oN mv (oN (Pt.lenL De Z) (oN (Pt.ine Z Z) (jA ?_)))))))))));refine jN Z h (λq1 h=>?_) (λq1 h=>?_)
 ·refine jI (oN as' (jA (jK ?_)))
  cases h
  exact aF Z Z Z
 refine jG ?_;obtain ⟨Ks2,es2,ws2,h,ks2⟩:=qB h;refine T.join (S:=Unit) (G:=Unit) (λs2=>Ks2 s2=some q) (λs2 gh=>True) (λs2 gh=>[]) (λs2 gh=>[]) (λs2 gh h hg=>?_) ?_
 ·clear ks2;subst es2;refine jI (oN as' (jA (jK ?_)))
  cases h
  exact aF Z Z Z
 refine jI (oN as' (jA (jE ?_)));refine T.lU h (λs5=>[(5,I s5),(0,eL TXimpl_RelExpr.c a),(1,eL TXimpl_RelExpr.c b)]) (λs5=>[]) (kw Z Z) (λs5 ws5 h=>?_);refine jH (jI (oN mv (oN mv (oN (Pt.lenL De Z) (oN (Pt.ilt Z Z) (jA ?_))))));refine jN Z h (λq7 h=>?_) (λq7 h=>?_)
 ·refine jG (jH (jE (jH (jP (λ_=>([],false)) (by kernel_rfl) (by kernel_rfl) (fN Z mv (fN Z mv (jD h λg8 h=>fN Z (Pt.res (Pt.ixL De Z Z g8 TXimpl_RelExpr.len) (r' := .fp (aa.c (J a s5).out) 0) (λ_ _ hr=>qd (TXimpl_RelExpr.out_c _) hr)) (fN Z (lf (.agg (aa.c ((J a s5).out))) xS Z) (fN Z mv (fN Z mv (jD h λg9 h=>fN Z (Pt.res (Pt.ixL De Z Z g9 TXimpl_RelExpr.len) (r' := .fp (aa.c (J b s5).out) 0) (λ_ _ hr=>qd (TXimpl_RelExpr.out_c _) hr)) (fN Z (lf (.agg (aa.c ((J b s5).out))) xS Z) (fC h (λ_=>ih75 _ _) Z Z Z Z Z λv10 _ h=>?_)))))))))))));refine fN Z (Pt.not Z) (jR ?_);refine jN Z h (λq11 h=>?_) (λq11 h=>?_)
  ·refine jH (T.clean (H0:=[]) (e0:=ai []) Z Pq (jC (oN as' (jA (jK (lX h λh=>?_))))));obtain rfl:=Pw h;replace h:=congrArg some (show _=_ from ks2)
   cases h
   exact aF Z Z Z
  refine jG (jC (oN mv (jW h λg12 h=>oN (Pt.add Z Z g12) (oN as' (jA ?_)))));exact lE h (kw Z Z)
 refine jM (lX h λh=>?_)
 cases h
 exact ⟨(),(),ks2,trivial,kw Z Z⟩
theorem vO:∀ (nf:Nat) (a:aa) (b:aa) {q} (h:bU nf a b=some q),au Tryz.prog 75 [.agg (aa.c a),.agg (aa.c b)] (Bo q):=by
 intro nf
 induction nf with
 | zero=>intros;rename_i h;cases h
 | succ nf ih=>
  intro a b q h;replace h:i9 (bU nf) a b=some q:=h;refine pM Tryz.func75 Z (by kernel_rfl) Z (jI (oN (Pt.bxF [I a.Op,St a.Name,eL TXimpl_RelExpr.c a.Kids] Z Z Z) (oN (Pt.bxF [I b.Op,St b.Name,eL TXimpl_RelExpr.c b.Kids] Z Z Z) (oN as' (jA (jH (jI (oN (fa tv Z) (oN (lf (I a.Op) PL Z) (oN (fa tv Z) (oN (lf (I b.Op) PL Z) (oN (Pt.ine Z Z) (jA ?_)))))))))))));refine jN Z h (λq1 h=>?_) (λq1 h=>?_)
  ·refine jI (oN as' (jA (jK ?_)))
   cases h
   exact aF Z Z Z
  refine jG (jH (jI (oN (fa tv Z) (oN (lf (St a.Name) ty9 Z) (oN (fa tv Z) (oN (lf (St b.Name) ty9 Z) (oN (Pt.sne Z Z) (jA ?_))))))));refine jN Z h (λq2 h=>?_) (λq2 h=>?_)
  ·refine jI (oN as' (jA (jK ?_)))
   cases h
   exact aF Z Z Z
  refine jG (jH (jI (oN (fa tv Z) (oN (lf (eL TXimpl_RelExpr.c a.Kids) FM Z) (oN (fa tv Z) (oN (lf (eL TXimpl_RelExpr.c b.Kids) FM Z) (oC h (λ_=>rZ _ ih _ _) Z Z Z Z λv3 _ h=>oN (Pt.not Z) (jA ?_))))))));refine jN Z h (λq4 h=>?_) (λq4 h=>?_)
  ·refine jH (T.clean (H0:=[]) (e0:=ai []) Z Pq (jC (oN as' (jA (jK ?_)))))
   cases h
   exact aF Z Z Z
  refine jG (jH (T.clean (H0:=[]) (e0:=ai []) Z Pq (jC (oN as' (jA (jK ?_))))))
  cases h
  exact aF Z Z Z
theorem w9 (a:aa) (b:aa) {q} (h:oO a b=some q):au Tryz.prog 75 [.agg (aa.c a),.agg (aa.c b)] (Bo q):=by
 obtain ⟨nf,h⟩:=mb h;exact vO nf a b h
theorem Bf (a:ah) (b:ah) {q} (h:pX a b=some q):au Tryz.prog 35 [.agg (ah.c a),.agg (ah.c b)] (Bo q):=by
 refine pM Tryz.func35 Z (by kernel_rfl) Z (jI (oN (Pt.bxF [I a.Kind,I a.Expr.Op,St a.Expr.Name,eL TXimpl_RelExpr.c a.Expr.Kids] Z Z Z) (oN (Pt.bxF (ah.c (⟨b.Kind,b.Expr⟩:ah)) Z Z Z) (oN as' (jA (jH (jI (oN (fa Gy Z) (oN (lf (I a.Kind) PL Z) (oN (fa Gy Z) (oN (lf (I b.Kind) PL Z) (oN (Pt.ine Z Z) (jA ?_)))))))))))));refine jN Z h (λq1 h=>?_) (λq1 h=>?_)
 ·refine jI (oN as' (jA (jK ?_)))
  cases h
  exact aF Z Z Z
 refine jG (jH (jI (oN (Pt.fafpS 3 Tryz.underlying65 Z (by kernel_rfl) Z Z (row2:=aa.c a.Expr)) (oN (lf (.agg (aa.c a.Expr)) xS Z) (oN (Pt.fafpS 3 Tryz.underlying65 Z (by kernel_rfl) Z Z (row2:=aa.c b.Expr)) (oN (lf (.agg (aa.c b.Expr)) xS Z) (oC h (λ_=>w9 _ _) Z Z Z Z λv2 _ h=>oN (Pt.not Z) (jA ?_))))))));refine jN Z h (λq3 h=>?_) (λq3 h=>?_)
 ·refine jH (T.clean (H0:=[]) (e0:=ai []) Z Pq (jC (oN as' (jA (jK ?_)))))
  cases h
  exact aF Z Z Z
 refine jG (jH (T.clean (H0:=[]) (e0:=ai []) Z Pq (jC (oN as' (jA (jK ?_))))))
 cases h
 exact aF Z Z Z
theorem zE (a:List ah) (b:List ah) {q} (h:nT a b=some q):au Tryz.prog 15 [eL ah.c a,eL ah.c b] (Bo q):=by
 refine pM Tryz.func15 Z (by kernel_rfl) Z (jI (oN as' (jA (jH (jI (oN mv (oN (Pt.lenL zU Z) (oN mv (oN (Pt.lenL zU Z) (oN (Pt.ine Z Z) (jA ?_)))))))))));refine jN Z h (λq1 h=>?_) (λq1 h=>?_)
 ·refine jI (oN as' (jA (jK ?_)))
  cases h
  exact aF Z Z Z
 refine jG ?_;obtain ⟨Ks2,es2,ws2,h,ks2⟩:=qB h;refine T.join (S:=Unit) (G:=Unit) (λs2=>Ks2 s2=some q) (λs2 gh=>True) (λs2 gh=>[]) (λs2 gh=>[]) (λs2 gh h hg=>?_) ?_
 ·clear ks2;subst es2;refine jI (oN as' (jA (jK ?_)))
  cases h
  exact aF Z Z Z
 refine jI (oN as' (jA (jE ?_)));refine T.lU h (λs5=>[(5,I s5),(0,eL ah.c a),(1,eL ah.c b)]) (λs5=>[]) (kw Z Z) (λs5 ws5 h=>?_);refine jH (jI (oN mv (oN mv (oN (Pt.lenL zU Z) (oN (Pt.ilt Z Z) (jA ?_))))));refine jN Z h (λq7 h=>?_) (λq7 h=>?_)
 ·refine jG (jH (jE (jH (jP (λ_=>([],false)) (by kernel_rfl) (by kernel_rfl) (fN Z mv (fN Z mv (jD h λg8 h=>fN Z (Pt.ixL zU Z Z g8 qD) (fN Z (lf (.agg (ah.c (J a s5))) Jc Z) (fN Z mv (fN Z mv (jD h λg9 h=>fN Z (Pt.ixL zU Z Z g9 qD) (fN Z (lf (.agg (ah.c (J b s5))) Jc Z) (fC h (λ_=>Bf _ _) Z Z Z Z Z λv10 _ h=>?_)))))))))))));refine fN Z (Pt.not Z) (jR ?_);refine jN Z h (λq11 h=>?_) (λq11 h=>?_)
  ·refine jH (T.clean (H0:=[]) (e0:=ai []) Z Pq (jC (oN as' (jA (jK (lX h λh=>?_))))));obtain rfl:=Pw h;replace h:=congrArg some (show _=_ from ks2)
   cases h
   exact aF Z Z Z
  refine jG (jC (oN mv (jW h λg12 h=>oN (Pt.add Z Z g12) (oN as' (jA ?_)))));exact lE h (kw Z Z)
 refine jM (lX h λh=>?_)
 cases h
 exact ⟨(),(),ks2,trivial,kw Z Z⟩
theorem Bg (p:List (List Px)) {q} (h:sM p=some q):au Tryz.prog 76 [eL (cL Px.c) p] (I q):=by
 refine pM Tryz.func76 Z (by kernel_rfl) Z (jI (oN as' (jA (jI (oN mv (oN (Pt.lenL yM Z) (jW h λg1 h=>oN (Pt.mul Z Z g1) (jW h λg2 h=>oN (Pt.add Z Z g2) (jW h λg3 h=>oN (Pt.add Z Z g3) (oN as' (jA (jK ?_))))))))))))
 cases h
 exact aF Z Z Z
theorem Dg (n:Int) (most:Int) {q} (h:vq n most=some q):au Tryz.prog 77 [I n,I most] (Bo q):=by
 refine pM Tryz.func77 Z (by kernel_rfl) Z (jI (oN as' (jA (jI (oN mv (oN (Pt.ige Z Z) (oN mv ?_)))))));refine TO.jB h 4 (λs1=>[(11,Bo s1)]) (λs1=>[]) (λs1 q2 h js1=>?_) (λs1 q2 h js1=>?_) (λs1 h=>?_)
 ·refine gN Z q2 mv (gN Z q2 mv (gN Z q2 (Pt.ile Z Z) (oN (Pt.pickT Z q2 (Bo (decide (n<=most))) Z) ?_)))
  cases h
  exact js1 _ _ (kw Z Z)
 ·refine gS Z q2 (gS Z q2 (gS Z q2 (oN (Pt.pickF Z q2 (Bo false) Z) ?_)))
  cases h
  exact js1 _ _ (kw Z Z)
 refine oN as' (jA (jK ?_))
 cases h
 exact aF Z Z Z
theorem ut (p:List (List Px)) (o_:LI) {q} (h:ij p o_=some q):au Tryz.prog 36 [eL (cL Px.c) p,eL cI o_] (Bo q):=by
 refine pM Tryz.func36 Z (by kernel_rfl) Z (jI (oN as' (jA (jH (jI (oN mv (oC h (λ_=>og _) Z Z Z Z λv1 _ h=>oN (Pt.not Z) (oN mv ?_))))))));refine TO.jB h 6 (λs2=>[(15,Bo s2),(1,eL cI o_)]) (λs2=>[]) (λs2 q3 h js2=>?_) (λs2 q3 h js2=>?_) (λs2 h=>?_)
 ·refine gS Z q3 (gS Z q3 (gS Z q3 (gS Z q3 (gS Z q3 (oN (Pt.pickT Z q3 (Bo true) Z) ?_)))))
  cases h
  exact js2 _ _ (kw Z Z)
 ·refine gN Z q3 mv (gN Z q3 (Pt.lenL aD Z) (gN Z q3 mv (jB h λv4 cv4 h=>gN Z q3 (Pt.call Z Z Z (Bg p cv4) Z) (gN Z q3 (Pt.ine Z Z) (oN (Pt.pickF Z q3 (Bo ((o_.length:Int) != v4)) Z) ?_)))))
  cases h
  exact js2 _ _ (kw Z Z)
 refine jA ?_;refine jN Z h (λq5 h=>?_) (λq5 h=>?_)
 ·refine jI (oN as' (jA (jK ?_)))
  cases h
  exact aF Z Z Z
 refine jG ?_;obtain ⟨Ks6,es6,ws6,h,ks6⟩:=qB h;refine T.join (S:=Unit) (G:=Unit) (λs6=>Ks6 s6=some q) (λs6 gh=>True) (λs6 gh=>[]) (λs6 gh=>[]) (λs6 gh h hg=>?_) ?_
 ·clear ks6;subst es6;refine jI (oN as' (jA (jK ?_)))
  cases h
  exact aF Z Z Z
 refine jI (oN as' (jA (jE ?_)));refine T.lU h (λs9=>[(5,I s9),(1,eL cI o_)]) (λs9=>[]) (kw Z Z) (λs9 ws9 h=>?_);refine jH (jI (oN mv (oN mv (oN (Pt.lenL aD Z) (oN (Pt.ilt Z Z) (jA ?_))))));refine jN Z h (λq11 h=>?_) (λq11 h=>?_)
 ·refine jG (jH (jE (jI (oN mv (oN mv (jD h λg12 h=>oN (Pt.ixL aD Z Z g12 qD) (oN (lf (I (J o_ s9)) PL Z) (oC h (λ_=>Dg _ _) Z Z Z Z λv13 _ h=>oN (Pt.not Z) (jA ?_)))))))));refine jN Z h (λq14 h=>?_) (λq14 h=>?_)
  ·refine jI (oN as' (jA (jK (lX h λh=>?_))));obtain rfl:=Pw h;replace h:=congrArg some (show _=_ from ks6)
   cases h
   exact aF Z Z Z
  refine jG (jC (oN mv (jW h λg15 h=>oN (Pt.add Z Z g15) (oN as' (jA ?_)))));exact lE h (kw Z Z)
 refine jM (lX h λh=>?_)
 cases h
 exact ⟨(),(),ks6,trivial,kw Z Z⟩
theorem yx:∀ (nf:Nat) (events:List Pz) (i:Int) {q} (h:iG nf events i=some q),au Tryz.prog 128 [eL Pz.c events,I i] (eL (cL cI) q):=by
 intro nf
 induction nf with
 | zero=>intros;rename_i h;cases h
 | succ nf ih=>
  intro events i q h;replace h:eT (iG nf) events i=some q:=h;refine pM Tryz.func128 Z (by kernel_rfl) Z (jI (oN as' (jA (jH (jI (oN mv (oN mv (oN (Pt.lenL pG Z) (oN (Pt.ieq Z Z) (jA ?_))))))))));refine jN Z h (λq1 h=>?_) (λq1 h=>?_)
  ·refine jI (oN (Pt.mkF (c:=cI) ([]:LI) [] aD Z Z Z qD qD Z) (oN (Pt.mkF (c:=(cL cI)) ([([]:LI)]:LL) [[eL cI ([]:LI)]] gT Z Z Z qD qD Z) (oN as' (jA (jK ?_)))))
   cases h
   exact aF Z Z Z
  refine jG (jI (oN mv (oN mv (jW h λg2 h=>oN (Pt.add Z Z g2) (oC h (λ_=>ih _ _) Z Z Z Z λv3 _ h=>oN as' (jA (jI (oN (Pt.mkF (c:=cI) ([(-1:Int)]:LI) [[I (-1:Int)]] aD Z Z Z qD qD Z) (oN as' (jA ?_))))))))));refine T.jU h (λs4=>[(6,eL cI s4),(5,eL (cL cI) v3),(1,I i)]) (λs4=>[]) (λs4 h=>?_) (λs4 h=>?_)
  ·refine jI (oA (EvA.mkO (c:=(cL cI)) ([]:LL) [] gT Z Z Z qD Z Z) (oN (Pt.asg (hS false 0 0 1 (([]:LL).length)) Z) (jA ?_)));refine T.jF (G:=Nat) h (λs8 gh=>True) (λs8 gh=>[(7,hS false 0 gh 1 s8.length)]) (λs8 gh=>[bE false gh 1 23 (s8.map (cL cI))]) (λs8 u34 h hg=>?_) (λs8 h=>?_)
   ·refine jI (oN mv (oN (Pt.asg (hS false 0 u34 1 s8.length) Z) (jA (jK ?_))));obtain rfl:=Pw h
    repeat (first|refine iA ?_|refine iB ?_)
    exact jQ (vs:=[hS false 0 u34 1 s8.length]) (.cons (.tmp Z) .nil) (Fz.own (g:=false) (ver:=u34) (l:=s8) Z Z Z nofun qD)
   refine jI (oN as' (jA (jE ?_)));refine jO (S:=(LL)×Int) (G:=Nat) (fB i v3 s4) (λs12 gh=>True) (λs12 gh=>[(8,I s12.2),(7,hS false 0 gh 1 s12.1.length),(6,eL cI s4),(5,eL (cL cI) v3),(1,I i)]) (λs12 gh=>[bE false gh 1 23 (s12.1.map (cL cI))]) (s0:=(([]:LL),U)) 0 h trivial (kw Z Z) (λs12 u14 ws12 h hg=>?_);let d0:=s4.getD s12.2.toNat default;refine jH (jI (oN mv (oN mv (oN (Pt.lenL aD Z) (oN (Pt.ilt Z Z) (jA ?_))))));refine jN Z h (λq15 h=>?_) (λq15 h=>?_)
   ·refine jG ?_;refine T.jF (G:=Nat) h (λs16 gh=>True) (λs16 gh=>[(8,I s12.2),(7,hS false 0 gh 1 s16.length),(6,eL cI s4),(5,eL (cL cI) v3),(1,I i)]) (λs16 gh=>[bE false gh 1 23 (s16.map (cL cI))]) (λs16 u32 h hg=>?_) (λs16 h=>?_)
    ·refine jC (oN mv (jW h λg33 h=>oN (Pt.add Z Z g33) (oN as' (jA ?_))));obtain rfl:=Pw h;exact ⟨(s16,(s12.2+V)),u32,Z,trivial,kw Z Z⟩
    refine jE (jI (oN as' (jA (jE ?_))));refine jO (S:=(LL)×Int) (G:=Nat) (fA i v3 s4 s12) (λs20 gh=>True) (λs20 gh=>[(9,I s20.2),(8,I s12.2),(7,hS false 0 gh 1 s20.1.length),(6,eL cI s4),(5,eL (cL cI) v3),(1,I i)]) (λs20 gh=>[bE false gh 1 23 (s20.1.map (cL cI))]) (s0:=(s12.1,U)) u14 h trivial (kw Z Z) (λs20 u22 ws20 h hg=>?_);refine jH (jI (oN mv (oN mv (oN (Pt.lenL gT Z) (oN (Pt.ilt Z Z) (oN mv ?_))))));refine TO.jB h 7 (λs23=>[(51,Bo s23),(9,I s20.2),(8,I s12.2),(7,hS false 0 u22 1 s20.1.length),(6,eL cI s4),(5,eL (cL cI) v3),(1,I i)]) (λs23=>[bE false u22 1 23 (s20.1.map (cL cI))]) (λs23 q24 h js23=>?_) (λs23 q24 h js23=>?_) (λs23 h=>?_)
    ·refine gN Z q24 mv (gN Z q24 mv (jD h λg25 h=>gN Z q24 (Pt.ixL aD Z Z g25 qD) (gN Z q24 (lf (I d0) PL Z) (gN Z q24 mv (gN Z q24 (Pt.ine Z Z) (oN (Pt.pickT Z q24 (Bo (d0 != i)) Z) ?_))))))
     cases h
     exact js23 _ _ (kw Z Z)
    ·refine gS Z q24 (gS Z q24 (gS Z q24 (gS Z q24 (gS Z q24 (gS Z q24 (oN (Pt.pickF Z q24 (Bo false) Z) ?_))))))
     cases h
     exact js23 _ _ (kw Z Z)
    refine jA ?_;refine jN Z h (λq26 h=>?_) (λq26 h=>?_)
    ·refine jG (jH (jE (T.drawX [0,1,2,3,4,6,7,8,9,5,10,11,12,13] (λi=>([(false,[]),(false,[]),(false,[]),(false,[]),(false,[]),(true,[]),(false,[]),(false,[]),(false,[]),(false,[]),(true,[1]),(true,[]),(true,[0]),(false,[])]:List Xc).getD i (false,[])) (by kernel_rfl) (by kernel_rfl) (by kernel_rfl) (xN Z Z mv (xN Z Z mv (xN Z Z mv (jD h λg27 h=>xN Z Z (Pt.ixL aD Z Z g27 qD) (xN Z Z (lf (I d0) PL Z) (xN Z Z mv (xN Z Z mv (jD h λg28 h=>xN Z Z (Pt.ixL gT Z Z g28 qD) (xN Z Z (lf (eL cI (J v3 s20.2)) mZ Z) (xA Z Z (EvA.mkO (c:=cI) ([d0]:LI) [[I d0]] aD Z Z Z qD Z Z) uC ?_)))))))))))));refine jL h λg29 h=>xA Z Z (EvA.appF (l:=([d0]:LI)) (J v3 s20.2) aD (by kernel_rfl) Z Z Z (bf.fz (l:=(J v3 s20.2)) Z qD) g29) sI (xA Z Z (EvA.mkR [[hS false 1 (0+1) 1 ((([d0]:LI)++(J v3 s20.2)).length)]] gT Z Z Z Z) uC (jL h λg30 h=>xA Z Z (EvA.appR (g:=false) (rows:=s20.1.map (cL cI)) (rows':=s20.1.map (cL cI)++[[hS false 1 (0+1) 1 ((([d0]:LI)++(J v3 s20.2)).length)]]) (n':=s20.1.length+1) gT (by kernel_rfl) Z Z (by simp) nofun (bf.raw (rows:=[[hS false 1 (0+1) 1 ((([d0]:LI)++(J v3 s20.2)).length)]]) Z Z Z) g30 Z Z) sI (xN Z Z (Pt.asg (hS false 0 (u22+1) 1 (s20.1.length+1)) Z) (TX.nil (T.cut (e0:=ai [(7,hS false 0 (u22+1) 1 ((s20.1++[(([d0]:LI)++(J v3 s20.2))]).length)),(9,I s20.2),(8,I s12.2),(6,eL cI s4),(5,eL (cL cI) v3),(1,I i)]) (H0:=[bE false (u22+1) 1 23 ((s20.1++[(([d0]:LI)++(J v3 s20.2))]).map (cL cI))]) (ow Z (.cons (.snoc qD (.cons (.cons (.fz (Fz.own (g:=false) (ver:=0+1) (l:=(([d0]:LI)++(J v3 s20.2))) Z Z Z nofun qD)) .nil) .nil)) .nil) (ae (.eqv (congrArg (hS false 0 (u22+1) 1) (by simp:(s20.1.length+1)=(s20.1++[(([d0]:LI)++(J v3 s20.2))]).length)) (.hS (g:=false) (b:=0) (ver:=u22+1) (s:=1) (n:=(s20.1++[(([d0]:LI)++(J v3 s20.2))]).length) Z)) (ae (.fz (qC Z)) (ae (.fz (qC Z)) (ae (.fz (qC Z)) (ae (.fz (qC Z)) (ae (.fz (qC Z)) aN))))))) (jC (oN mv (jW h λg31 h=>oN (Pt.add Z Z g31) (oN as' (jA ?_))))))))));obtain rfl:=Pw h;exact ⟨((s20.1++[(([d0]:LI)++(J v3 s20.2))]),(s20.2+V)),u22+1,Z,trivial,kw Z Z⟩
    refine jM (lX h λh=>?_)
    cases h
    exact ⟨u22,trivial,kw Z Z⟩
   refine jM (lX h λh=>?_)
   cases h
   exact ⟨u14,trivial,kw Z Z⟩
  refine jI (oN mv (oN mv (jD h λg5 h=>oN (Pt.ixL pG Z Z g5 qD) (oN (fa dA Z) (oN (lf (Bo ((J events i).Reads)) ty4 Z) (jA ?_))))));refine jN Z h (λq6 h=>?_) (λq6 h=>?_)
  ·refine T.clean (H0:=[]) (e0:=ai [(5,eL (cL cI) v3),(0,eL Pz.c events),(1,I i)]) Z (Ps Z (Ps Z (Ps Z Pq))) (jC (oN mv (oN mv (oN mv (oN (Pt.ixL pG Z Z g5 qD) (oN (fa dA Z) (oN (lf (I ((J events i).Loc)) PL Z) (oC h (λ_=>jd _ _) Z Z Z Z λv7 _ h=>oN as' (jA ?_)))))))))
   cases h
   exact ⟨(),trivial,kw Z Z⟩
  refine jG ?_
  cases h
  exact ⟨(),trivial,kw Z Z⟩
theorem zF (events:List Pz) (i:Int) {q} (h:rf events i=some q):au Tryz.prog 128 [eL Pz.c events,I i] (eL (cL cI) q):=by
 obtain ⟨nf,h⟩:=mb h;exact yx nf events i h
theorem yz:∀ (nf:Nat) (list:LI) {q} (h:eX nf list=some q),au Tryz.prog 182 [eL cI list] (eL (cL cI) q):=by
 intro nf
 induction nf with
 | zero=>intros;rename_i h;cases h
 | succ nf ih=>
  intro list q h;replace h:eU (eX nf) list=some q:=h;refine pM Tryz.func182 Z (by kernel_rfl) Z (jI (oN as' (jA (jH (jI (oN mv (oN (Pt.lenL aD Z) (oN (Pt.ieq Z Z) (jA ?_)))))))));refine jN Z h (λq1 h=>?_) (λq1 h=>?_)
  ·refine jI (oN (Pt.mkF (c:=cI) ([]:LI) [] aD Z Z Z qD qD Z) (oN (Pt.mkF (c:=(cL cI)) ([([]:LI)]:LL) [[eL cI ([]:LI)]] gT Z Z Z qD qD Z) (oN as' (jA (jK ?_)))))
   cases h
   exact aF Z Z Z
  refine jG (jI (oA (EvA.mkO (c:=(cL cI)) ([]:LL) [] gT Z Z Z qD Z Z) (oN (Pt.asg (hS false 0 0 1 (([]:LL).length)) Z) (jA ?_))));refine T.jF (G:=Nat) h (λs2 gh=>True) (λs2 gh=>[(3,hS false 0 gh 1 s2.length)]) (λs2 gh=>[bE false gh 1 23 (s2.map (cL cI))]) (λs2 u31 h hg=>?_) (λs2 h=>?_)
  ·refine jI (oN mv (oN (Pt.asg (hS false 0 u31 1 s2.length) Z) (jA (jK ?_))));obtain rfl:=Pw h
   repeat (first|refine iA ?_|refine iB ?_)
   exact jQ (vs:=[hS false 0 u31 1 s2.length]) (.cons (.tmp Z) .nil) (Fz.own (g:=false) (ver:=u31) (l:=s2) Z Z Z nofun qD)
  refine jI (oN as' (jA (jE ?_)));refine jO (S:=(LL)×Int) (G:=Nat) (kr (eX nf) list) (λs6 gh=>True) (λs6 gh=>[(4,I s6.2),(3,hS false 0 gh 1 s6.1.length),(0,eL cI list)]) (λs6 gh=>[bE false gh 1 23 (s6.1.map (cL cI))]) (s0:=(([]:LL),U)) 0 h trivial (kw Z Z) (λs6 u8 ws6 h hg=>?_);let d0:=list.getD s6.2.toNat default;refine jH (jI (oN mv (oN mv (oN (Pt.lenL aD Z) (oN (Pt.ilt Z Z) (jA ?_))))));refine jN Z h (λq9 h=>?_) (λq9 h=>?_)
  ·refine jG ?_;refine T.jF (G:=Nat) h (λs10 gh=>True) (λs10 gh=>[(4,I s6.2),(3,hS false 0 gh 1 s10.length),(0,eL cI list)]) (λs10 gh=>[bE false gh 1 23 (s10.map (cL cI))]) (λs10 u29 h hg=>?_) (λs10 h=>?_)
   ·refine jC (oN mv (jW h λg30 h=>oN (Pt.add Z Z g30) (oN as' (jA ?_))));obtain rfl:=Pw h;exact ⟨(s10,(s6.2+V)),u29,Z,trivial,kw Z Z⟩
   refine jE (jH (T.reserve (T.drawH (dG [([1],true),dF,dF,dF,([1],true),dF,dF,dF,dF,([1],true),dF]) (by kernel_rfl) (by kernel_rfl) (fW 1 [] Z Z (λG hG=>EvA.mkOR (c:=cI) 1 ([]:LI) [] aD Z Z Z qD qD Z (hG.a0 Z)) (fN Z mv (fN Z mv (jD h λg11 h=>fN Z (Pt.slL aD Z .no (.yes Z) g11 qD) (jL h λg12 h=>fW 1 [] Z Z (λG hG=>EvA.appF (l:=([]:LI)) ((list.drop U.toNat).take (s6.2.toNat-U.toNat)) aD (by kernel_rfl) Z Z (hG.a0 Z) (bf.fz (l:=((list.drop U.toNat).take (s6.2.toNat-U.toNat))) Z qD) g12) (fN Z mv (fN Z mv (jW h λg13 h=>fN Z (Pt.add Z Z g13) (jD h λg14 h=>?_))))))))))));refine fN Z (Pt.slL aD Z (.yes Z) .no g14 qD) (jL h λg15 h=>fW 1 [] Z Z (λG hG=>EvA.appF (l:=(([]:LI)++((list.drop U.toNat).take (s6.2.toNat-U.toNat)))) ((list.drop (s6.2+V).toNat).take ((list.length:Int).toNat-(s6.2+V).toNat)) aD (by kernel_rfl) Z Z (hG.a0 Z) (bf.fz (l:=((list.drop (s6.2+V).toNat).take ((list.length:Int).toNat-(s6.2+V).toNat))) Z qD) g15) (fN Z (Pt.asg (hS false 1 ((0+1)+1) 1 (((([]:LI)++((list.drop U.toNat).take (s6.2.toNat-U.toNat)))++((list.drop (s6.2+V).toNat).take ((list.length:Int).toNat-(s6.2+V).toNat))).length)) Z) (jR (jI (oN mv (TO.cut (e0:=ai [(30,eL cI ((([]:LI)++((list.drop U.toNat).take (s6.2.toNat-U.toNat)))++((list.drop (s6.2+V).toNat).take ((list.length:Int).toNat-(s6.2+V).toNat)))),(4,I s6.2),(3,hS false 0 u8 1 s6.1.length),(0,eL cI list)]) (H0:=[bE false u8 1 23 (s6.1.map (cL cI))]) (ow Z (.cons (.list (g:=false) (ver:=u8) (l:=s6.1) qD) .nil) (ae (.fz (Fz.own (g:=false) (ver:=(0+1)+1) (l:=((([]:LI)++((list.drop U.toNat).take (s6.2.toNat-U.toNat)))++((list.drop (s6.2+V).toNat).take ((list.length:Int).toNat-(s6.2+V).toNat)))) Z Z Z nofun qD)) (ae (.fz (qC Z)) (ae (.hS (g:=false) (b:=0) (ver:=u8) (s:=1) (n:=s6.1.length) Z) (ae (.fz (qC Z)) aN))))) (oC h (λ_=>ih _) Z Z Z Z λv16 _ h=>oN as' (jA (jI (oN as' (jA (jE ?_))))))))))));refine jO (S:=(LL)×Int) (G:=Nat) (mO list s6 v16) (λs20 gh=>True) (λs20 gh=>[(7,I s20.2),(6,eL (cL cI) v16),(4,I s6.2),(3,hS false 0 gh 1 s20.1.length),(0,eL cI list)]) (λs20 gh=>[bE false gh 1 23 (s20.1.map (cL cI))]) (s0:=(s6.1,U)) u8 h trivial (kw Z Z) (λs20 u22 ws20 h hg=>?_);refine jH (jI (oN mv (oN mv (oN (Pt.lenL gT Z) (oN (Pt.ilt Z Z) (jA ?_))))));refine jN Z h (λq23 h=>?_) (λq23 h=>?_)
   ·refine jG (jH (jE (T.drawX [0,1,2,3,4,6,7,8,9,5,10,11,12,13] (λi=>([(false,[]),(false,[]),(false,[]),(false,[]),(false,[]),(true,[]),(false,[]),(false,[]),(false,[]),(false,[]),(true,[1]),(true,[]),(true,[0]),(false,[])]:List Xc).getD i (false,[])) (by kernel_rfl) (by kernel_rfl) (by kernel_rfl) (xN Z Z mv (xN Z Z mv (xN Z Z mv (jD h λg24 h=>xN Z Z (Pt.ixL aD Z Z g24 qD) (xN Z Z (lf (I d0) PL Z) (xN Z Z mv (xN Z Z mv (jD h λg25 h=>xN Z Z (Pt.ixL gT Z Z g25 qD) (xN Z Z (lf (eL cI (J v16 s20.2)) mZ Z) (xA Z Z (EvA.mkO (c:=cI) ([d0]:LI) [[I d0]] aD Z Z Z qD Z Z) uC ?_)))))))))))));refine jL h λg26 h=>xA Z Z (EvA.appF (l:=([d0]:LI)) (J v16 s20.2) aD (by kernel_rfl) Z Z Z (bf.fz (l:=(J v16 s20.2)) Z qD) g26) sI (xA Z Z (EvA.mkR [[hS false 1 (0+1) 1 ((([d0]:LI)++(J v16 s20.2)).length)]] gT Z Z Z Z) uC (jL h λg27 h=>xA Z Z (EvA.appR (g:=false) (rows:=s20.1.map (cL cI)) (rows':=s20.1.map (cL cI)++[[hS false 1 (0+1) 1 ((([d0]:LI)++(J v16 s20.2)).length)]]) (n':=s20.1.length+1) gT (by kernel_rfl) Z Z (by simp) nofun (bf.raw (rows:=[[hS false 1 (0+1) 1 ((([d0]:LI)++(J v16 s20.2)).length)]]) Z Z Z) g27 Z Z) sI (xN Z Z (Pt.asg (hS false 0 (u22+1) 1 (s20.1.length+1)) Z) (TX.nil (T.cut (e0:=ai [(3,hS false 0 (u22+1) 1 ((s20.1++[(([d0]:LI)++(J v16 s20.2))]).length)),(7,I s20.2),(6,eL (cL cI) v16),(4,I s6.2),(0,eL cI list)]) (H0:=[bE false (u22+1) 1 23 ((s20.1++[(([d0]:LI)++(J v16 s20.2))]).map (cL cI))]) (ow Z (.cons (.snoc qD (.cons (.cons (.fz (Fz.own (g:=false) (ver:=0+1) (l:=(([d0]:LI)++(J v16 s20.2))) Z Z Z nofun qD)) .nil) .nil)) .nil) (ae (.eqv (congrArg (hS false 0 (u22+1) 1) (by simp:(s20.1.length+1)=(s20.1++[(([d0]:LI)++(J v16 s20.2))]).length)) (.hS (g:=false) (b:=0) (ver:=u22+1) (s:=1) (n:=(s20.1++[(([d0]:LI)++(J v16 s20.2))]).length) Z)) (ae (.fz (qC Z)) (ae (.fz (qC Z)) (ae (.fz (qC Z)) (ae (.fz (qC Z)) aN)))))) (jC (oN mv (jW h λg28 h=>oN (Pt.add Z Z g28) (oN as' (jA ?_))))))))));obtain rfl:=Pw h;exact ⟨((s20.1++[(([d0]:LI)++(J v16 s20.2))]),(s20.2+V)),u22+1,Z,trivial,kw Z Z⟩
   refine jM (lX h λh=>?_)
   cases h
   exact ⟨u22,trivial,kw Z Z⟩
  refine jM (lX h λh=>?_)
  cases h
  exact ⟨u8,trivial,kw Z Z⟩
theorem zG (list:LI) {q} (h:rq list=some q):au Tryz.prog 182 [eL cI list] (eL (cL cI) q):=by
 obtain ⟨nf,h⟩:=mb h;exact yz nf list h
theorem xa:∀ (nf:Nat) (events:List Pz) (loc:Int) {q} (h:gH nf events loc=some q),au Tryz.prog 129 [eL Pz.c events,I loc] (eL (cL (cL cI)) q):=by
 intro nf
 induction nf with
 | zero=>intros;rename_i h;cases h
 | succ nf ih=>
  intro events loc q h;replace h:dI (gH nf) events loc=some q:=h;refine pM Tryz.func129 Z (by kernel_rfl) Z (jI (oN as' (jA (jH (jI (oN mv (oN (Pt.igt Z Z) (jA ?_))))))));refine jN Z h (λq1 h=>?_) (λq1 h=>?_)
  ·refine jI (oN (Pt.mkF (c:=(cL cI)) ([]:LL) [] gT Z Z Z qD qD Z) (oN (Pt.mkF (c:=(cL (cL cI))) ([([]:LL)]:List (LL)) [[eL (cL cI) ([]:LL)]] sP Z Z Z qD qD Z) (oN as' (jA (jK ?_)))))
   cases h
   exact aF Z Z Z
  refine jG (jI (oN mv (oN mv (jW h λg2 h=>oN (Pt.add Z Z g2) (oC h (λ_=>ih _ _) Z Z Z Z λv3 _ h=>oN as' (jA (jI (oN mv (oN mv (oC h (λ_=>jd _ _) Z Z Z Z λv4 _ h=>oN as' (jA (jI ?_))))))))))));refine oN mv (jD h λg5 h=>oN (Pt.slL aD Z (.yes Z) .no g5 qD) (oC h (λ_=>zG _) Z Z Z Z λv6 _ h=>oN as' (jA (jI (oA (EvA.mkO (c:=(cL (cL cI))) ([]:List (LL)) [] sP Z Z Z qD Z Z) (oN (Pt.asg (hS false 0 0 1 (([]:List (LL)).length)) Z) (jA ?_)))))));refine T.jF (G:=Nat) h (λs7 gh=>True) (λs7 gh=>[(8,hS false 0 gh 1 s7.length)]) (λs7 gh=>[bE false gh 1 24 (s7.map (cL (cL cI)))]) (λs7 u32 h hg=>?_) (λs7 h=>?_)
  ·refine T.cut (e0:=ai [(8,eL (cL (cL cI)) s7)]) (H0:=[]) (ow Z .nil (ae (.fz (Fz.own (g:=false) (ver:=u32) (l:=s7) Z Z Z nofun qD)) aN)) (jI (oN mv (oN as' (jA (jK ?_)))))
   cases h
   exact aF Z Z Z
  refine jH (T.clean (H0:=[bE false 0 1 24 (([]:List (LL)).map (cL (cL cI)))]) (e0:=ai [(8,hS false 0 0 1 (([]:List (LL)).length)),(7,eL (cL cI) v6),(6,eL cI v4),(5,eL (cL (cL cI)) v3)]) Z (Ps Z (Ps Z (Ps Z (Ps Z Pq)))) (jC (oN as' (jA (jE ?_)))));refine jO (S:=(List (LL))×Int) (G:=Nat) (dS v3 v4 v6) (λs11 gh=>True) (λs11 gh=>[(9,I s11.2),(8,hS false 0 gh 1 s11.1.length),(7,eL (cL cI) v6),(6,eL cI v4),(5,eL (cL (cL cI)) v3)]) (λs11 gh=>[bE false gh 1 24 (s11.1.map (cL (cL cI)))]) (s0:=(([]:List (LL)),U)) 0 h trivial (kw Z Z) (λs11 u13 ws11 h hg=>?_);refine jH (jI (oN mv (oN mv (oN (Pt.lenL gT Z) (oN (Pt.ilt Z Z) (jA ?_))))));refine jN Z h (λq14 h=>?_) (λq14 h=>?_)
  ·refine jG ?_;refine T.jF (G:=Nat) h (λs15 gh=>True) (λs15 gh=>[(9,I s11.2),(8,hS false 0 gh 1 s15.length),(7,eL (cL cI) v6),(6,eL cI v4),(5,eL (cL (cL cI)) v3)]) (λs15 gh=>[bE false gh 1 24 (s15.map (cL (cL cI)))]) (λs15 u30 h hg=>?_) (λs15 h=>?_)
   ·refine jC (oN mv (jW h λg31 h=>oN (Pt.add Z Z g31) (oN as' (jA ?_))));obtain rfl:=Pw h;exact ⟨(s15,(s11.2+V)),u30,Z,trivial,kw Z Z⟩
   refine jE (jH (T.reserve (jP (dG [dF,dF,dF,([1],true),dF,dF,dF,dF,([1],true),dF]) (by kernel_rfl) (by kernel_rfl) (fN Z mv (jD h λg16 h=>fN Z (Pt.ixL aD Z Z g16 qD) (fN Z (lf (I (J v4 U)) PL Z) (fW 1 [] Z Z (λG hG=>EvA.mkOR (c:=cI) 1 ([(J v4 U)]:LI) [[I (J v4 U)]] aD Z Z Z qD qD Z (hG.a0 Z)) (fN Z mv (fN Z mv (jD h λg17 h=>fN Z (Pt.ixL gT Z Z g17 qD) (fN Z (lf (eL cI (J v6 s11.2)) mZ Z) (jL h λg18 h=>fW 1 [] Z Z (λG hG=>EvA.appF (l:=([(J v4 U)]:LI)) (J v6 s11.2) aD (by kernel_rfl) Z Z (hG.a0 Z) (bf.fz (l:=(J v6 s11.2)) Z qD) g18) ?_))))))))))));refine fN Z (Pt.asg (hS false 1 (0+1) 1 ((([(J v4 U)]:LI)++(J v6 s11.2)).length)) Z) (jR (jI (oN as' (TO.cut (e0:=ai [(11,I U),(10,eL cI (([(J v4 U)]:LI)++(J v6 s11.2))),(9,I s11.2),(8,hS false 0 u13 1 s11.1.length),(7,eL (cL cI) v6),(6,eL cI v4),(5,eL (cL (cL cI)) v3)]) (H0:=[bE false u13 1 24 (s11.1.map (cL (cL cI)))]) (ow Z (.cons (.list (g:=false) (ver:=u13) (l:=s11.1) qD) .nil) (ae (.fz (qC Z)) (ae (.fz (Fz.own (g:=false) (ver:=0+1) (l:=(([(J v4 U)]:LI)++(J v6 s11.2))) Z Z Z nofun qD)) (ae (.fz (qC Z)) (ae (.hS (g:=false) (b:=0) (ver:=u13) (s:=1) (n:=s11.1.length) Z) (ae (.fz (qC Z)) (ae (.fz (qC Z)) (ae (.fz (qC Z)) aN)))))))) (jA (jE ?_))))));refine jO (S:=(List (LL))×Int) (G:=Nat) (dR v3 v4 v6 s11) (λs22 gh=>True) (λs22 gh=>[(11,I s22.2),(10,eL cI (([(J v4 U)]:LI)++(J v6 s11.2))),(9,I s11.2),(8,hS false 0 gh 1 s22.1.length),(7,eL (cL cI) v6),(6,eL cI v4),(5,eL (cL (cL cI)) v3)]) (λs22 gh=>[bE false gh 1 24 (s22.1.map (cL (cL cI)))]) (s0:=(s11.1,U)) u13 h trivial (kw Z Z) (λs22 u24 ws22 h hg=>?_);refine jH (jI (oN mv (oN mv (oN (Pt.lenL sP Z) (oN (Pt.ilt Z Z) (jA ?_))))));refine jN Z h (λq25 h=>?_) (λq25 h=>?_)
   ·refine jG (jH (jE (jC (oN mv (oN mv (oA (EvA.mkO (c:=(cL cI)) ([(([(J v4 U)]:LI)++(J v6 s11.2))]:LL) [[eL cI (([(J v4 U)]:LI)++(J v6 s11.2))]] gT Z Z Z qD Z Z) (oN mv (oN mv (jD h λg26 h=>oN (Pt.ixL sP Z Z g26 qD) (oN (lf (eL (cL cI) (J v3 s22.2)) zT Z) (jL h λg27 h=>oA (EvA.appF (l:=([(([(J v4 U)]:LI)++(J v6 s11.2))]:LL)) (J v3 s22.2) gT (by kernel_rfl) Z Z Z (bf.fz (l:=(J v3 s22.2)) Z qD) g27) (oA (EvA.mkR [[hS false 1 (0+1) 1 ((([(([(J v4 U)]:LI)++(J v6 s11.2))]:LL)++(J v3 s22.2)).length)]] sP Z Z Z Z) (jL h λg28 h=>?_)))))))))))));refine oA (EvA.appR (g:=false) (rows:=s22.1.map (cL (cL cI))) (rows':=s22.1.map (cL (cL cI))++[[hS false 1 (0+1) 1 ((([(([(J v4 (0:Int))]:LI)++(J v6 s11.2))]:LL)++(J v3 s22.2)).length)]]) (n':=s22.1.length+1) sP (by kernel_rfl) Z Z (by simp) nofun (bf.raw (rows:=[[hS false 1 (0+1) 1 ((([(([(J v4 (0:Int))]:LI)++(J v6 s11.2))]:LL)++(J v3 s22.2)).length)]]) Z Z Z) g28 Z Z) (oN (Pt.asg (hS false 0 (u24+1) 1 (s22.1.length+1)) Z) (jA (T.cut (e0:=ai [(8,hS false 0 (u24+1) 1 ((s22.1++[(([(([(J v4 (0:Int))]:LI)++(J v6 s11.2))]:LL)++(J v3 s22.2))]).length)),(11,I s22.2),(10,eL cI (([(J v4 (0:Int))]:LI)++(J v6 s11.2))),(9,I s11.2),(7,eL (cL cI) v6),(6,eL cI v4),(5,eL (cL (cL cI)) v3)]) (H0:=[bE false (u24+1) 1 24 ((s22.1++[(([(([(J v4 (0:Int))]:LI)++(J v6 s11.2))]:LL)++(J v3 s22.2))]).map (cL (cL cI)))]) (ow Z (.cons (.snoc qD (.cons (.cons (.fz (Fz.own (g:=false) (ver:=0+1) (l:=(([(([(J v4 (0:Int))]:LI)++(J v6 s11.2))]:LL)++(J v3 s22.2))) Z Z Z nofun qD)) .nil) .nil)) .nil) (ae (.eqv (congrArg (hS false 0 (u24+1) 1) (by simp:(s22.1.length+1)=(s22.1++[(([(([(J v4 (0:Int))]:LI)++(J v6 s11.2))]:LL)++(J v3 s22.2))]).length)) (.hS (g:=false) (b:=0) (ver:=u24+1) (s:=1) (n:=(s22.1++[(([(([(J v4 (0:Int))]:LI)++(J v6 s11.2))]:LL)++(J v3 s22.2))]).length) Z)) (ae (.fz (qC Z)) (ae (.fz (qC Z)) (ae (.fz (qC Z)) (ae (.fz (qC Z)) (ae (.fz (qC Z)) (ae (.fz (qC Z)) aN)))))))) (jC (oN mv (jW h λg29 h=>oN (Pt.add Z Z g29) (oN as' (jA ?_))))))));obtain rfl:=Pw h;exact ⟨((s22.1++[(([(([(J v4 U)]:LI)++(J v6 s11.2))]:LL)++(J v3 s22.2))]),(s22.2+V)),u24+1,Z,trivial,kw Z Z⟩
   refine jM (lX h λh=>?_)
   cases h
   exact ⟨u24,trivial,kw Z Z⟩
  refine jM (lX h λh=>?_)
  cases h
  exact ⟨u13,trivial,kw Z Z⟩
theorem yA (events:List Pz) (loc:Int) {q} (h:ql events loc=some q):au Tryz.prog 129 [eL Pz.c events,I loc] (eL (cL (cL cI)) q):=by
 obtain ⟨nf,h⟩:=mb h;exact xa nf events loc h
theorem Bh (x:Py) {q} (h:mP x=some q):au Tryz.prog 130 [.agg (Py.c x)] (.agg (Py.c q)):=by
 refine pM Tryz.func130 Z (by kernel_rfl) Z (jI (oN (Pt.bxF [eL cI x.From,eL (cL cI) x.Order] Z Z Z) (oA (EvA.al I2 Z Z) (jA (jH (T.reserve (jC (oA (EvA.mkO (c:=cI) ([]:LI) [] aD Z Z Z qD Z Z) (oN (fa r9 Z) (oN (lf (eL cI x.From) mZ Z) (jL h λg1 h=>oA (EvA.appF (l:=([]:LI)) x.From aD (by kernel_rfl) Z Z Z (bf.fz (l:=x.From) Z qD) g1) (oN (Pt.build [hS false 2 (0+1) 1 ((([]:LI)++x.From).length),hS true 1 0 1 (([]:LL).length)] Tryz.underlying34 I2 r9 Z Z) (oA (EvA.al I2 Z Z) (oV (sr [hS false 2 (0+1) 1 ((([]:LI)++x.From).length),hS true 1 0 1 (([]:LL).length)] pE Z Z Z Z) ?_))))))))))))));refine jA ?_;refine T.jF (G:=(Bool×Nat)) h (λs2 gh=>(gh.1=true->s2=[])) (λs2 gh=>[(3,.hp 3 0 2 0 0),(2,.hp 0 0 2 0 0)]) (λs2 gh=>[some ⟨0,2,34,[[.nil,.nil]]⟩,bE gh.1 gh.2 1 23 (s2.map (cL cI)),bE false (0+1) 1 3 ((([]:LI)++x.From).map cI),some ⟨0,2,34,[[hS false 2 (0+1) 1 ((([]:LI)++x.From).length),hS gh.1 1 gh.2 1 s2.length]]⟩]) (λs2 gh h n20=>?_) (λs2 h=>?_)
 ·obtain ⟨b19,u18⟩:=gh;refine jI (oA (lh (.agg [hS false 2 (0+1) 1 ((([]:LI)++x.From).length),hS b19 1 u18 1 s2.length]) pE Z Z Z) (oV (EvA.st (cs:=[hS false 2 (0+1) 1 ((([]:LI)++x.From).length),hS b19 1 u18 1 s2.length]) ⟨0,2,34,[[hS false 2 (0+1) 1 ((([]:LI)++x.From).length),hS b19 1 u18 1 s2.length]]⟩ pE Z (by generalize b19=gq0;cases gq0 <;> rfl) Z Z Z Z Z Z Z) (jA (jK ?_))));obtain rfl:=Pw h
  repeat (first|refine iA ?_|refine iB ?_)
  exact jQ (vs:=[.agg [hS false 2 (0+1) 1 ((([]:LI)++x.From).length),hS b19 1 u18 1 s2.length]]) (.cons (.cell (.agg [hS false 2 (0+1) 1 ((([]:LI)++x.From).length),hS b19 1 u18 1 s2.length]) pE Z Z Z Z Z Z) .nil) (Fz.aggL (.cons (Fz.own (g:=false) (ver:=0+1) (l:=(([]:LI)++x.From)) Z Z Z nofun qD) (.cons (Fz.own (g:=b19) (ver:=u18) (l:=s2) Z Z Z n20 qD) .nil)))
 refine jI (oN as' (jA (jE ?_)));refine jO (S:=(LL)×Int) (G:=(Bool×Nat)) (oP x) (λs8 gh=>(gh.1=true->s8.1=[])) (λs8 gh=>[(4,I s8.2),(3,.hp 3 0 2 0 0),(2,.hp 0 0 2 0 0),(1,.fp (Py.c x) 0)]) (λs8 gh=>[some ⟨0,2,34,[[.nil,.nil]]⟩,bE gh.1 gh.2 1 23 (s8.1.map (cL cI)),bE false (0+1) 1 3 ((([]:LI)++x.From).map cI),some ⟨0,2,34,[[hS false 2 (0+1) 1 ((([]:LI)++x.From).length),hS gh.1 1 gh.2 1 s8.1.length]]⟩]) (s0:=(([]:LL),U)) (true,0) h qD (kw Z Z) (λs8 gh ws8 h n12=>?_);let d0:=x.Order.getD s8.2.toNat default;obtain ⟨b11,u10⟩:=gh;refine jH (jI (oN mv (oN (fa r9 Z) (oN (lf (eL (cL cI) x.Order) zT Z) (oN (Pt.lenL gT Z) (oN (Pt.ilt Z Z) (jA ?_)))))));refine jN Z h (λq13 h=>?_) (λq13 h=>?_)
 ·refine jG (jH (jE (T.drawX [0,3,4,5,6,7,1,2,8,9,10,11,12] (λi=>([(false,[]),(false,[3]),(true,[]),(false,[]),(false,[]),(false,[]),(false,[]),(false,[]),(true,[4]),(true,[]),(true,[1]),(false,[]),(true,[3])]:List Xc).getD i (false,[])) (by kernel_rfl) (by kernel_rfl) (by kernel_rfl) (xN Z Z (fa r9 Z) (xN Z Z (fa r9 Z) (xN Z Z (lf (eL (cL cI) x.Order) zT Z) (xN Z Z mv (jD h λg14 h=>xN Z Z (Pt.ixL gT Z Z g14 qD) (xN Z Z (lf (eL cI d0) mZ Z) (xR [3] Z Z Z (λG hG=>EvA.loadhp (hS b11 1 u10 1 s8.1.length) zT Z (hG.a0 Z) Z Z Z Z) (xA Z Z (EvA.mkO (c:=cI) ([]:LI) [] aD Z Z Z qD Z Z) uC (jL h λg15 h=>xA Z Z (EvA.appF (l:=([]:LI)) d0 aD (by kernel_rfl) Z Z Z (bf.fz (l:=d0) Z qD) g15) sI (xA Z Z (EvA.mkR [[hS false 4 (0+1) 1 ((([]:LI)++d0).length)]] gT Z Z Z Z) uC ?_)))))))))))));refine jL h λg16 h=>xA Z Z (EvA.appR (g:=b11) (rows:=s8.1.map (cL cI)) (rows':=s8.1.map (cL cI)++[[hS false 4 (0+1) 1 ((([]:LI)++d0).length)]]) (n':=s8.1.length+1) gT (by kernel_rfl) Z Z (by simp) (λq=>by first | (rw [n12 q];rfl) | (cases q)) (bf.raw (rows:=[[hS false 4 (0+1) 1 ((([]:LI)++d0).length)]]) Z Z Z) g16 Z Z) sI (xN Z Z (fa r9 Z) (xV Z Z (sr [hS false 2 (0+1) 1 ((([]:LI)++x.From).length),hS false 1 (u10+1) 1 (s8.1.length+1)] zT Z Z Z Z) sI (TX.nil (T.cut (e0:=ai [(4,I s8.2),(3,.hp 3 0 2 0 0),(2,.hp 0 0 2 0 0),(1,.fp (Py.c x) 0)]) (H0:=[some ⟨0,2,34,[[.nil,.nil]]⟩,bE false (u10+1) 1 23 ((s8.1++[(([]:LI)++d0)]).map (cL cI)),bE false (0+1) 1 3 ((([]:LI)++x.From).map cI),some ⟨0,2,34,[[hS false 2 (0+1) 1 ((([]:LI)++x.From).length),hS false 1 (u10+1) 1 (s8.1.length+1)]]⟩]) (ow Z (.cons (.row (.cons (.fz (qC Z)) (.cons (.fz (qC Z)) .nil))) (.cons (.snoc qD (.cons (.cons (.fz (Fz.own (g:=false) (ver:=0+1) (l:=(([]:LI)++d0)) Z Z Z nofun qD)) .nil) .nil)) (.cons (.list (g:=false) (ver:=0+1) (l:=(([]:LI)++x.From)) qD) (.cons (.row (.cons (.hS (g:=false) (b:=2) (ver:=0+1) (s:=1) (n:=(([]:LI)++x.From).length) Z) (.cons (.hS (g:=false) (b:=1) (ver:=u10+1) (s:=1) (n:=(s8.1.length+1)) Z) .nil))) .nil)))) (ae (.fz (qC Z)) (ae (.hp (nlb Z)) (ae (.hp (nlb Z)) (ae (.fz (qC Z)) aN))))) (jC (oN mv (jW h λg17 h=>oN (Pt.add Z Z g17) (oN as' (jA ?_)))))))));obtain rfl:=Pw h;exact ⟨((s8.1++[(([]:LI)++d0)]),(s8.2+(1:Int))),(false,u10+1),Z,nofun,kw (by first | (simp only [Wh] <;> rfl) | simp only [lla,Wi,llc,List.length_nil,Wh]) Z⟩
 refine jM (lX h λh=>?_)
 cases h
 exact ⟨(b11,u10),n12,kw Z Z⟩
theorem BA (p:List (List Px)) {q} (h:qQ p=some q):au Tryz.prog 78 [eL (cL Px.c) p] (eL Py.c q):=by
 refine pM Tryz.func78 Z (by kernel_rfl) Z (jI (oN as' (jA (jI (oN mv (oC h (λ_=>dK _) Z Z Z Z λv1 _ h=>oN as' (jA (jI (oN mv (oC h (λ_=>zF _ _) Z Z Z Z λv2 _ h=>oN as' (jA (jI (oN mv ?_)))))))))))));refine oC h (λ_=>yA _ _) Z Z Z Z λv3 _ h=>oN as' (jA (jI (oA (EvA.mkO (c:=Py.c) ([]:List Py) [] AQ Z Z Z qD Z Z) (oN (Pt.asg (hS false 0 0 2 (([]:List Py).length)) Z) (jA ?_)))));refine T.jF (G:=Nat) h (λs4 gh=>True) (λs4 gh=>[(6,hS false 0 gh 2 s4.length)]) (λs4 gh=>[bE false gh 2 34 (s4.map Py.c)]) (λs4 u27 h hg=>?_) (λs4 h=>?_)
 ·refine jI (oN mv (oN (Pt.asg (hS false 0 u27 2 s4.length) Z) (jA (jK ?_))));obtain rfl:=Pw h
  repeat (first|refine iA ?_|refine iB ?_)
  exact jQ (vs:=[hS false 0 u27 2 s4.length]) (.cons (.tmp Z) .nil) (Fz.own (g:=false) (ver:=u27) (l:=s4) Z Z Z nofun Py.isF)
 refine jI (oN as' (jA (jE ?_)));refine jO (S:=(List Py)×Int) (G:=Nat) (jk v2 v3) (λs8 gh=>True) (λs8 gh=>[(7,I s8.2),(6,hS false 0 gh 2 s8.1.length),(5,eL (cL (cL cI)) v3),(4,eL (cL cI) v2)]) (λs8 gh=>[bE false gh 2 34 (s8.1.map Py.c)]) (s0:=(([]:List Py),U)) 0 h trivial (kw Z Z) (λs8 u10 ws8 h hg=>?_);refine jH (jI (oN mv (oN mv (oN (Pt.lenL gT Z) (oN (Pt.ilt Z Z) (jA ?_))))));refine jN Z h (λq11 h=>?_) (λq11 h=>?_)
 ·refine jG ?_;refine T.jF (G:=Nat) h (λs12 gh=>True) (λs12 gh=>[(7,I s8.2),(6,hS false 0 gh 2 s12.length),(5,eL (cL (cL cI)) v3),(4,eL (cL cI) v2)]) (λs12 gh=>[bE false gh 2 34 (s12.map Py.c)]) (λs12 u25 h hg=>?_) (λs12 h=>?_)
  ·refine jC (oN mv (jW h λg26 h=>oN (Pt.add Z Z g26) (oN as' (jA ?_))));obtain rfl:=Pw h;exact ⟨(s12,(s8.2+V)),u25,Z,trivial,kw Z Z⟩
  refine jE (jI (oN as' (jA (jE ?_))));refine jO (S:=(List Py)×Int) (G:=Nat) (iH v2 v3 s8) (λs16 gh=>True) (λs16 gh=>[(8,I s16.2),(7,I s8.2),(6,hS false 0 gh 2 s16.1.length),(5,eL (cL (cL cI)) v3),(4,eL (cL cI) v2)]) (λs16 gh=>[bE false gh 2 34 (s16.1.map Py.c)]) (s0:=(s8.1,U)) u10 h trivial (kw Z Z) (λs16 u18 ws16 h hg=>?_);refine jH (jI (oN mv (oN mv (oN (Pt.lenL sP Z) (oN (Pt.ilt Z Z) (jA ?_))))));refine jN Z h (λq19 h=>?_) (λq19 h=>?_)
  ·refine jG (jH (jE (jP (dG [dF,dF,dF,dF,dF,dF,dF,dF,dF,dF,dF,dF,([0],true),dF]) (by kernel_rfl) (by kernel_rfl) (fN Z mv (fN Z mv (fN Z mv (jD h λg20 h=>fN Z (Pt.ixL gT Z Z g20 qD) (fN Z (lf (eL cI (J v2 s8.2)) mZ Z) (fN Z mv (fN Z mv (jD h λg21 h=>fN Z (Pt.ixL sP Z Z g21 qD) (fN Z (lf (eL (cL cI) (J v3 s16.2)) zT Z) (fN Z (Pt.build [eL cI (J v2 s8.2),eL (cL cI) (J v3 s16.2)] Tryz.underlying34 I2 r9 Z Z) ?_)))))))))))));refine fC h (λ_=>Bh _) Z Z Z Z Z λv22 _ h=>fN Z (Pt.mkF (c:=Py.c) ([v22]:List Py) [(Py.c v22)] AQ Z Z Z qD Py.isF Z) (jL h λg23 h=>fW 0 [] Z Z (λG hG=>EvA.app1 (g:=false) (l:=s16.1) v22 AQ (by kernel_rfl) Z Z (hG.a0 Z) nofun (bf.fz (l:=([v22]:List Py)) Z qD) g23) (fN Z (Pt.asg (hS false 0 (u18+1) 2 ((s16.1++[v22]).length)) Z) (jR (T.clean (H0:=[bE false (u18+1) 2 34 ((s16.1++[v22]).map Py.c)]) (e0:=ai [(6,hS false 0 (u18+1) 2 ((s16.1++[v22]).length)),(8,I s16.2),(7,I s8.2),(5,eL (cL (cL cI)) v3),(4,eL (cL cI) v2)]) Z (Ps Z (Ps Z (Ps Z (Ps Z (Ps Z Pq))))) (jC (oN mv (jW h λg24 h=>oN (Pt.add Z Z g24) (oN as' (jA ?_)))))))));obtain rfl:=Pw h;exact ⟨((s16.1++[v22]),(s16.2+V)),u18+1,Z,trivial,kw Z Z⟩
  refine jM (lX h λh=>?_)
  cases h
  exact ⟨u18,trivial,kw Z Z⟩
 refine jM (lX h λh=>?_)
 cases h
 exact ⟨u10,trivial,kw Z Z⟩
theorem xb (p:List (List Px)) (x:Py) (values:LI) {q} (h:iI p x values=some q):au Tryz.prog 80 [eL (cL Px.c) p,.agg (Py.c x),eL cI values] (eL cI q):=by
 refine pM Tryz.func80 Z (by kernel_rfl) Z (jI (oN (Pt.bxF [eL cI x.From,eL (cL cI) x.Order] Z Z Z) (oN as' (jA (jI (oA (EvA.mkO (c:=cI) ([]:LI) [] aD Z Z Z qD Z Z) (oN (Pt.asg (hS false 0 0 1 (([]:LI).length)) Z) (jA (jI (oN mv (oC h (λ_=>dK _) Z Z Z Z λv1 _ h=>oN as' (jA ?_))))))))))));refine T.jF (G:=Nat) h (λs2 gh=>True) (λs2 gh=>[(7,hS false 0 gh 1 s2.length),(4,.fp (Py.c x) 0),(2,eL cI values)]) (λs2 gh=>[bE false gh 1 3 (s2.map cI)]) (λs2 u30 h hg=>?_) (λs2 h=>?_)
 ·refine T.jF (G:=Nat) h (λs31 gh=>True) (λs31 gh=>[(7,hS false 0 gh 1 s31.length)]) (λs31 gh=>[bE false gh 1 3 (s31.map cI)]) (λs31 u45 h hg=>?_) (λs31 h=>?_)
  ·refine jI (oN mv (oN (Pt.asg (hS false 0 u45 1 s31.length) Z) (jA (jK ?_))));obtain rfl:=Pw h
   repeat (first|refine iA ?_|refine iB ?_)
   exact jQ (vs:=[hS false 0 u45 1 s31.length]) (.cons (.tmp Z) .nil) (Fz.own (g:=false) (ver:=u45) (l:=s31) Z Z Z nofun qD)
  refine jI (oN as' (jA (jE ?_)));refine jO (S:=(LI)×Int) (G:=Nat) (gb x values) (λs35 gh=>True) (λs35 gh=>[(12,I s35.2),(7,hS false 0 gh 1 s35.1.length),(4,.fp (Py.c x) 0),(2,eL cI values)]) (λs35 gh=>[bE false gh 1 3 (s35.1.map cI)]) (s0:=(s2,U)) u30 h trivial (kw Z Z) (λs35 u37 ws35 h hg=>?_);let d0:=x.Order.getD s35.2.toNat default;refine jH (jI (oN mv (oN (Pt.ile Z Z) (jA ?_))));refine jN Z h (λq38 h=>?_) (λq38 h=>?_)
  ·refine jG (jH (jE (jI (oN (fa r9 Z) (oN (lf (eL (cL cI) x.Order) zT Z) (oN mv (jD h λg39 h=>oN (Pt.ixL gT Z Z g39 qD) (oN (lf (eL cI d0) mZ Z) (oN as' (jA (jC (oN mv (oN mv (oN mv ?_))))))))))))));refine oN mv (oN (Pt.lenL aD Z) (jW h λg40 h=>oN (Pt.sub Z Z g40) (jD h λg41 h=>oN (Pt.ixL aD Z Z g41 qD) (oN (lf (I (J d0 ((d0.length:Int)-V))) PL Z) (jD h λg42 h=>oN (Pt.ixL aD Z Z g42 qD) (oN (lf (I (J values (J d0 ((d0.length:Int)-V)))) PL Z) (oN (Pt.mkF (c:=cI) ([(J values (J d0 ((d0.length:Int)-V)))]:LI) [[I (J values (J d0 ((d0.length:Int)-V)))]] aD Z Z Z qD qD Z) (jL h λg43 h=>oA (EvA.app1 (g:=false) (l:=s35.1) (J values (J d0 ((d0.length:Int)-V))) aD (by kernel_rfl) Z Z Z nofun (bf.fz (l:=([(J values (J d0 ((d0.length:Int)-V)))]:LI)) Z qD) g43) (oN (Pt.asg (hS false 0 (u37+1) 1 ((s35.1++[(J values (J d0 ((d0.length:Int)-V)))]).length)) Z) (jA (T.clean (H0:=[bE false (u37+1) 1 3 ((s35.1++[(J values (J d0 ((d0.length:Int)-V)))]).map cI)]) (e0:=ai [(7,hS false 0 (u37+1) 1 ((s35.1++[(J values (J d0 ((d0.length:Int)-V)))]).length)),(12,I s35.2),(4,.fp (Py.c x) 0),(2,eL cI values)]) Z (Ps Z (Ps Z (Ps Z (Ps Z Pq)))) ?_)))))))))));refine jC (oN mv (jW h λg44 h=>oN (Pt.add Z Z g44) (oN as' (jA ?_))));obtain rfl:=Pw h;exact ⟨((s35.1++[(J values (J d0 ((d0.length:Int)-V)))]),(s35.2+V)),u37+1,Z,trivial,kw Z Z⟩
  refine jM (lX h λh=>?_)
  cases h
  exact ⟨u37,trivial,kw Z Z⟩
 refine jI (oN as' (jA (jE ?_)));refine jO (S:=(LI)×Int) (G:=Nat) (ik p x values v1) (λs6 gh=>True) (λs6 gh=>[(9,I s6.2),(8,eL Pz.c v1),(7,hS false 0 gh 1 s6.1.length),(4,.fp (Py.c x) 0),(0,eL (cL Px.c) p),(2,eL cI values)]) (λs6 gh=>[bE false gh 1 3 (s6.1.map cI)]) (s0:=(([]:LI),U)) 0 h trivial (kw Z Z) (λs6 u8 ws6 h hg=>?_);refine jH (jI (oN mv (oN mv (oN (Pt.lenL yM Z) (oN (Pt.ilt Z Z) (jA ?_))))));refine jN Z h (λq9 h=>?_) (λq9 h=>?_)
 ·refine jG ?_;refine T.jF (G:=Nat) h (λs10 gh=>True) (λs10 gh=>[(9,I s6.2),(8,eL Pz.c v1),(7,hS false 0 gh 1 s10.length),(4,.fp (Py.c x) 0),(0,eL (cL Px.c) p),(2,eL cI values)]) (λs10 gh=>[bE false gh 1 3 (s10.map cI)]) (λs10 u28 h hg=>?_) (λs10 h=>?_)
  ·refine jC (oN mv (jW h λg29 h=>oN (Pt.add Z Z g29) (oN as' (jA ?_))));obtain rfl:=Pw h;exact ⟨(s10,(s6.2+V)),u28,Z,trivial,kw Z Z⟩
  refine jE (jI (oN as' (jA (jE ?_))));refine jO (S:=(LI)×Int) (G:=Nat) (f9 p x values v1 s6) (λs14 gh=>True) (λs14 gh=>[(10,I s14.2),(9,I s6.2),(8,eL Pz.c v1),(7,hS false 0 gh 1 s14.1.length),(4,.fp (Py.c x) 0),(0,eL (cL Px.c) p),(2,eL cI values)]) (λs14 gh=>[bE false gh 1 3 (s14.1.map cI)]) (s0:=(s6.1,U)) u8 h trivial (kw Z Z) (λs14 u16 ws14 h hg=>?_);refine jH (jI (oN mv (oN (Pt.ile Z Z) (jA ?_))));refine jN Z h (λq17 h=>?_) (λq17 h=>?_)
  ·refine jG ?_;refine T.jF (G:=Nat) h (λs18 gh=>True) (λs18 gh=>[(7,hS false 0 gh 1 s18.length),(10,I s14.2),(9,I s6.2),(8,eL Pz.c v1),(4,.fp (Py.c x) 0),(0,eL (cL Px.c) p),(2,eL cI values)]) (λs18 gh=>[bE false gh 1 3 (s18.map cI)]) (λs18 u26 h hg=>?_) (λs18 h=>?_)
   ·refine jC (oN mv (jW h λg27 h=>oN (Pt.add Z Z g27) (oN as' (jA ?_))));obtain rfl:=Pw h;exact ⟨(s18,(s14.2+V)),u26,Z,trivial,kw Z Z⟩
   refine jE (jI (oN mv (oN mv (oN mv (oN mv (oN mv (jD h λg19 h=>oN (Pt.ixL yM Z Z g19 qD) (oN (lf (eL Px.c (J p s6.2)) Ed Z) (oN (Pt.lenL AP Z) (oN mv (oC h (λ_=>uX _ _ _ _ _) Z Z Z Z λv20 _ h=>oN as' (jA (jI ?_)))))))))))));refine oN mv (oN (Pt.ilt Z Z) (jA ?_));refine jN Z h (λq21 h=>?_) (λq21 h=>?_)
   ·refine jC (oN mv (oN (Pt.mkF (c:=cI) ([U]:LI) [[I U]] aD Z Z Z qD qD Z) (jL h λg22 h=>oA (EvA.app1 (g:=false) (l:=s14.1) U aD (by kernel_rfl) Z Z Z nofun (bf.fz (l:=([U]:LI)) Z qD) g22) (oN (Pt.asg (hS false 0 (u16+1) 1 ((s14.1++[U]).length)) Z) (jA ?_)))))
    cases h
    exact ⟨u16+1,trivial,kw Z Z⟩
   refine jC (oN mv (oN mv (oN (fa r9 Z) (oN (lf (eL cI x.From) mZ Z) (oN mv (jD h λg23 h=>oN (Pt.ixL aD Z Z g23 qD) (oN (lf (I (J x.From v20)) PL Z) (jD h λg24 h=>oN (Pt.ixL aD Z Z g24 qD) (oN (lf (I (J values (J x.From v20))) PL Z) (oN (Pt.mkF (c:=cI) ([(J values (J x.From v20))]:LI) [[I (J values (J x.From v20))]] aD Z Z Z qD qD Z) (jL h λg25 h=>oA (EvA.app1 (g:=false) (l:=s14.1) (J values (J x.From v20)) aD (by kernel_rfl) Z Z Z nofun (bf.fz (l:=([(J values (J x.From v20))]:LI)) Z qD) g25) (oN (Pt.asg (hS false 0 (u16+1) 1 ((s14.1++[(J values (J x.From v20))]).length)) Z) ?_))))))))))));refine jA ?_
   cases h
   exact ⟨u16+1,trivial,kw Z Z⟩
  refine jM (lX h λh=>?_)
  cases h
  exact ⟨u16,trivial,kw Z Z⟩
 refine jM (lX h λh=>?_)
 cases h
 exact ⟨u8,trivial,kw Z Z⟩
theorem Bi (a:LI) (b:LI) {q} (h:mQ a b=some q):au Tryz.prog 79 [eL cI a,eL cI b] (I q):=by
 refine pM Tryz.func79 Z (by kernel_rfl) Z (jI (oN as' (jA ?_)));obtain ⟨Ks1,es1,ws1,h,ks1⟩:=qB h;refine T.join (S:=Unit) (G:=Unit) (λs1=>Ks1 s1=some q) (λs1 gh=>True) (λs1 gh=>[]) (λs1 gh=>[]) (λs1 gh h hg=>?_) ?_
 ·clear ks1;subst es1;refine jI (oN as' (jA (jK ?_)))
  cases h
  exact aF Z Z Z
 refine jI (oN as' (jA (jE ?_)));refine T.lU h (λs4=>[(5,I s4),(0,eL cI a),(1,eL cI b)]) (λs4=>[]) (kw Z Z) (λs4 ws4 h=>?_);refine jH (jI (oN mv (oN mv (oN (Pt.lenL aD Z) (oN (Pt.ilt Z Z) (oN mv ?_))))));refine TO.jB h 5 (λs6=>[(15,Bo s6),(5,I s4),(0,eL cI a),(1,eL cI b)]) (λs6=>[]) (λs6 q7 h js6=>?_) (λs6 q7 h js6=>?_) (λs6 h=>?_)
 ·refine gN Z q7 mv (gN Z q7 mv (gN Z q7 (Pt.lenL aD Z) (gN Z q7 (Pt.ilt Z Z) (oN (Pt.pickT Z q7 (Bo (decide (s4<(b.length:Int)))) Z) ?_))))
  cases h
  exact js6 _ _ (kw Z Z)
 ·refine gS Z q7 (gS Z q7 (gS Z q7 (gS Z q7 (oN (Pt.pickF Z q7 (Bo false) Z) ?_))))
  cases h
  exact js6 _ _ (kw Z Z)
 refine jA ?_;refine jN Z h (λq8 h=>?_) (λq8 h=>?_)
 ·refine jG (jH (jE (jH (jH (jP (λ_=>([],false)) (by kernel_rfl) (by kernel_rfl) (fN Z mv (fN Z mv (jD h λg9 h=>fN Z (Pt.ixL aD Z Z g9 qD) (fN Z (lf (I (J a s4)) PL Z) (fN Z mv (fN Z mv (jD h λg10 h=>fN Z (Pt.ixL aD Z Z g10 qD) (fN Z (lf (I (J b s4)) PL Z) ?_)))))))))))));refine fN Z (Pt.ilt Z Z) (jR ?_);refine jN Z h (λq11 h=>?_) (λq11 h=>?_)
  ·refine jI (oN as' (jA (jK (lX h λh=>?_))));obtain rfl:=Pw h;replace h:=congrArg some (show _=_ from ks1)
   cases h
   exact aF Z Z Z
  refine jG (jH (jP (λ_=>([],false)) (by kernel_rfl) (by kernel_rfl) (fN Z mv (fN Z mv (fN Z (Pt.ixL aD Z Z g9 qD) (fN Z (lf (I (J a s4)) PL Z) (fN Z mv (fN Z mv (fN Z (Pt.ixL aD Z Z g10 qD) (fN Z (lf (I (J b s4)) PL Z) (fN Z (Pt.igt Z Z) (jR ?_))))))))))));refine jN Z h (λq12 h=>?_) (λq12 h=>?_)
  ·refine jH (T.clean (H0:=[]) (e0:=ai []) Z Pq (jC (oN as' (jA (jK (lX h λh=>?_))))));obtain rfl:=Pw h;replace h:=congrArg some (show _=_ from ks1)
   cases h
   exact aF Z Z Z
  refine jG (T.clean (H0:=[]) (e0:=ai [(5,I s4),(0,eL cI a),(1,eL cI b)]) Z (Ps Z (Ps Z (Ps Z Pq))) (jC (oN mv (jW h λg13 h=>oN (Pt.add Z Z g13) (oN as' (jA ?_))))));exact lE h (kw Z Z)
 refine jM (lX h λh=>?_)
 cases h
 exact ⟨(),(),ks1,trivial,kw Z Z⟩
theorem zH (p:List (List Px)) (o_:LI) {q} (h:nU p o_=some q):au Tryz.prog 37 [eL (cL Px.c) p,eL cI o_] (eL Py.c q):=by
 refine pM Tryz.func37 Z (by kernel_rfl) Z (jI (oN as' (jA (jI (oA (EvA.mkO (c:=Py.c) ([]:List Py) [] AQ Z Z Z qD Z Z) (oN (Pt.asg (hS false 0 0 2 (([]:List Py).length)) Z) (jA (jI (oN mv (oC h (λ_=>BA _) Z Z Z Z λv1 _ h=>oN as' (jA ?_)))))))))));refine T.jF (G:=Nat) h (λs2 gh=>True) (λs2 gh=>[(5,hS false 0 gh 2 s2.length)]) (λs2 gh=>[bE false gh 2 34 (s2.map Py.c)]) (λs2 u21 h hg=>?_) (λs2 h=>?_)
 ·refine jI (oN mv (oN (Pt.asg (hS false 0 u21 2 s2.length) Z) (jA (jK ?_))));obtain rfl:=Pw h
  repeat (first|refine iA ?_|refine iB ?_)
  exact jQ (vs:=[hS false 0 u21 2 s2.length]) (.cons (.tmp Z) .nil) (Fz.own (g:=false) (ver:=u21) (l:=s2) Z Z Z nofun Py.isF)
 refine jI (oN as' (jA (jE ?_)));refine jO (S:=(List Py)×Int) (G:=Nat) (nA p o_ v1) (λs6 gh=>True) (λs6 gh=>[(7,I s6.2),(6,eL Py.c v1),(5,hS false 0 gh 2 s6.1.length),(0,eL (cL Px.c) p),(1,eL cI o_)]) (λs6 gh=>[bE false gh 2 34 (s6.1.map Py.c)]) (s0:=(([]:List Py),U)) 0 h trivial (kw Z Z) (λs6 u8 ws6 h hg=>?_);refine jH (jI (oN mv (oN mv (oN (Pt.lenL AQ Z) (oN (Pt.ilt Z Z) (jA ?_))))));refine jN Z h (λq9 h=>?_) (λq9 h=>?_)
 ·refine jG ?_;refine T.jF (G:=Nat) h (λs10 gh=>True) (λs10 gh=>[(5,hS false 0 gh 2 s10.length),(7,I s6.2),(6,eL Py.c v1),(0,eL (cL Px.c) p),(1,eL cI o_)]) (λs10 gh=>[bE false gh 2 34 (s10.map Py.c)]) (λs10 u19 h hg=>?_) (λs10 h=>?_)
  ·refine jC (oN mv (jW h λg20 h=>oN (Pt.add Z Z g20) (oN as' (jA ?_))));obtain rfl:=Pw h;exact ⟨(s10,(s6.2+V)),u19,Z,trivial,kw Z Z⟩
  refine jE (jI (oN mv (oN mv (oN mv (jD h λg11 h=>oN (Pt.ixL AQ Z Z g11 qD) (oN (lf (.agg (Py.c (J v1 s6.2))) pE Z) (oC h (λ_=>rU _ _) Z Z Z Z λv12 _ h=>oN mv (oN (Pt.ext (eL cI v12.1) Z Z) (oN (Pt.ext (Bo v12.2) Z Z) (oN as' (oN as' (jA (jI ?_)))))))))))));refine oN mv (oN mv ?_);refine TO.jB h 11 (λs13=>[(40,Bo s13),(7,I s6.2),(6,eL Py.c v1),(5,hS false 0 u8 2 s6.1.length),(0,eL (cL Px.c) p),(1,eL cI o_)]) (λs13=>[bE false u8 2 34 (s6.1.map Py.c)]) (λs13 q14 h js13=>?_) (λs13 q14 h js13=>?_) (λs13 h=>?_)
  ·refine gN Z q14 mv (gN Z q14 mv (gN Z q14 mv (gN Z q14 (Pt.ixL AQ Z Z g11 qD) (gN Z q14 (lf (.agg (Py.c (J v1 s6.2))) pE Z) (gN Z q14 mv (jB h λv15 cv15 h=>gN Z q14 (Pt.call Z Z Z (xb p (J v1 s6.2) v12.1 cv15) Z) (gN Z q14 mv (jB h λv16 cv16 h=>gN Z q14 (Pt.call Z Z Z (Bi v15 o_ cv16) Z) (gN Z q14 (Pt.ieq Z Z) (oN (Pt.pickT Z q14 (Bo (v16==U)) Z) ?_))))))))))
   cases h
   exact js13 _ _ (kw Z Z)
  ·refine gS Z q14 (gS Z q14 (gS Z q14 (gS Z q14 (gS Z q14 (gS Z q14 (gS Z q14 (gS Z q14 (gS Z q14 (gS Z q14 (oN (Pt.pickF Z q14 (Bo false) Z) ?_))))))))))
   cases h
   exact js13 _ _ (kw Z Z)
  refine jA ?_;refine jN Z h (λq17 h=>?_) (λq17 h=>?_)
  ·refine jC (oN mv (oN mv (oN mv (oN (Pt.ixL AQ Z Z g11 qD) (oN (lf (.agg (Py.c (J v1 s6.2))) pE Z) (oN (Pt.mkF (c:=Py.c) ([(J v1 s6.2)]:List Py) [(Py.c (J v1 s6.2))] AQ Z Z Z qD Py.isF Z) (jL h λg18 h=>oA (EvA.app1 (g:=false) (l:=s6.1) (J v1 s6.2) AQ (by kernel_rfl) Z Z Z nofun (bf.fz (l:=([(J v1 s6.2)]:List Py)) Z qD) g18) (oN (Pt.asg (hS false 0 (u8+1) 2 ((s6.1++[(J v1 s6.2)]).length)) Z) (jA ?_)))))))))
   cases h
   exact ⟨u8+1,trivial,kw Z Z⟩
  refine jG ?_
  cases h
  exact ⟨u8,trivial,kw Z Z⟩
 refine jM (lX h λh=>?_)
 cases h
 exact ⟨u8,trivial,kw Z Z⟩
theorem Bj (list:LI) (sign:ByteArray) {q} (h:pY list sign=some q):au Tryz.prog 81 [eL cI list,St sign] (St q):=by
 refine pM Tryz.func81 Z (by kernel_rfl) Z (jI (oN as' (jA (jI (oN as' (jA ?_))))));refine T.jU h (λs1=>[(5,St s1)]) (λs1=>[]) (λs1 h=>?_) (λs1 h=>?_)
 ·refine jI (oN mv (oN as' (jA (jK ?_))))
  cases h
  exact aF Z Z Z
 refine jI (oN as' (jA (jE ?_)));refine T.lU h (λs4=>[(6,I s4.1),(5,St s4.2),(0,eL cI list),(1,St sign)]) (λs4=>[]) (kw Z Z) (λs4 ws4 h=>?_);refine jH (jI (oN mv (oN mv (oN (Pt.lenL aD Z) (oN (Pt.ilt Z Z) (jA ?_))))));refine jN Z h (λq6 h=>?_) (λq6 h=>?_)
 ·refine jG (jH (jE ?_));refine T.jU h (λs7=>[(5,St s7),(6,I s4.1),(0,eL cI list),(1,St sign)]) (λs7=>[]) (λs7 h=>?_) (λs7 h=>?_)
  ·refine jC (oN mv (oN mv (oN mv (jD h λg10 h=>oN (Pt.ixL aD Z Z g10 qD) (oN (lf (I (J list s4.1)) PL Z) (oC h (λ_=>dW _) Z Z Z Z λv11 _ h=>jD h λg12 h=>oN (Pt.cat Z Z g12) (oN as' (jA (jC (oN mv (jW h λg13 h=>oN (Pt.add Z Z g13) ?_)))))))))));refine oN as' (jA ?_);exact lE h (kw Z Z)
  refine jI (oN mv (oN (Pt.igt Z Z) (jA ?_)));refine jN Z h (λq8 h=>?_) (λq8 h=>?_)
  ·refine jC (oN mv (oN mv (jD h λg9 h=>oN (Pt.cat Z Z g9) (oN as' (jA ?_)))))
   cases h
   exact ⟨(),trivial,kw Z Z⟩
  refine jG ?_
  cases h
  exact ⟨(),trivial,kw Z Z⟩
 refine jM (lX h λh=>?_)
 cases h
 exact ⟨(),trivial,kw Z Z⟩
theorem vP (p:List (List Px)) (x:Py) {q} (h:ku p x=some q):au Tryz.prog 38 [eL (cL Px.c) p,.agg (Py.c x)] (St q):=by
 refine pM Tryz.func38 Z (by kernel_rfl) Z (jI (oN (Pt.bxF [eL cI x.From,eL (cL cI) x.Order] Z Z Z) (oN as' (jA (jH (jI (oN mv (oN (lf (.agg (Py.c x)) pE Z) (oC h (λ_=>wN _ _) Z Z Z Z λv1 _ h=>oN (Pt.not Z) (jA ?_))))))))));refine jN Z h (λq2 h=>?_) (λq2 h=>?_)
 ·refine jI (oN as' (jA (jK ?_)))
  cases h
  exact aF Z Z Z
 refine jG (jI (oN as' (jA ?_)));refine T.jU h (λs3=>[(5,St s3),(3,.fp (Py.c x) 0)]) (λs3=>[]) (λs3 h=>?_) (λs3 h=>?_)
 ·refine T.jU h (λs19=>[(5,St s19)]) (λs19=>[]) (λs19 h=>?_) (λs19 h=>?_)
  ·refine jI (oN mv (oN as' (jA (jK ?_))))
   cases h
   exact aF Z Z Z
  refine jI (oN as' (jA (jE ?_)));refine T.lU h (λs22=>[(7,I s22.1),(5,St s22.2),(3,.fp (Py.c x) 0)]) (λs22=>[]) (kw Z Z) (λs22 ws22 h=>?_);refine jH (jI (oN mv (oN (Pt.ile Z Z) (jA ?_))));refine jN Z h (λq24 h=>?_) (λq24 h=>?_)
  ·refine jG (jH (jE ?_));refine T.jU h (λs25=>[(5,St s25),(7,I s22.1),(3,.fp (Py.c x) 0)]) (λs25=>[]) (λs25 h=>?_) (λs25 h=>?_)
   ·refine jC (oN mv (oN (fa r9 Z) (oN (lf (eL (cL cI) x.Order) zT Z) (oN mv (jD h λg28 h=>oN (Pt.ixL gT Z Z g28 qD) (oN (lf (eL cI (J x.Order s22.1)) mZ Z) (oC h (λ_=>Bj _ _) Z Z Z Z λv29 _ h=>jD h λg30 h=>oN (Pt.cat Z Z g30) (oN as' (jA (jC (oN mv (jW h λg31 h=>?_))))))))))));refine oN (Pt.add Z Z g31) (oN as' (jA ?_));exact lE h (kw Z Z)
   refine jI (oN mv (oN (Pt.igt Z Z) (jA ?_)));refine jN Z h (λq26 h=>?_) (λq26 h=>?_)
   ·refine jC (oN mv (jD h λg27 h=>oN (Pt.cat Z Z g27) (oN as' (jA ?_))))
    cases h
    exact ⟨(),trivial,kw Z Z⟩
   refine jG ?_
   cases h
   exact ⟨(),trivial,kw Z Z⟩
  refine jM (lX h λh=>?_)
  cases h
  exact ⟨(),trivial,kw Z Z⟩
 refine jI (oN as' (jA (jE ?_)));refine T.lU h (λs6=>[(6,I s6.1),(5,St s6.2),(3,.fp (Py.c x) 0)]) (λs6=>[]) (kw Z Z) (λs6 ws6 h=>?_);refine jH (jI (oN mv (oN (fa r9 Z) (oN (lf (eL cI x.From) mZ Z) (oN (Pt.lenL aD Z) (oN (Pt.ilt Z Z) (jA ?_)))))));refine jN Z h (λq8 h=>?_) (λq8 h=>?_)
 ·refine jG ?_;refine T.jU h (λs9=>[(5,St s9),(6,I s6.1),(3,.fp (Py.c x) 0)]) (λs9=>[]) (λs9 h=>?_) (λs9 h=>?_)
  ·refine jC (oN mv (jW h λg18 h=>oN (Pt.add Z Z g18) (oN as' (jA ?_))));exact lE h (kw Z Z)
  refine jE (jI (oN (fa r9 Z) (oN (lf (eL cI x.From) mZ Z) (oN mv (jD h λg10 h=>oN (Pt.ixL aD Z Z g10 qD) (oN (lf (I (J x.From s6.1)) PL Z) (oN (Pt.ige Z Z) (jA ?_))))))));refine jN Z h (λq11 h=>?_) (λq11 h=>?_)
  ·refine jP (λ_=>([],false)) (by kernel_rfl) (by kernel_rfl) (fN Z mv (fN Z mv (fC h (λ_=>dW _) Z Z Z Z Z λv12 _ h=>jD h λg13 h=>fN Z (Pt.cat Z Z g13) (jD h λg14 h=>fN Z (Pt.cat Z Z g14) (fN Z (fa r9 Z) (fN Z (lf (eL cI x.From) mZ Z) (fN Z mv (fN Z (Pt.ixL aD Z Z g10 qD) (fN Z (lf (I (J x.From s6.1)) PL Z) (fC h (λ_=>dW _) Z Z Z Z Z λv15 _ h=>jD h λg16 h=>fN Z (Pt.cat Z Z g16) ?_))))))))));refine jD h λg17 h=>fN Z (Pt.cat Z Z g17) (fN Z as' (jR ?_))
   cases h
   exact ⟨(),trivial,kw Z Z⟩
  refine jG ?_
  cases h
  exact ⟨(),trivial,kw Z Z⟩
 refine jM (lX h λh=>?_)
 cases h
 exact ⟨(),trivial,kw Z Z⟩
theorem sS (p:List (List Px)) (m:List ah) (o_:LI) {q} (h:cV p m o_=some q):au Tryz.prog 16 [eL (cL Px.c) p,eL ah.c m,eL cI o_] (St q):=by
 refine pM Tryz.func16 Z (by kernel_rfl) Z (jI (oN as' (jA (jH (jI (oN mv (oN mv (oC h (λ_=>ut _ _) Z Z Z Z λv1 _ h=>oN (Pt.not Z) (oN mv ?_)))))))));refine TO.jB h 4 (λs2=>[(18,Bo s2),(0,eL (cL Px.c) p),(1,eL ah.c m),(2,eL cI o_)]) (λs2=>[]) (λs2 q3 h js2=>?_) (λs2 q3 h js2=>?_) (λs2 h=>?_)
 ·refine gS Z q3 (gS Z q3 (gS Z q3 (oN (Pt.pickT Z q3 (Bo true) Z) ?_)))
  cases h
  exact js2 _ _ (kw Z Z)
 ·refine gN Z q3 mv (jB h λv4 cv4 h=>gN Z q3 (Pt.call Z Z Z (vF m cv4) Z) (gN Z q3 (Pt.not Z) (oN (Pt.pickF Z q3 (Bo (!v4)) Z) ?_)))
  cases h
  exact js2 _ _ (kw Z Z)
 refine jA ?_;refine jN Z h (λq5 h=>?_) (λq5 h=>?_)
 ·refine jI (oN as' (jA (jK ?_)))
  cases h
  exact aF Z Z Z
 refine jG (jI (oN mv (oN mv (oC h (λ_=>zH _ _) Z Z Z Z λv6 _ h=>oN as' (jA (jI (oN as' (jA ?_))))))));refine T.jU h (λs7=>[(8,St s7)]) (λs7=>[]) (λs7 h=>?_) (λs7 h=>?_)
 ·refine jH (jI (oN mv (oN (Pt.seq Z Z) (jA ?_))));refine jN Z h (λq21 h=>?_) (λq21 h=>?_)
  ·refine jI (oN as' (jA (jK ?_)))
   cases h
   exact aF Z Z Z
  refine jG (jI (oN mv (oN as' (jA (jK ?_)))))
  cases h
  exact aF Z Z Z
 refine jI (oN as' (jA (jE ?_)));refine T.lU h (λs10=>[(9,I s10.1),(8,St s10.2),(7,eL Py.c v6),(0,eL (cL Px.c) p),(1,eL ah.c m)]) (λs10=>[]) (kw Z Z) (λs10 ws10 h=>?_);refine jH (jI (oN mv (oN mv (oN (Pt.lenL AQ Z) (oN (Pt.ilt Z Z) (jA ?_))))));refine jN Z h (λq12 h=>?_) (λq12 h=>?_)
 ·refine jG (jH (jE (jP (λ_=>([],false)) (by kernel_rfl) (by kernel_rfl) (fN Z mv (fN Z mv (fN Z mv (fN Z mv (jD h λg13 h=>fN Z (Pt.ixL AQ Z Z g13 qD) (fN Z (lf (.agg (Py.c (J v6 s10.1))) pE Z) (fC h (λ_=>vP _ _) Z Z Z Z Z λv14 _ h=>jD h λg15 h=>fN Z (Pt.cat Z Z g15) (jD h λg16 h=>fN Z (Pt.cat Z Z g16) ?_)))))))))));refine fN Z mv (fN Z mv (fN Z mv (fN Z (Pt.ixL AQ Z Z g13 qD) (fN Z (lf (.agg (Py.c (J v6 s10.1))) pE Z) (fN Z mv (fC h (λ_=>zx _ _ _) Z Z Z Z Z λv17 _ h=>jD h λg18 h=>fN Z (Pt.cat Z Z g18) (jD h λg19 h=>fN Z (Pt.cat Z Z g19) (fN Z as' (jR (T.clean (H0:=[]) (e0:=ai [(8,St ((((s10.2++v14)++(⟨#[32]⟩:ByteArray))++v17)++(⟨#[10]⟩:ByteArray))),(9,I s10.1),(7,eL Py.c v6),(0,eL (cL Px.c) p),(1,eL ah.c m)]) Z (Ps Z (Ps Z (Ps Z (Ps Z (Ps Z Pq))))) (jC (oN mv ?_))))))))))));refine jW h λg20 h=>oN (Pt.add Z Z g20) (oN as' (jA ?_));exact lE h (kw Z Z)
 refine jM (lX h λh=>?_)
 cases h
 exact ⟨(),trivial,kw Z Z⟩
theorem sU (x:Int) {q} (h:jl x=some q):au Tryz.prog 83 [I x] (Bo q):=by
 refine pM Tryz.func83 Z (by kernel_rfl) Z (jI (oN as' (jA (jI (oN mv (oC h (λ_=>qw _ _ _) Z Z Z Z λv1 _ h=>oN (Pt.not Z) (oN as' (jA (jK ?_)))))))))
 cases h
 exact aF Z Z Z
theorem eC (s:LI) {q} (h:aZ s=some q):au Tryz.prog 132 [eL cI s,.fn (.func 83) []] (I q):=by
 refine pM Tryz.func132 Z (by kernel_rfl) Z (jI (oN as' (jA ?_)));obtain ⟨Ks1,es1,ws1,h,ks1⟩:=qB h;refine T.join (S:=Unit) (G:=Unit) (λs1=>Ks1 s1=some q) (λs1 gh=>True) (λs1 gh=>[]) (λs1 gh=>[]) (λs1 gh h hg=>?_) ?_
 ·clear ks1;subst es1;refine jI (oN as' (jA (jK ?_)))
  cases h
  exact aF Z Z Z
 refine jI (oN mv (oN (Pt.lenL aD Z) (oN mv (jA (jE ?_)))));refine T.lU h (λs4=>[(8,I s4),(7,I (s.length:Int)),(0,eL cI s),(1,.fn (.func 83) [])]) (λs4=>[]) (kw Z Z) (λs4 ws4 h=>?_);refine jI (oN (Pt.ilt Z Z) (jA (jH ?_)));refine jN Z h (λq6 h=>?_) (λq6 h=>?_)
 ·refine jG (jH (jE (jI (oN mv (oN as' (jA (jI (oN mv (oN mv (oN mv (jD h λg7 h=>oN (Pt.ixL aD Z Z g7 qD) (oN (lf (I (J s s4)) PL Z) (oC h (λ_=>sU _) Z Z Z Z λv8 _ h=>jA ?_)))))))))))));refine jN Z h (λq9 h=>?_) (λq9 h=>?_)
  ·refine jI (oN mv (oN as' (jA (jK (lX h λh=>?_)))));obtain rfl:=Pw h;replace h:=congrArg some (show _=_ from ks1)
   cases h
   exact aF Z Z Z
  refine jG (jC (jW h λg10 h=>oN (Pt.add Z Z g10) (oN mv (jA ?_))));exact lE h (kw Z Z)
 refine jM (lX h λh=>?_)
 cases h
 exact ⟨(),(),ks1,trivial,kw Z Z⟩
theorem dL (s:LI) {q} (h:aU s=some q):au Tryz.prog 82 [eL cI s,.fn (.func 83) []] (Bo q):=by
 refine pM Tryz.func82 Z (by kernel_rfl) Z (jI (oN as' (jA (jI (oN mv (oN mv (oC h (λ_=>eC _) Z Z Z Z λv1 _ h=>oN (Pt.ige Z Z) (oN as' (jA (jK ?_))))))))))
 cases h
 exact aF Z Z Z
theorem oq (p:List (List Px)) (o_:LI) {q} (h:cz p o_=some q):au Tryz.prog 39 [eL (cL Px.c) p,eL cI o_] (Bo q):=by
 refine pM Tryz.func39 Z (by kernel_rfl) Z (jI (oN as' (jA (jI (oN mv (oC h (λ_=>uh _) Z Z Z Z λv1 _ h=>oN mv ?_))))));refine TO.jB h 9 (λs2=>[(16,Bo s2),(1,eL cI o_)]) (λs2=>[]) (λs2 q3 h js2=>?_) (λs2 q3 h js2=>?_) (λs2 h=>?_)
 ·refine gN Z q3 mv (gN Z q3 (Pt.lenL aD Z) (gN Z q3 mv (gN Z q3 (Pt.lenL yM Z) (jW h λg4 h=>gN Z q3 (Pt.mul Z Z g4) (jW h λg5 h=>gN Z q3 (Pt.add Z Z g5) (jW h λg6 h=>gN Z q3 (Pt.add Z Z g6) (gN Z q3 (Pt.ieq Z Z) (oN (Pt.pickT Z q3 (Bo ((o_.length:Int)==((((3:Int)*(p.length:Int))+(2:Int))+V))) Z) ?_))))))))
  cases h
  exact js2 _ _ (kw Z Z)
 ·refine gS Z q3 (gS Z q3 (gS Z q3 (gS Z q3 (gS Z q3 (gS Z q3 (gS Z q3 (gS Z q3 (oN (Pt.pickF Z q3 (Bo false) Z) ?_))))))))
  cases h
  exact js2 _ _ (kw Z Z)
 refine oN mv ?_;refine TO.jB h 4 (λs7=>[(21,Bo s7)]) (λs7=>[]) (λs7 q8 h js7=>?_) (λs7 q8 h js7=>?_) (λs7 h=>?_)
 ·refine gN Z q8 mv (jB h λv9 cv9 h=>gN Z q8 (Pt.call Z Z Z (dL o_ cv9) Z) (gN Z q8 (Pt.not Z) (oN (Pt.pickT Z q8 (Bo (!v9)) Z) ?_)))
  cases h
  exact js7 _ _ (kw Z Z)
 ·refine gS Z q8 (gS Z q8 (gS Z q8 (oN (Pt.pickF Z q8 (Bo false) Z) ?_)))
  cases h
  exact js7 _ _ (kw Z Z)
 refine oN as' (jA (jK ?_))
 cases h
 exact aF Z Z Z
theorem qy (k_:Int) (a1:Int) {q} (h:gI k_ a1=some q):au Tryz.prog 135 [I k_,.fp (cI a1) 0] (Bo q):=by
 refine pM Tryz.func135 Z (by kernel_rfl) Z (jI (oN as' (jA (jI (oN mv (oN (lf (I a1) PL Z) (oN (Pt.ieq Z Z) (oN as' (jA (jK ?_))))))))))
 cases h
 exact aF Z Z Z
theorem gP (s:LI) (f0:Int) {q} (h:bA s f0=some q):au Tryz.prog 132 [eL cI s,.fn (.func 135) [.fp (cI f0) 0]] (I q):=by
 refine pM Tryz.func132 Z (by kernel_rfl) Z (jI (oN as' (jA ?_)));obtain ⟨Ks1,es1,ws1,h,ks1⟩:=qB h;refine T.join (S:=Unit) (G:=Unit) (λs1=>Ks1 s1=some q) (λs1 gh=>True) (λs1 gh=>[]) (λs1 gh=>[]) (λs1 gh h hg=>?_) ?_
 ·clear ks1;subst es1;refine jI (oN as' (jA (jK ?_)))
  cases h
  exact aF Z Z Z
 refine jI (oN mv (oN (Pt.lenL aD Z) (oN mv (jA (jE ?_)))));refine T.lU h (λs4=>[(8,I s4),(7,I (s.length:Int)),(0,eL cI s),(1,.fn (.func 135) [.fp (cI f0) 0])]) (λs4=>[]) (kw Z Z) (λs4 ws4 h=>?_);refine jI (oN (Pt.ilt Z Z) (jA (jH ?_)));refine jN Z h (λq6 h=>?_) (λq6 h=>?_)
 ·refine jG (jH (jE (jI (oN mv (oN as' (jA (jI (oN mv (oN mv (oN mv (jD h λg7 h=>oN (Pt.ixL aD Z Z g7 qD) (oN (lf (I (J s s4)) PL Z) (oC h (λ_=>qy _ _) Z Z Z Z λv8 _ h=>jA ?_)))))))))))));refine jN Z h (λq9 h=>?_) (λq9 h=>?_)
  ·refine jI (oN mv (oN as' (jA (jK (lX h λh=>?_)))));obtain rfl:=Pw h;replace h:=congrArg some (show _=_ from ks1)
   cases h
   exact aF Z Z Z
  refine jG (jC (jW h λg10 h=>oN (Pt.add Z Z g10) (oN mv (jA ?_))));exact lE h (kw Z Z)
 refine jM (lX h λh=>?_)
 cases h
 exact ⟨(),(),ks1,trivial,kw Z Z⟩
theorem fU (s:LI) (yD:Int) (gw:Bool) (iL:Nat) (hgw:gw=true->s=[]) {q} (h:aS s yD=some q):cg Tryz.prog 134 [hS gw 0 iL 1 s.length,.fn (.func 135) [.fp (cI yD) 0]] [bE gw iL 1 3 (s.map cI)] (Fb 1 3 (λx=>x) q.length (q.map cI) 0 []):=by
 refine cg.mkS Tryz.func134 Z (by kernel_rfl) Z (by kernel_rfl) (e0:=ai [(0,hS gw 0 iL 1 s.length),(1,.fn (.func 135) [.fp (cI yD) 0])]) (Ps Z (Ps Z Pq)) (jI (oN as' (jA (jI (oN mv (oN mv (jB h λv1 cv1 h=>oA (EvA.callT Z Z (gP s yD cv1) (.cons (Fz.own (g:=gw) (ver:=iL) (l:=s) Z Z Z hgw qD) (.cons (qC Z) .nil)) Z) (oN as' (jA (jH (jI (oN mv (oN (Pt.ieq Z Z) (jA ?_))))))))))))));refine jN Z h (λq2 h=>?_) (λq2 h=>?_)
 ·refine jI (oN mv (oN (Pt.asg (hS gw 0 iL 1 s.length) Z) (jA (jK ?_))));obtain rfl:=Pw h
  repeat (first|refine iA ?_|refine iB ?_)
  exact ⟨ai [(4,hS gw 0 iL 1 s.length)],[bE gw iL 1 3 (s.map cI)],kw Z Z,jQ (vs:=[hS gw 0 iL 1 s.length]) (.cons (.tmp Z) .nil) ⟨gw,iL,(tP hgw Z),Z,Z⟩⟩
 refine jG ?_;refine T.jF (G:=(Bool×Nat)) h (λs3 gh=>(gh.1=true->s3.1=[])) (λs3 gh=>[(5,I s3.2),(0,hS gh.1 0 gh.2 1 s3.1.length)]) (λs3 gh=>[bE gh.1 gh.2 1 3 (s3.1.map cI)]) (λs3 gh h n26=>?_) (λs3 h=>?_)
 ·obtain ⟨b25,u24⟩:=gh;refine jI (oN mv (oN mv (jD h λg27 h=>?_)));obtain rfl:=DF n26 rfl g27;refine jD h λg28 h=>oN (Pt.slhs Tryz.underlying23 PL (l:=s3.2) (h:=(s3.1.length:Int)) Z (.yes Z) .no g28) (oV (EvA.clearO (l:=s3.1) aD zrE Z Z (Km (l:=s3.1) g28 Z)) (jA (jI (oN mv (oN mv (jD h λg29 h=>oA (EvA.cutO (l:=(cpy s3.1 (0+s3.2.toNat) (Wd ((s3.1.length:Int).toNat-s3.2.toNat) (default:Int)) ((s3.1.length:Int).toNat-s3.2.toNat))) (zl:=(0:Int)) (zh:=s3.2) (Pt.slhs Tryz.underlying23 PL (l:=(0:Int)) (h:=s3.2) Z .no (.yes Z) g29) Z (by simp [BP]) g29) (oN (Pt.asg (hS false 0 (u24+1) 1 ((((cpy s3.1 (0+s3.2.toNat) (Wd ((s3.1.length:Int).toNat-s3.2.toNat) (default:Int)) ((s3.1.length:Int).toNat-s3.2.toNat)).drop (0:Int).toNat).take (s3.2.toNat-(0:Int).toNat)).length)) Z) (jA (jK ?_)))))))));obtain rfl:=Pw h
  repeat (first|refine iA ?_|refine iB ?_)
  exact ⟨ai [(4,hS false 0 (u24+1) 1 ((((cpy s3.1 (0+s3.2.toNat) (Wd ((s3.1.length:Int).toNat-s3.2.toNat) (default:Int)) ((s3.1.length:Int).toNat-s3.2.toNat)).drop U.toNat).take (s3.2.toNat-U.toNat)).length))],[bE false (u24+1) 1 3 ((((cpy s3.1 (0+s3.2.toNat) (Wd ((s3.1.length:Int).toNat-s3.2.toNat) (default:Int)) ((s3.1.length:Int).toNat-s3.2.toNat)).drop U.toNat).take (s3.2.toNat-U.toNat)).map cI)],kw Z Z,jQ (vs:=[hS false 0 (u24+1) 1 ((((cpy s3.1 (0+s3.2.toNat) (Wd ((s3.1.length:Int).toNat-s3.2.toNat) (default:Int)) ((s3.1.length:Int).toNat-s3.2.toNat)).drop U.toNat).take (s3.2.toNat-U.toNat)).length)]) (.cons (.tmp Z) .nil) ⟨false,u24+1,nofun,Z,Z⟩⟩
 refine jI (oN mv (jW h λg4 h=>oN (Pt.add Z Z g4) (oN as' (jA (jE ?_)))));refine jO (S:=(LI)×Int×Int) (G:=(Bool×Nat)) (aW yD) (λs10 gh=>(gh.1=true->s10.1=[])) (λs10 gh=>[(6,I s10.2.1),(5,I s10.2.2),(0,hS gh.1 0 gh.2 1 s10.1.length),(1,.fn (.func 135) [.fp (cI yD) 0])]) (λs10 gh=>[bE gh.1 gh.2 1 3 (s10.1.map cI)]) (s0:=(s,(v1+V),v1)) (gw,iL) h hgw (kw Z Z) (λs10 gh ws10 h n14=>?_);obtain ⟨b13,u12⟩:=gh;refine jH (jI (oN mv (oN mv (oN (Pt.lenO (g:=b13) aD Z (tP n14 Z)) (oN (Pt.ilt Z Z) (jA ?_))))));refine jN Z h (λq15 h=>?_) (λq15 h=>?_)
 ·refine jG ?_;refine T.jF (G:=Nat) h (λs16 gh=>True) (λs16 gh=>[(5,I s16.2),(6,I s10.2.1),(0,hS false 0 gh 1 s16.1.length),(1,.fn (.func 135) [.fp (cI yD) 0])]) (λs16 gh=>[bE false gh 1 3 (s16.1.map cI)]) (λs16 u22 h hg=>?_) (λs16 h=>?_)
  ·refine jC (oN mv (jW h λg23 h=>oN (Pt.add Z Z g23) (oN as' (jA ?_))));obtain rfl:=Pw h;exact ⟨(s16.1,(s10.2.1+V),s16.2),(false,u22),Z,nofun,kw Z Z⟩
  refine jE (jI (oN mv (oN mv (jD h λg17 h=>?_))));obtain rfl:=DF n14 rfl g17;refine oN (Pt.ixO (g:=false) aD Z Z nofun g17) (oA (EvA.ldO (g:=false) (l:=s10.1) (I (J s10.1 s10.2.1)) PL Z Z nofun (aH Z g17) Z) (oN as' (jA (jI (oN mv (oN mv (oC h (λ_=>qy _ _) Z Z Z Z λv18 _ h=>oN (Pt.not Z) (jA ?_))))))));refine jN Z h (λq19 h=>?_) (λq19 h=>?_)
  ·refine jI (oN mv (oN mv (oN mv (jD h λg20 h=>oN (Pt.ixO (g:=false) aD Z Z nofun g20) (oV (EvA.stO (g:=false) (l:=s10.1) (cs:=[I (J s10.1 s10.2.1)]) (J s10.1 s10.2.1) PL Z Z Z nofun (aH Z g20) Z Z Z) (jA (T.clean (H0:=[bE false u12 1 3 ((s10.1.set s10.2.2.toNat (J s10.1 s10.2.1)).map cI)]) (e0:=ai [(6,I s10.2.1),(5,I s10.2.2),(0,hS false 0 u12 1 s10.1.length),(1,.fn (.func 135) [.fp (cI yD) 0])]) Z (Ps Z (Ps Z (Ps Z (Ps Z Pq)))) (jC (oN mv (jW h λg21 h=>oN (Pt.add Z Z g21) (oN as' (jA ?_))))))))))));obtain rfl:=Pw h;exact ⟨u12,trivial,BL Z (Ps Z (Ps Z (Ps (congrArg (hS false 0 u12 1) (by simp:s10.1.length=(s10.1.set s10.2.2.toNat (J s10.1 s10.2.1)).length)) (Ps Z Pq))))⟩
  refine jG ?_
  cases h
  exact ⟨u12,trivial,kw Z Z⟩
 refine jM (lX h λh=>?_)
 cases h
 exact ⟨(b13,u12),n14,kw Z Z⟩
theorem zI:∀ (nf:Nat) (writes:LI) {q} (h:gK nf writes=some q),au Tryz.prog 136 [eL cI writes] (eL (cL cI) q):=by
 intro nf
 induction nf with
 | zero=>intros;rename_i h;cases h
 | succ nf ih=>
  intro writes q h;replace h:gJ (gK nf) writes=some q:=h;refine pM Tryz.func136 Z (by kernel_rfl) Z (jI (oN as' (jA (jH (jI (oN mv (oN (Pt.lenL aD Z) (oN (Pt.ieq Z Z) (jA ?_)))))))));refine jN Z h (λq1 h=>?_) (λq1 h=>?_)
  ·refine jI (oN (Pt.mkF0 (f:=cI) gT Z Z Z) (oN as' (jA (jK ?_))))
   cases h
   exact aF Z Z Z
  refine jG (jH (T.reserve (jC (oN (Pt.asg (hS true 0 0 1 (([]:LL).length)) Z) (jA ?_)))));refine T.jF (G:=(Bool×Nat)) h (λs2 gh=>(gh.1=true->s2=[])) (λs2 gh=>[(3,hS gh.1 0 gh.2 1 s2.length)]) (λs2 gh=>[bE gh.1 gh.2 1 23 (s2.map (cL cI))]) (λs2 gh h n47=>?_) (λs2 h=>?_)
  ·obtain ⟨b46,u45⟩:=gh;refine jI (oN mv (oN (Pt.asg (hS b46 0 u45 1 s2.length) Z) (jA (jK ?_))));obtain rfl:=Pw h
   repeat (first|refine iA ?_|refine iB ?_)
   exact jQ (vs:=[hS b46 0 u45 1 s2.length]) (.cons (.tmp Z) .nil) (Fz.own (g:=b46) (ver:=u45) (l:=s2) Z Z Z n47 qD)
  refine jI (oN mv (oN (Pt.lenL aD Z) (oN mv (jA (jE ?_)))));refine jO (S:=(LL)×Int) (G:=(Bool×Nat)) (lc (gK nf) writes) (λs8 gh=>(gh.1=true->s8.1=[])) (λs8 gh=>[(14,I s8.2),(13,I (writes.length:Int)),(12,eL cI writes),(3,hS gh.1 0 gh.2 1 s8.1.length),(0,eL cI writes)]) (λs8 gh=>[bE gh.1 gh.2 1 23 (s8.1.map (cL cI))]) (s0:=(([]:LL),U)) (true,0) h qD (kw Z Z) (λs8 gh ws8 h n12=>?_);let d0:=writes.getD s8.2.toNat default;obtain ⟨b11,u10⟩:=gh;refine jI (oN (Pt.ilt Z Z) (jA (jH ?_)));refine jN Z h (λq13 h=>?_) (λq13 h=>?_)
  ·refine jG ?_;refine T.jF (G:=(Bool×Nat)) h (λs14 gh=>(gh.1=true->s14=[])) (λs14 gh=>[(14,I s8.2),(13,I (writes.length:Int)),(12,eL cI writes),(3,hS gh.1 0 gh.2 1 s14.length),(0,eL cI writes)]) (λs14 gh=>[bE gh.1 gh.2 1 23 (s14.map (cL cI))]) (λs14 gh h n43=>?_) (λs14 h=>?_)
   ·obtain ⟨b42,u41⟩:=gh;refine jC (jW h λg44 h=>oN (Pt.add Z Z g44) (oN mv (jA ?_)));obtain rfl:=Pw h;exact ⟨(s14,(s8.2+V)),(b42,u41),Z,n43,kw Z Z⟩
   refine jE (jI (oN mv (jD h λg15 h=>oN (Pt.ixL aD Z Z g15 qD) (oN (lf (I d0) PL Z) (oN as' (oN as' (jA (jI (oN mv (jB h λv16 cv16 h=>?_))))))))));refine oG Z Z Z ((bM writes cv16).own Z (qF qD) qI 1 Z) (λg17 v18 n19=>?_);refine oN mv (oN mv (jW h λg20 h=>oN (Pt.add Z Z g20) (jB h λv21 cv21 h=>?_)));refine oGW Z Z (xU v16 s8.2 (s8.2+V) g17 v18 (λx=>We (n19 x)) cv21) Z (.cons (lq Z) (.cons (.pF Z) (.cons (.pF Z) .nil))) (qF qD) (qF qD) qI (λg22 v23 n24=>?_);refine TO.cut (e0:=ai [(24,eL cI v21),(5,I d0),(14,I s8.2),(13,I (writes.length:Int)),(12,eL cI writes),(3,hS b11 0 u10 1 s8.1.length),(0,eL cI writes)]) (H0:=[bE b11 u10 1 23 (s8.1.map (cL cI))]) (ow Z (.cons (.list (g:=b11) (ver:=u10) (l:=s8.1) qD) .nil) (ae (.fz (Fz.own (g:=g22) (ver:=v23) (l:=v21) Z Z Z (λx=>We (n24 x)) qD)) (ae (.fz (qC Z)) (ae (.fz (qC Z)) (ae (.fz (qC Z)) (ae (.fz (qC Z)) (ae (.hS (g:=b11) (b:=0) (ver:=u10) (s:=1) (n:=s8.1.length) Z) (ae (.fz (qC Z)) aN)))))))) (oC h (λ_=>ih _) Z Z Z Z λv25 _ h=>oN (Pt.lenL gT Z) (oN mv (jA (jE ?_))));refine jO (S:=(LL)×Int) (G:=(Bool×Nat)) (nB writes s8 v25) (λs31 gh=>(gh.1=true->s31.1=[])) (λs31 gh=>[(27,I s31.2),(26,I (v25.length:Int)),(25,eL (cL cI) v25),(5,I d0),(14,I s8.2),(13,I (writes.length:Int)),(12,eL cI writes),(3,hS gh.1 0 gh.2 1 s31.1.length),(0,eL cI writes)]) (λs31 gh=>[bE gh.1 gh.2 1 23 (s31.1.map (cL cI))]) (s0:=(s8.1,U)) (b11,u10) h n12 (kw Z Z) (λs31 gh ws31 h n35=>?_);obtain ⟨b34,u33⟩:=gh;refine jI (oN (Pt.ilt Z Z) (jA (jH ?_)));refine jN Z h (λq36 h=>?_) (λq36 h=>?_)
   ·refine jG (jH (jE (jI (jD h λg37 h=>oN (Pt.ixL gT Z Z g37 qD) (oN (lf (eL cI (J v25 s31.2)) mZ Z) (oN as' (jA (jC (oN mv (oN mv (oA (EvA.mkO (c:=cI) ([d0]:LI) [[I d0]] aD Z Z Z qD Z Z) (oN mv (jL h λg38 h=>oA (EvA.appF (l:=([d0]:LI)) (J v25 s31.2) aD (by kernel_rfl) Z Z Z (bf.fz (l:=(J v25 s31.2)) Z qD) g38) ?_)))))))))))));refine oA (EvA.mkR [[hS false 1 (0+1) 1 ((([d0]:LI)++(J v25 s31.2)).length)]] gT Z Z Z Z) (jL h λg39 h=>oA (EvA.appR (g:=b34) (rows:=s31.1.map (cL cI)) (rows':=s31.1.map (cL cI)++[[hS false 1 (0+1) 1 ((([d0]:LI)++(J v25 s31.2)).length)]]) (n':=s31.1.length+1) gT (by kernel_rfl) Z Z (by simp) (λq=>by first | (rw [n35 q];rfl) | (cases q)) (bf.raw (rows:=[[hS false 1 (0+1) 1 ((([d0]:LI)++(J v25 s31.2)).length)]]) Z Z Z) g39 Z Z) (oN (Pt.asg (hS false 0 (u33+1) 1 (s31.1.length+1)) Z) (jA (T.cut (e0:=ai [(3,hS false 0 (u33+1) 1 ((s31.1++[(([d0]:LI)++(J v25 s31.2))]).length)),(27,I s31.2),(26,I (v25.length:Int)),(25,eL (cL cI) v25),(5,I d0),(14,I s8.2),(13,I (writes.length:Int)),(12,eL cI writes),(0,eL cI writes)]) (H0:=[bE false (u33+1) 1 23 ((s31.1++[(([d0]:LI)++(J v25 s31.2))]).map (cL cI))]) (ow Z (.cons (.snoc qD (.cons (.cons (.fz (Fz.own (g:=false) (ver:=0+1) (l:=(([d0]:LI)++(J v25 s31.2))) Z Z Z nofun qD)) .nil) .nil)) .nil) (ae (.eqv (congrArg (hS false 0 (u33+1) 1) (by simp:(s31.1.length+1)=(s31.1++[(([d0]:LI)++(J v25 s31.2))]).length)) (.hS (g:=false) (b:=0) (ver:=u33+1) (s:=1) (n:=(s31.1++[(([d0]:LI)++(J v25 s31.2))]).length) Z)) (ae (.fz (qC Z)) (ae (.fz (qC Z)) (ae (.fz (qC Z)) (ae (.fz (qC Z)) (ae (.fz (qC Z)) (ae (.fz (qC Z)) (ae (.fz (qC Z)) (ae (.fz (qC Z)) aN)))))))))) (jC (jW h λg40 h=>oN (Pt.add Z Z g40) (oN mv (jA ?_))))))));obtain rfl:=Pw h;exact ⟨((s31.1++[(([d0]:LI)++(J v25 s31.2))]),(s31.2+V)),(false,u33+1),Z,nofun,kw Z Z⟩
   refine jM (lX h λh=>?_)
   cases h
   exact ⟨(b34,u33),n35,kw Z Z⟩
  refine jM (lX h λh=>?_)
  cases h
  exact ⟨(b11,u10),n12,kw Z Z⟩
theorem Bl (writes:LI) {q} (h:sN writes=some q):au Tryz.prog 136 [eL cI writes] (eL (cL cI) q):=by
 obtain ⟨nf,h⟩:=mb h;exact zI nf writes h
theorem uL (choices:LL) {q} (h:ja choices=some q):au Tryz.prog 137 [eL (cL cI) choices] (eL (cL cI) q):=by
 refine pM Tryz.func137 Z (by kernel_rfl) Z (jI (oN as' (jA (jI (oN (Pt.mkF0 (f:=cI) gT Z Z Z) (oN as' (jA ?_)))))));refine T.jU h (λs1=>[(3,eL (cL cI) s1)]) (λs1=>[]) (λs1 h=>?_) (λs1 h=>?_)
 ·refine jI (oN mv (oN as' (jA (jK ?_))))
  cases h
  exact aF Z Z Z
 refine jI (oN mv (oN (Pt.lenL gT Z) (oN mv (jA (jE ?_)))));refine T.lU h (λs4=>[(14,I s4.1),(13,I (choices.length:Int)),(12,eL (cL cI) choices),(3,eL (cL cI) s4.2)]) (λs4=>[]) (kw Z Z) (λs4 ws4 h=>?_);let d0:=choices.getD s4.1.toNat default;refine jI (oN (Pt.ilt Z Z) (jA (jH ?_)));refine jN Z h (λq6 h=>?_) (λq6 h=>?_)
 ·refine jG ?_;refine T.jU h (λs7=>[(3,eL (cL cI) s7),(14,I s4.1),(13,I (choices.length:Int)),(12,eL (cL cI) choices)]) (λs7=>[]) (λs7 h=>?_) (λs7 h=>?_)
  ·refine jC (jW h λg49 h=>oN (Pt.add Z Z g49) (oN mv (jA ?_)));exact lE h (kw Z Z)
  refine jE (jI (jD h λg8 h=>oN (Pt.ixL gT Z Z g8 qD) (oN (lf (eL cI d0) mZ Z) (oN as' (jA (jH (T.reserve (jC (oN (Pt.asg (hS true 0 0 1 (([]:LL).length)) Z) (jA ?_))))))))));refine T.jF (G:=(Bool×Nat)) h (λs9 gh=>(gh.1=true->s9=[])) (λs9 gh=>[(6,hS gh.1 0 gh.2 1 s9.length),(14,I s4.1),(13,I (choices.length:Int)),(12,eL (cL cI) choices)]) (λs9 gh=>[bE gh.1 gh.2 1 23 (s9.map (cL cI))]) (λs9 gh h n48=>?_) (λs9 h=>?_)
  ·obtain ⟨b47,u46⟩:=gh;refine jC (oN mv (oN (Pt.asg (hS b47 0 u46 1 s9.length) Z) (jA ?_)));obtain rfl:=Pw h;exact ⟨(),trivial,ow Z .nil (ae (.fz (Fz.own (g:=b47) (ver:=u46) (l:=s9) Z Z Z n48 qD)) (ae (.fz (qC Z)) (ae (.fz (qC Z)) (ae (.fz (qC Z)) aN))))⟩
  refine jI (oN mv (oN (Pt.lenL gT Z) (oN mv (jA (jE ?_)))));refine jO (S:=(LL)×Int) (G:=(Bool×Nat)) (d9 choices s4) (λs15 gh=>(gh.1=true->s15.1=[])) (λs15 gh=>[(20,I s15.2),(19,I (s4.2.length:Int)),(18,eL (cL cI) s4.2),(6,hS gh.1 0 gh.2 1 s15.1.length),(5,eL cI d0),(14,I s4.1),(13,I (choices.length:Int)),(12,eL (cL cI) choices)]) (λs15 gh=>[bE gh.1 gh.2 1 23 (s15.1.map (cL cI))]) (s0:=(([]:LL),U)) (true,0) h qD (kw Z Z) (λs15 gh ws15 h n19=>?_);obtain ⟨b18,u17⟩:=gh;refine jI (oN (Pt.ilt Z Z) (jA (jH ?_)));refine jN Z h (λq20 h=>?_) (λq20 h=>?_)
  ·refine jG ?_;refine T.jF (G:=(Bool×Nat)) h (λs21 gh=>(gh.1=true->s21=[])) (λs21 gh=>[(20,I s15.2),(19,I (s4.2.length:Int)),(18,eL (cL cI) s4.2),(6,hS gh.1 0 gh.2 1 s21.length),(5,eL cI d0),(14,I s4.1),(13,I (choices.length:Int)),(12,eL (cL cI) choices)]) (λs21 gh=>[bE gh.1 gh.2 1 23 (s21.map (cL cI))]) (λs21 gh h n44=>?_) (λs21 h=>?_)
   ·obtain ⟨b43,u42⟩:=gh;refine jC (jW h λg45 h=>oN (Pt.add Z Z g45) (oN mv (jA ?_)));obtain rfl:=Pw h;exact ⟨(s21,(s15.2+V)),(b43,u42),Z,n44,kw Z Z⟩
   refine jE (jI (jD h λg22 h=>oN (Pt.ixL gT Z Z g22 qD) (oN (lf (eL cI (J s4.2 s15.2)) mZ Z) (oN as' (jA (jI (oN mv (oN (Pt.lenL aD Z) (oN mv (jA (jE ?_)))))))))));refine jO (S:=(LL)×Int) (G:=(Bool×Nat)) (dZ choices s4 s15) (λs28 gh=>(gh.1=true->s28.1=[])) (λs28 gh=>[(26,I s28.2),(25,I (d0.length:Int)),(24,eL cI d0),(8,eL cI (J s4.2 s15.2)),(20,I s15.2),(19,I (s4.2.length:Int)),(18,eL (cL cI) s4.2),(6,hS gh.1 0 gh.2 1 s28.1.length),(5,eL cI d0),(14,I s4.1),(13,I (choices.length:Int)),(12,eL (cL cI) choices)]) (λs28 gh=>[bE gh.1 gh.2 1 23 (s28.1.map (cL cI))]) (s0:=(s15.1,U)) (b18,u17) h n19 (kw Z Z) (λs28 gh ws28 h n32=>?_);obtain ⟨b31,u30⟩:=gh;refine jI (oN (Pt.ilt Z Z) (jA (jH ?_)));refine jN Z h (λq33 h=>?_) (λq33 h=>?_)
   ·refine jG (jH (jE (jI (jD h λg34 h=>oN (Pt.ixL aD Z Z g34 qD) (oN (lf (I (J d0 s28.2)) PL Z) (oN as' (jA (jC (oN mv (oN mv (jB h λv35 cv35 h=>?_)))))))))));refine oG Z Z Z ((bM (J s4.2 s15.2) cv35).own Z (qF qD) qI 1 Z) (λg36 v37 n38=>?_);refine oN mv (oN (Pt.mkF (c:=cI) ([(J d0 s28.2)]:LI) [[I (J d0 s28.2)]] aD Z Z Z qD qD Z) (jL h λg39 h=>oA (EvA.app1 (g:=g36) (l:=v35) (J d0 s28.2) aD (by kernel_rfl) Z Z Z (λx=>We (n38 x)) (bf.fz (l:=([(J d0 s28.2)]:LI)) Z qD) g39) (oA (EvA.mkR [[hS false 1 (v37+1) 1 ((v35++[(J d0 s28.2)]).length)]] gT Z Z Z Z) (jL h λg40 h=>oA (EvA.appR (g:=b31) (rows:=s28.1.map (cL cI)) (rows':=s28.1.map (cL cI)++[[hS false 1 (v37+1) 1 ((v35++[(J d0 s28.2)]).length)]]) (n':=s28.1.length+1) gT (by kernel_rfl) Z Z (by simp) (λq=>by first | (rw [n32 q];rfl) | (cases q)) (bf.raw (rows:=[[hS false 1 (v37+1) 1 ((v35++[(J d0 s28.2)]).length)]]) Z Z Z) g40 Z Z) (oN (Pt.asg (hS false 0 (u30+1) 1 (s28.1.length+1)) Z) (jA (T.cut (e0:=ai [(6,hS false 0 (u30+1) 1 ((s28.1++[(v35++[(J d0 s28.2)])]).length)),(26,I s28.2),(25,I (d0.length:Int)),(24,eL cI d0),(8,eL cI (J s4.2 s15.2)),(20,I s15.2),(19,I (s4.2.length:Int)),(18,eL (cL cI) s4.2),(5,eL cI d0),(14,I s4.1),(13,I (choices.length:Int)),(12,eL (cL cI) choices)]) (H0:=[bE false (u30+1) 1 23 ((s28.1++[(v35++[(J d0 s28.2)])]).map (cL cI))]) (ow Z (.cons (.snoc qD (.cons (.cons (.fz (Fz.own (g:=false) (ver:=v37+1) (l:=(v35++[(J d0 s28.2)])) Z Z Z nofun qD)) .nil) .nil)) .nil) (ae (.eqv (congrArg (hS false 0 (u30+1) 1) (by simp:(s28.1.length+1)=(s28.1++[(v35++[(J d0 s28.2)])]).length)) (.hS (g:=false) (b:=0) (ver:=u30+1) (s:=1) (n:=(s28.1++[(v35++[(J d0 s28.2)])]).length) Z)) (ae (.fz (qC Z)) (ae (.fz (qC Z)) (ae (.fz (qC Z)) (ae (.fz (qC Z)) (ae (.fz (qC Z)) (ae (.fz (qC Z)) (ae (.fz (qC Z)) (ae (.fz (qC Z)) (ae (.fz (qC Z)) (ae (.fz (qC Z)) (ae (.fz (qC Z)) aN))))))))))))) (jC (jW h λg41 h=>oN (Pt.add Z Z g41) (oN mv (jA ?_)))))))))));obtain rfl:=Pw h;exact ⟨((s28.1++[(v35++[(J d0 s28.2)])]),(s28.2+V)),(false,u30+1),Z,nofun,kw Z Z⟩
   refine jM (lX h λh=>?_)
   cases h
   exact ⟨(b31,u30),n32,kw Z Z⟩
  refine jM (lX h λh=>?_)
  cases h
  exact ⟨(b18,u17),n19,kw Z Z⟩
 refine jM (lX h λh=>?_)
 cases h
 exact ⟨(),trivial,kw Z Z⟩
theorem xc (s:LL) {q} (h:mR s=some q):cg Tryz.prog 184 [eL (cL cI) s] [] (Fb 1 23 (λx=>x) q.length (q.map (cL cI)) 0 []):=by
 refine cg.mkO Tryz.func184 Z (by kernel_rfl) Z (by kernel_rfl) (e0:=ai [(0,eL (cL cI) s)]) (Ps Z Pq) qI (qF qD) (jI (oN as' (jA (jH (jI (oN mv ?_))))));refine OU false Tryz.underlying24 Z Z (λz1=>?_) ?_
 ·replace h:=(CE h).1 (by rw [z1];rfl);refine jA ?_;refine T.cond Z (λ_=>?_) (λq=>absurd (q.symm.trans Z) (by decide));refine jI (oN as' (jA (jK ?_)));obtain rfl:=Pw h
  repeat (first|refine iA ?_|refine iB ?_)
  exact jQ (vs:=[.nil]) (.cons (.tmp Z) .nil) ⟨0,true,0,λ_=>Z,Z,nofun⟩
 replace h:=(CE h).2;refine jA ?_;refine T.cond Z (λq=>absurd (q.symm.trans Z) (by decide)) (λ_=>?_);refine jG (jI (oA (EvA.mkO (c:=(cL cI)) ([]:LL) [] gT Z Z Z qD Z Z) (oN mv (jL h λg2 h=>oA (EvA.appF (l:=([]:LL)) s gT (by kernel_rfl) Z Z Z (bf.fz (l:=s) Z qD) g2) (oN (Pt.asg (hS false 0 (0+1) 1 ((([]:LL)++s).length)) Z) (jA (jK ?_)))))));obtain rfl:=Pw h
 repeat (first|refine iA ?_|refine iB ?_)
 exact jQ (vs:=[hS false 0 (0+1) 1 ((([]:LL)++s).length)]) (.cons (.tmp Z) .nil) ⟨0,false,0+1,nofun,Z,ownB Z⟩
theorem yB (choices:List (LL)) {q} (h:jm choices=some q):au Tryz.prog 138 [eL (cL (cL cI)) choices] (eL (cL (cL cI)) q):=by
 refine pM Tryz.func138 Z (by kernel_rfl) Z (jI (oN as' (jA (jI (oN (Pt.mkF0 (f:=(cL cI)) sP Z Z Z) (oN as' (jA ?_)))))));refine T.jU h (λs1=>[(3,eL (cL (cL cI)) s1)]) (λs1=>[]) (λs1 h=>?_) (λs1 h=>?_)
 ·refine jI (oN mv (oN as' (jA (jK ?_))))
  cases h
  exact aF Z Z Z
 refine jI (oN mv (oN (Pt.lenL sP Z) (oN mv (jA (jE ?_)))));refine T.lU h (λs4=>[(14,I s4.1),(13,I (choices.length:Int)),(12,eL (cL (cL cI)) choices),(3,eL (cL (cL cI)) s4.2)]) (λs4=>[]) (kw Z Z) (λs4 ws4 h=>?_);let d0:=choices.getD s4.1.toNat default;refine jI (oN (Pt.ilt Z Z) (jA (jH ?_)));refine jN Z h (λq6 h=>?_) (λq6 h=>?_)
 ·refine jG ?_;refine T.jU h (λs7=>[(3,eL (cL (cL cI)) s7),(14,I s4.1),(13,I (choices.length:Int)),(12,eL (cL (cL cI)) choices)]) (λs7=>[]) (λs7 h=>?_) (λs7 h=>?_)
  ·refine jC (jW h λg49 h=>oN (Pt.add Z Z g49) (oN mv (jA ?_)));exact lE h (kw Z Z)
  refine jE (jI (jD h λg8 h=>oN (Pt.ixL sP Z Z g8 qD) (oN (lf (eL (cL cI) d0) zT Z) (oN as' (jA (jH (T.reserve (jC (oN (Pt.asg (hS true 0 0 1 (([]:List (LL)).length)) Z) (jA ?_))))))))));refine T.jF (G:=(Bool×Nat)) h (λs9 gh=>(gh.1=true->s9=[])) (λs9 gh=>[(6,hS gh.1 0 gh.2 1 s9.length),(14,I s4.1),(13,I (choices.length:Int)),(12,eL (cL (cL cI)) choices)]) (λs9 gh=>[bE gh.1 gh.2 1 24 (s9.map (cL (cL cI)))]) (λs9 gh h n48=>?_) (λs9 h=>?_)
  ·obtain ⟨b47,u46⟩:=gh;refine jC (oN mv (oN (Pt.asg (hS b47 0 u46 1 s9.length) Z) (jA ?_)));obtain rfl:=Pw h;exact ⟨(),trivial,ow Z .nil (ae (.fz (Fz.own (g:=b47) (ver:=u46) (l:=s9) Z Z Z n48 qD)) (ae (.fz (qC Z)) (ae (.fz (qC Z)) (ae (.fz (qC Z)) aN))))⟩
  refine jI (oN mv (oN (Pt.lenL sP Z) (oN mv (jA (jE ?_)))));refine jO (S:=(List (LL))×Int) (G:=(Bool×Nat)) (iq choices s4) (λs15 gh=>(gh.1=true->s15.1=[])) (λs15 gh=>[(20,I s15.2),(19,I (s4.2.length:Int)),(18,eL (cL (cL cI)) s4.2),(6,hS gh.1 0 gh.2 1 s15.1.length),(5,eL (cL cI) d0),(14,I s4.1),(13,I (choices.length:Int)),(12,eL (cL (cL cI)) choices)]) (λs15 gh=>[bE gh.1 gh.2 1 24 (s15.1.map (cL (cL cI)))]) (s0:=(([]:List (LL)),U)) (true,0) h qD (kw Z Z) (λs15 gh ws15 h n19=>?_);obtain ⟨b18,u17⟩:=gh;refine jI (oN (Pt.ilt Z Z) (jA (jH ?_)));refine jN Z h (λq20 h=>?_) (λq20 h=>?_)
  ·refine jG ?_;refine T.jF (G:=(Bool×Nat)) h (λs21 gh=>(gh.1=true->s21=[])) (λs21 gh=>[(20,I s15.2),(19,I (s4.2.length:Int)),(18,eL (cL (cL cI)) s4.2),(6,hS gh.1 0 gh.2 1 s21.length),(5,eL (cL cI) d0),(14,I s4.1),(13,I (choices.length:Int)),(12,eL (cL (cL cI)) choices)]) (λs21 gh=>[bE gh.1 gh.2 1 24 (s21.map (cL (cL cI)))]) (λs21 gh h n44=>?_) (λs21 h=>?_)
   ·obtain ⟨b43,u42⟩:=gh;refine jC (jW h λg45 h=>oN (Pt.add Z Z g45) (oN mv (jA ?_)));obtain rfl:=Pw h;exact ⟨(s21,(s15.2+V)),(b43,u42),Z,n44,kw Z Z⟩
   refine jE (jI (jD h λg22 h=>oN (Pt.ixL sP Z Z g22 qD) (oN (lf (eL (cL cI) (J s4.2 s15.2)) zT Z) (oN as' (jA (jI (oN mv (oN (Pt.lenL gT Z) (oN mv (jA (jE ?_)))))))))));refine jO (S:=(List (LL))×Int) (G:=(Bool×Nat)) (il choices s4 s15) (λs28 gh=>(gh.1=true->s28.1=[])) (λs28 gh=>[(26,I s28.2),(25,I (d0.length:Int)),(24,eL (cL cI) d0),(8,eL (cL cI) (J s4.2 s15.2)),(20,I s15.2),(19,I (s4.2.length:Int)),(18,eL (cL (cL cI)) s4.2),(6,hS gh.1 0 gh.2 1 s28.1.length),(5,eL (cL cI) d0),(14,I s4.1),(13,I (choices.length:Int)),(12,eL (cL (cL cI)) choices)]) (λs28 gh=>[bE gh.1 gh.2 1 24 (s28.1.map (cL (cL cI)))]) (s0:=(s15.1,U)) (b18,u17) h n19 (kw Z Z) (λs28 gh ws28 h n32=>?_);obtain ⟨b31,u30⟩:=gh;refine jI (oN (Pt.ilt Z Z) (jA (jH ?_)));refine jN Z h (λq33 h=>?_) (λq33 h=>?_)
   ·refine jG (jH (jE (jI (jD h λg34 h=>oN (Pt.ixL gT Z Z g34 qD) (oN (lf (eL cI (J d0 s28.2)) mZ Z) (oN as' (jA (jC (oN mv (oN mv (jB h λv35 cv35 h=>?_)))))))))));refine oG Z Z Z ((xc (J s4.2 s15.2) cv35).own Z (qF qD) qI 1 Z) (λg36 v37 n38=>?_);refine oN mv (oN (Pt.mkF (c:=(cL cI)) ([(J d0 s28.2)]:LL) [[eL cI (J d0 s28.2)]] gT Z Z Z qD qD Z) (jL h λg39 h=>oA (EvA.app1 (g:=g36) (l:=v35) (J d0 s28.2) gT (by kernel_rfl) Z Z Z (λx=>We (n38 x)) (bf.fz (l:=([(J d0 s28.2)]:LL)) Z qD) g39) (oA (EvA.mkR [[hS false 1 (v37+1) 1 ((v35++[(J d0 s28.2)]).length)]] sP Z Z Z Z) (jL h λg40 h=>oA (EvA.appR (g:=b31) (rows:=s28.1.map (cL (cL cI))) (rows':=s28.1.map (cL (cL cI))++[[hS false 1 (v37+1) 1 ((v35++[(J d0 s28.2)]).length)]]) (n':=s28.1.length+1) sP (by kernel_rfl) Z Z (by simp) (λq=>by first | (rw [n32 q];rfl) | (cases q)) (bf.raw (rows:=[[hS false 1 (v37+1) 1 ((v35++[(J d0 s28.2)]).length)]]) Z Z Z) g40 Z Z) (oN (Pt.asg (hS false 0 (u30+1) 1 (s28.1.length+1)) Z) (jA (T.cut (e0:=ai [(6,hS false 0 (u30+1) 1 ((s28.1++[(v35++[(J d0 s28.2)])]).length)),(26,I s28.2),(25,I (d0.length:Int)),(24,eL (cL cI) d0),(8,eL (cL cI) (J s4.2 s15.2)),(20,I s15.2),(19,I (s4.2.length:Int)),(18,eL (cL (cL cI)) s4.2),(5,eL (cL cI) d0),(14,I s4.1),(13,I (choices.length:Int)),(12,eL (cL (cL cI)) choices)]) (H0:=[bE false (u30+1) 1 24 ((s28.1++[(v35++[(J d0 s28.2)])]).map (cL (cL cI)))]) (ow Z (.cons (.snoc qD (.cons (.cons (.fz (Fz.own (g:=false) (ver:=v37+1) (l:=(v35++[(J d0 s28.2)])) Z Z Z nofun qD)) .nil) .nil)) .nil) (ae (.eqv (congrArg (hS false 0 (u30+1) 1) (by simp:(s28.1.length+1)=(s28.1++[(v35++[(J d0 s28.2)])]).length)) (.hS (g:=false) (b:=0) (ver:=u30+1) (s:=1) (n:=(s28.1++[(v35++[(J d0 s28.2)])]).length) Z)) (ae (.fz (qC Z)) (ae (.fz (qC Z)) (ae (.fz (qC Z)) (ae (.fz (qC Z)) (ae (.fz (qC Z)) (ae (.fz (qC Z)) (ae (.fz (qC Z)) (ae (.fz (qC Z)) (ae (.fz (qC Z)) (ae (.fz (qC Z)) (ae (.fz (qC Z)) aN))))))))))))) (jC (jW h λg41 h=>oN (Pt.add Z Z g41) (oN mv (jA ?_)))))))))));obtain rfl:=Pw h;exact ⟨((s28.1++[(v35++[(J d0 s28.2)])]),(s28.2+V)),(false,u30+1),Z,nofun,kw Z Z⟩
   refine jM (lX h λh=>?_)
   cases h
   exact ⟨(b31,u30),n32,kw Z Z⟩
  refine jM (lX h λh=>?_)
  cases h
  exact ⟨(b18,u17),n19,kw Z Z⟩
 refine jM (lX h λh=>?_)
 cases h
 exact ⟨(),trivial,kw Z Z⟩
theorem xd (x:Py) {q} (h:iJ x=some q):au Tryz.prog 139 [.agg (Py.c x)] (.agg (Py.c q)):=by
 refine pM Tryz.func139 Z (by kernel_rfl) Z (jI (oN (Pt.bxF [eL cI x.From,eL (cL cI) x.Order] Z Z Z) (oA (EvA.al I2 Z Z) (jA (jH (T.reserve (T.reserve (jP (dG [dF,dF,dF,dF,dF,dF,([1],true),dF,([2],true),([2],true)]) (by kernel_rfl) (by kernel_rfl) (fN Z (fa r9 Z) (fN Z (lf (eL cI x.From) mZ Z) (fC h (λ_=>l4 _) Z Z Z Z Z λv1 _ h=>fN Z (fa r9 Z) (fN Z (lf (eL (cL cI) x.Order) zT Z) (fN Z (Pt.lenL gT Z) (jD h λg2 h=>?_))))))))))))));refine fW 1 [] Z Z (λG hG=>EvA.mkZR 1 ([]:LI) gT Z Z g2 Z Z (hG.a0 Z)) (fN Z (Pt.build [eL cI v1,hS false 1 0 1 ((Wd (x.Order.length:Int).toNat ([]:LI)).length)] Tryz.underlying34 I2 r9 Z Z) (fW 2 [] Z Z (λG hG=>EvA.alR 2 I2 Z Z (hG.a0 Z)) (fV 2 [] Z Z (λG hG=>EvA.st (cs:=[eL cI v1,hS false 1 0 1 ((Wd (x.Order.length:Int).toNat ([]:LI)).length)]) ⟨0,2,34,[[eL cI v1,hS false 1 0 1 ((Wd (x.Order.length:Int).toNat ([]:LI)).length)]]⟩ pE Z Z (hG.a0 Z) Z Z Z Z Z Z) (jR (T.cut (e0:=ai [(3,.hp 2 0 2 0 0),(2,.hp 0 0 2 0 0),(1,.fp (Py.c x) 0)]) (H0:=[some ⟨0,2,34,[[.nil,.nil]]⟩,bE false 0 1 23 ((Wd (x.Order.length:Int).toNat ([]:LI)).map (cL cI)),some ⟨0,2,34,[[eL cI v1,hS false 1 0 1 ((Wd (x.Order.length:Int).toNat ([]:LI)).length)]]⟩]) (ow Z (.cons (.row (.cons (.fz (qC Z)) (.cons (.fz (qC Z)) .nil))) (.cons (.rows (.rep (f:=cI) _)) (.cons (.row (.cons (.fz (qC Z)) (.cons (.hS (g:=false) (b:=1) (ver:=0) (s:=1) (n:=(Wd (x.Order.length:Int).toNat ([]:LI)).length) Z) .nil))) .nil))) (ae (.hp (nlb Z)) (ae (.hp (nlb Z)) (ae (.fz (qC Z)) aN)))) ?_)))));refine T.jF (G:=Nat) h (λs3 gh=>True) (λs3 gh=>[(3,.hp 2 0 2 0 0),(2,.hp 0 0 2 0 0)]) (λs3 gh=>[some ⟨0,2,34,[[.nil,.nil]]⟩,bE false gh 1 23 (s3.map (cL cI)),some ⟨0,2,34,[[eL cI v1,hS false 1 gh 1 s3.length]]⟩]) (λs3 u15 h hg=>?_) (λs3 h=>?_)
 ·refine jI (oA (lh (.agg [eL cI v1,hS false 1 u15 1 s3.length]) pE Z Z Z) (oV (sr [eL cI v1,hS false 1 u15 1 s3.length] pE Z Z Z Z) (jA (jK ?_))));obtain rfl:=Pw h
  repeat (first|refine iA ?_|refine iB ?_)
  exact jQ (vs:=[.agg [eL cI v1,hS false 1 u15 1 s3.length]]) (.cons (.cell (.agg [eL cI v1,hS false 1 u15 1 s3.length]) pE Z Z Z Z Z Z) .nil) (Fz.aggL (.cons (qC Z) (.cons (Fz.own (g:=false) (ver:=u15) (l:=s3) Z Z Z nofun qD) .nil)))
 refine jI (oN (fa r9 Z) (oN (lf (eL (cL cI) x.Order) zT Z) (oN (Pt.lenL gT Z) (oN mv (jA (jE ?_))))));refine jO (S:=(LL)×Int) (G:=Nat) (lS x) (λs7 gh=>True) (λs7 gh=>[(17,I s7.2),(16,I (x.Order.length:Int)),(15,eL (cL cI) x.Order),(3,.hp 2 0 2 0 0),(2,.hp 0 0 2 0 0)]) (λs7 gh=>[some ⟨0,2,34,[[.nil,.nil]]⟩,bE false gh 1 23 (s7.1.map (cL cI)),some ⟨0,2,34,[[eL cI v1,hS false 1 gh 1 s7.1.length]]⟩]) (s0:=((Wd (x.Order.length:Int).toNat ([]:LI)),U)) 0 h trivial (kw Z Z) (λs7 u9 ws7 h hg=>?_);refine jI (oN (Pt.ilt Z Z) (jA (jH ?_)));refine jN Z h (λq10 h=>?_) (λq10 h=>?_)
 ·refine jG (jH (jE (jI (oN mv (jD h λg11 h=>oN (Pt.ixL gT Z Z g11 qD) (oN (lf (eL cI (J x.Order s7.2)) mZ Z) (oN as' (oN as' (jA (jP (dG [dF,([2],false),dF,dF,dF,dF,([1],true)]) (by kernel_rfl) (by kernel_rfl) (fN Z (fa r9 Z) (fR [2] Z (λG hG=>EvA.loadhp (hS false 1 u9 1 s7.1.length) zT Z (hG.a0 Z) Z Z Z Z) (fN Z mv (fN Z mv ?_))))))))))))));refine fC h (λ_=>l4 _) Z Z Z Z Z λv12 _ h=>jD h λg13 h=>fN Z (Pt.ixO (g:=false) gT Z Z nofun g13) (fV 1 [] Z Z (λG hG=>EvA.stO (g:=false) (l:=s7.1) (cs:=[eL cI v12]) v12 mZ Z Z (hG.a0 Z) nofun (aH Z g13) Z Z Z) (jR (jC (jW h λg14 h=>oN (Pt.add Z Z g14) (oN mv (jA ?_))))));obtain rfl:=Pw h;exact ⟨((s7.1.set s7.2.toNat v12),(s7.2+(1:Int))),u9,Z,trivial,kw (by first | (simp only [Wh] <;> rfl) | simp only [lla,Wi,llc,List.length_nil,Wh]) Z⟩
 refine jM (lX h λh=>?_)
 cases h
 exact ⟨u9,trivial,kw Z Z⟩
end
end Go.Proofs.YtpkhamajimidnaaGreatDoor
