/- Texts joined. No conditions. -/
import Derived.Test.YtpkhamajimidnaaGreatDoorV11
namespace Go.Proofs.YtpkhamajimidnaaGreatDoor
noncomputable section
open _root_.List renaming replicate -> Qb, eq_nil_of_length_eq_zero -> Qc
set_option maxHeartbeats 4000000
open Go.RowKit
set_option maxRecDepth 100000
theorem vu (r_:LI) {q} (h:kX r_=some q):ax Tryz.prog 53 [eL cI r_] (eL cI q):=by
 refine pM Tryz.func53 Z (by kernel_rfl) Z (jI (oN as' (jA (jI (oN (Kz.mkF (c:=cI) ([]:LI) [] aK Z Z Z qD qD Z) (oN as' (jA ?_)))))));refine T.jU h (fun s1=>[(3,eL cI s1)]) (fun s1=>[]) (fun s1 h=>?_) (fun s1 h=>?_)
 ·refine jI (oN mv (oN as' (jA (jK ?_))))
  cases h
  exact aD Z Z Z
 refine jI (oN as' (jA (jE ?_)));refine T.lU h (fun s4=>[(4,I s4.1),(3,eL cI s4.2),(0,eL cI r_)]) (fun s4=>[]) (kw Z Z) (fun s4 ws4 h=>?_);refine jH (jI (oN mv (oN mv (oN (Kz.lenL aK Z) (oN (Kz.ilt Z Z) (jA ?_))))));refine jN Z h (fun q6 h=>?_) (fun q6 h=>?_)
 ·refine jG ?_;refine T.jU h (fun s7=>[(3,eL cI s7),(4,I s4.1),(0,eL cI r_)]) (fun s7=>[]) (fun s7 h=>?_) (fun s7 h=>?_)
  ·refine jC (oN mv (jW h fun g14 h=>oN (Kz.add Z Z g14) (oN as' (jA ?_))));exact lE h (kw Z Z)
  refine jE (jI (oN mv (oN mv (oC h (fun _=>xe _ _) Z Z Z Z fun v8 _ h=>oN as' (jA (jI (oN mv (oN (Kz.lenL aK Z) (oN (Kz.igt Z Z) (oN mv ?_))))))))));refine TO.jB h 11 (fun s9=>[(30,Bo s9),(5,eL cI v8),(4,I s4.1),(3,eL cI s4.2),(0,eL cI r_)]) (fun s9=>[]) (fun s9 q10 h js9=>?_) (fun s9 q10 h js9=>?_) (fun s9 h=>?_)
  ·refine gN Z q10 mv (gN Z q10 (Kz.lenL aK Z) (gN Z q10 (Kz.ieq Z Z) (gN Z q10 mv ?_)));refine TO.jB h 6 (fun s11=>[(29,Bo s11),(23,Bo ((s4.2.length:Int)==U)),(22,Bo ((s4.2.length:Int)==U)),(21,I (s4.2.length:Int)),(20,eL cI s4.2),(19,Bo (decide (U<(v8.length:Int)))),(5,eL cI v8),(4,I s4.1),(3,eL cI s4.2),(0,eL cI r_)]) (fun s11=>[]) (fun s11 q12 h js11=>?_) (fun s11 q12 h js11=>?_) (fun s11 h=>?_)
   ·refine gS Z q12 (gS Z q12 (gS Z q12 (gS Z q12 (gS Z q12 (gN Z q10 (Kz.pickT Z q12 (Bo true) Z) ?_)))))
    cases h
    exact js11 _ _ (kw Z Z)
   ·refine gN Z q12 mv (gN Z q12 (Kz.lenL aK Z) (gN Z q12 mv (gN Z q12 (Kz.lenL aK Z) (gN Z q12 (Kz.ilt Z Z) (gN Z q10 (Kz.pickF Z q12 (Bo (decide ((v8.length:Int)<(s4.2.length:Int)))) Z) ?_)))))
    cases h
    exact js11 _ _ (kw Z Z)
   refine oN (Kz.pickT Z q10 (Bo s11) Z) ?_
   cases h
   exact js9 _ _ (kw Z Z)
  ·refine gS Z q10 (gS Z q10 (gS Z q10 (gS Z q10 (gU Z (gU Z (gU Z (gU Z (gU Z (gS Z q10 (oN (Kz.pickF Z q10 (Bo false) Z) ?_))))))))))
   cases h
   exact js9 _ _ (kw Z Z)
  refine jA ?_;refine jN Z h (fun q13 h=>?_) (fun q13 h=>?_)
  ·refine jC (oN mv (oN as' (jA ?_)))
   cases h
   exact ⟨(),trivial,kw Z Z⟩
  refine jG ?_
  cases h
  exact ⟨(),trivial,kw Z Z⟩
 refine jM (lX h fun h=>?_)
 cases h
 exact ⟨(),trivial,kw Z Z⟩
theorem kL (from_:Int) (n:Int) {q} (h:cA from_ n=some q):ax Tryz.prog 148 [Y from_,I n] (St q):=by
 refine pM Tryz.func148 Z (by kernel_rfl) Z (jI (oN as' (jA (jI (oN mv (oN mv (jW h fun g1 h=>oN (Kz.iconv KN.und Tryz.underlying5 Z g1) (jW h fun g2 h=>oN (Kz.add Z Z g2) (oN (Kz.mkF (c:=cY) ([(from_+n)]:LI) [[Y (from_+n)]] Hv Z Z Z qD qD Z) (oA (EvA.b2s (l:=([(from_+n)]:LI)) Tryz.underlying123 Tryz.underlying5 Tryz.underlying9 (CS Z) (bK.fz (l:=([(from_+n)]:LI)) Z qD)) (oN as' (jA (jK ?_)))))))))))))
 cases h
 exact aD Z Z Z
theorem xg (x:KE) {q} (h:jq x=some q):ax Tryz.prog 149 [.agg (KE.c x)] (St q):=by
 refine pM Tryz.func149 Z (by kernel_rfl) Z (jI (oN (Kz.bxF [I x.Op,I x.Loc,I x.Reg,I x.Val] Z Z Z) (oN as' (jA (jI (oN (fa mq Z) (oN (lf (I x.Loc) KN Z) (oC h (fun _=>kL _ _) Z Z Z Z fun v1 _ h=>oN as' (jA (jI (oN (fa mq Z) (oN (lf (I x.Reg) KN Z) (oC h (fun _=>kL _ _) Z Z Z Z fun v2 _ h=>oN as' ?_)))))))))))));refine jA (jH (jI (oN (fa mq Z) (oN (lf (I x.Op) KN Z) (jA (jE (jI (oN (Kz.ieq Z Z) (oN as' (jA ?_))))))))));refine jN Z h (fun q3 h=>?_) (fun q3 h=>?_)
 ·refine jI (oN mv (jD h fun g4 h=>oN (Kz.cat Z Z g4) (oN mv (jD h fun g5 h=>oN (Kz.cat Z Z g5) (oN as' (jA (jK ?_)))))))
  cases h
  exact aD Z Z Z
 refine jI (oN (Kz.ieq Z Z) (oN as' (jA ?_)));refine jN Z h (fun q6 h=>?_) (fun q6 h=>?_)
 ·refine jI (oN mv (jD h fun g7 h=>oN (Kz.cat Z Z g7) (oN (fa mq Z) (oN (lf (I x.Val) KN Z) (oC h (fun _=>j5 _) Z Z Z Z fun v8 _ h=>jD h fun g9 h=>oN (Kz.cat Z Z g9) (oN as' (jA (jK ?_))))))))
  cases h
  exact aD Z Z Z
 refine jI (oN (Kz.ieq Z Z) (oN as' (jA ?_)));refine jN Z h (fun q10 h=>?_) (fun q10 h=>?_)
 ·refine jH (T.clean (H0:=[]) (e0:=ak [(4,St v2),(3,St v1)]) Z (Ky Z (Ky Z Kw)) (jC (oN mv (jD h fun g11 h=>oN (Kz.cat Z Z g11) (oN mv (jD h fun g12 h=>oN (Kz.cat Z Z g12) (oN as' (jA (jK ?_)))))))))
  cases h
  exact aD Z Z Z
 refine jI (oN (Kz.ieq Z Z) (oN as' (jA ?_)));refine jN Z h (fun q13 h=>?_) (fun q13 h=>?_)
 ·refine jH (T.clean (H0:=[]) (e0:=ak [(4,St v2),(3,St v1),(1,.fp (KE.c x) 0)]) Z (Ky Z (Ky Z (Ky Z Kw))) (jC (oN mv (jD h fun g14 h=>oN (Kz.cat Z Z g14) (oN mv (jD h fun g15 h=>oN (Kz.cat Z Z g15) (jD h fun g16 h=>oN (Kz.cat Z Z g16) (oN (fa mq Z) (oN (lf (I x.Val) KN Z) (oC h (fun _=>j5 _) Z Z Z Z fun v17 _ h=>jD h fun g18 h=>oN (Kz.cat Z Z g18) ?_))))))))));refine oN as' (jA (jK ?_))
  cases h
  exact aD Z Z Z
 refine jG (jH (T.clean (H0:=[]) (e0:=ak []) Z Kw (jC (oN as' (jA (jK ?_))))))
 cases h
 exact aD Z Z Z
theorem ui (p:List (List KE)) (e_:KH) {q} (h:dY p e_=some q):ax Tryz.prog 98 [eL (cL KE.c) p,.agg (KH.c e_)] (St q):=by
 refine pM Tryz.func98 Z (by kernel_rfl) Z (jI (oN (Kz.bxF [I e_.Thread,I e_.Index,I e_.Loc,Bo e_.Reads,Bo e_.aC] Z Z Z) (oN as' (jA (jH (jI (oN (fa cg Z) (oN (lf (I e_.Thread) KN Z) (oN (Kz.ilt Z Z) (jA ?_))))))))));refine jN Z h (fun q1 h=>?_) (fun q1 h=>?_)
 ·refine jI (oN (fa cg Z) (oN (lf (I e_.Loc) KN Z) (oC h (fun _=>kL _ _) Z Z Z Z fun v2 _ h=>jD h fun g3 h=>oN (Kz.cat Z Z g3) (oN as' (jA (jK ?_))))))
  cases h
  exact aD Z Z Z
 refine jG (jH (jP (fun _=>([],false)) (by kernel_rfl) (by kernel_rfl) (fN Z (fa cg Z) (fN Z (lf (I e_.Thread) KN Z) (fC h (fun _=>j5 _) Z Z Z Z Z fun v4 _ h=>jD h fun g5 h=>fN Z (Kz.cat Z Z g5) (fN Z mv (fN Z (fa cg Z) (fN Z (lf (I e_.Thread) KN Z) (jD h fun g6 h=>fN Z (Kz.ixL yj Z Z g6 qD) (fN Z (lf (eL KE.c (J p e_.Thread)) AK Z) (fN Z (fa cg Z) (fN Z (lf (I e_.Index) KN Z) ?_))))))))))));refine jD h fun g7 h=>fN Z (Kz.ixL xB Z Z g7 qD) (fN Z (lf (.agg (KE.c (J (J p e_.Thread) e_.Index))) xp Z) (fC h (fun _=>xg _) Z Z Z Z Z fun v8 _ h=>jD h fun g9 h=>fN Z (Kz.cat Z Z g9) (fN Z as' (jR (jK ?_)))))
 cases h
 exact aD Z Z Z
theorem uj (p:List (List KE)) (list:LI) {q} (h:jr p list=some q):ax Tryz.prog 52 [eL (cL KE.c) p,eL cI list] (St q):=by
 refine pM Tryz.func52 Z (by kernel_rfl) Z (jI (oN as' (jA (jI (oN mv (oC h (fun _=>gV _) Z Z Z Z fun v1 _ h=>oN as' (jA (jI (oN as' (jA ?_))))))))));refine T.jU h (fun s2=>[(6,St s2)]) (fun s2=>[]) (fun s2 h=>?_) (fun s2 h=>?_)
 ·refine jI (oN mv (oN as' (jA (jK ?_))))
  cases h
  exact aD Z Z Z
 refine jI (oN as' (jA (jE ?_)));refine T.lU h (fun s5=>[(7,I s5.1),(6,St s5.2),(5,eL KH.c v1),(0,eL (cL KE.c) p),(1,eL cI list)]) (fun s5=>[]) (kw Z Z) (fun s5 ws5 h=>?_);refine jH (jI (oN mv (oN mv (oN (Kz.lenL aK Z) (oN (Kz.ilt Z Z) (jA ?_))))));refine jN Z h (fun q7 h=>?_) (fun q7 h=>?_)
 ·refine jG (jH (jE ?_));refine T.jU h (fun s8=>[(6,St s8),(7,I s5.1),(5,eL KH.c v1),(0,eL (cL KE.c) p),(1,eL cI list)]) (fun s8=>[]) (fun s8 h=>?_) (fun s8 h=>?_)
  ·refine jC (oN mv (oN mv (oN mv (oN mv (oN mv (jD h fun g11 h=>oN (Kz.ixL aK Z Z g11 qD) (oN (lf (I (J list s5.1)) KN Z) (jD h fun g12 h=>oN (Kz.ixL mR Z Z g12 qD) (oN (lf (.agg (KH.c (J v1 (J list s5.1)))) rY Z) (oC h (fun _=>ui _ _) Z Z Z Z fun v13 _ h=>jD h fun g14 h=>oN (Kz.cat Z Z g14) (oN as' ?_)))))))))));refine jA (jC (oN mv (jW h fun g15 h=>oN (Kz.add Z Z g15) (oN as' (jA ?_)))));exact lE h (kw Z Z)
  refine jI (oN mv (oN (Kz.igt Z Z) (jA ?_)));refine jN Z h (fun q9 h=>?_) (fun q9 h=>?_)
  ·refine jC (oN mv (jD h fun g10 h=>oN (Kz.cat Z Z g10) (oN as' (jA ?_))))
   cases h
   exact ⟨(),trivial,kw Z Z⟩
  refine jG ?_
  cases h
  exact ⟨(),trivial,kw Z Z⟩
 refine jM (lX h fun h=>?_)
 cases h
 exact ⟨(),trivial,kw Z Z⟩
theorem vv (p:List (List KE)) (x:KG) (m:List ae) {q} (h:dH p x m=some q):ax Tryz.prog 26 [eL (cL KE.c) p,.agg (KG.c x),eL ae.c m] (St q):=by
 refine pM Tryz.func26 Z (by kernel_rfl) Z (jI (oN (Kz.bxF [eL cI x.From,eL (cL cI) x.Order] Z Z Z) (oN as' (jA (jI (oN mv (oN (lf (.agg (KG.c x)) qX Z) (oC h (fun _=>ug _ _) Z Z Z Z fun v1 _ h=>oN mv (oN (Kz.ext (eL cI v1.1) Z Z) (oN (Kz.ext (Bo v1.2) Z Z) (oN as' (oN as' (jA (jH ?_))))))))))))));refine jI (oN mv (oN (Kz.not Z) (jA ?_)));refine jN Z h (fun q2 h=>?_) (fun q2 h=>?_)
 ·refine jI (oN as' (jA (jK ?_)))
  cases h
  exact aD Z Z Z
 refine jG (jI (oN mv (oN (lf (.agg (KG.c x)) qX Z) (oN mv (oC h (fun _=>uh _ _ _) Z Z Z Z fun v3 _ h=>oN as' (jA (jH (jH (T.clean (H0:=[]) (e0:=ak [(9,I v3),(4,.fp (KG.c x) 0),(0,eL (cL KE.c) p),(2,eL ae.c m)]) Z (Ky Z (Ky Z (Ky Z (Ky Z Kw)))) (jC (oN mv (oN (Kz.ilt Z Z) (jA ?_)))))))))))));refine jN Z h (fun q4 h=>?_) (fun q4 h=>?_)
 ·refine jI (oN as' (jA (jK ?_)))
  cases h
  exact aD Z Z Z
 refine jG (jI (oN mv (oC h (fun _=>j5 _) Z Z Z Z fun v5 _ h=>jD h fun g6 h=>oN (Kz.cat Z Z g6) (oN as' (jA ?_)))));refine T.jU h (fun s7=>[(10,St s7)]) (fun s7=>[]) (fun s7 h=>?_) (fun s7 h=>?_)
 ·refine jI (oN mv (oN as' (jA (jK ?_))))
  cases h
  exact aD Z Z Z
 refine jI (oN mv (oN mv (jD h fun g8 h=>oN (Kz.ixL vS Z Z g8 qD) (oN (fa Ci Z) (oN (lf (I ((J m v3).Kind)) KN Z) (oN (Kz.ieq Z Z) (jA ?_)))))));refine jN Z h (fun q9 h=>?_) (fun q9 h=>?_)
 ·refine jP (fun _=>([],false)) (by kernel_rfl) (by kernel_rfl) (fN Z mv (jD h fun g10 h=>fN Z (Kz.cat Z Z g10) (fN Z mv (fN Z mv (fN Z (lf (.agg (KG.c x)) qX Z) (fN Z mv (fN Z mv (fN Z (Kz.ixL vS Z Z g8 qD) (fN Z (Kz.fafpS 3 Tryz.underlying65 Z (by kernel_rfl) Z Z (row2:=aa.c ((J m v3).Expr))) (fN Z (lf (.agg (aa.c ((J m v3).Expr))) tT Z) (fC h (fun _=>p6 _ _ _) Z Z Z Z Z fun v11 _ h=>fC h (fun _=>vu _) Z Z Z Z Z fun v12 _ h=>fC h (fun _=>uj _ _) Z Z Z Z Z fun v13 _ h=>jD h fun g14 h=>?_)))))))))));refine fN Z (Kz.cat Z Z g14) (fN Z as' (jR ?_))
  cases h
  exact ⟨(),trivial,kw Z Z⟩
 refine jG ?_
 cases h
 exact ⟨(),trivial,kw Z Z⟩
theorem qz (p:List (List KE)) (x:KG) (m:List ae) {q} (h:bw p x m=some q):ax Tryz.prog 8 [eL (cL KE.c) p,.agg (KG.c x),eL ae.c m] (St q):=by
 refine pM Tryz.func8 Z (by kernel_rfl) Z (jI (oN (Kz.bxF (KG.c x) Z Z Z) (oN as' (jA (jH (jI (oN mv (oN (lf (.agg (KG.c x)) qX Z) (oC h (fun _=>su _ _) Z Z Z Z fun v1 _ h=>oN (Kz.not Z) (oN mv ?_))))))))));refine TO.jB h 4 (fun s2=>[(15,Bo s2),(4,.fp (KG.c x) 0),(0,eL (cL KE.c) p),(2,eL ae.c m)]) (fun s2=>[]) (fun s2 q3 h js2=>?_) (fun s2 q3 h js2=>?_) (fun s2 h=>?_)
 ·refine gS Z q3 (gS Z q3 (gS Z q3 (oN (Kz.pickT Z q3 (Bo true) Z) ?_)))
  cases h
  exact js2 _ _ (kw Z Z)
 ·refine gN Z q3 mv (jB h fun v4 cv4 h=>gN Z q3 (Kz.call Z Z Z (rq m cv4) Z) (gN Z q3 (Kz.not Z) (oN (Kz.pickF Z q3 (Bo (!v4)) Z) ?_)))
  cases h
  exact js2 _ _ (kw Z Z)
 refine jA ?_;refine jN Z h (fun q5 h=>?_) (fun q5 h=>?_)
 ·refine jI (oN as' (jA (jK ?_)))
  cases h
  exact aD Z Z Z
 refine jG (jI (oN mv (oN (lf (.agg (KG.c x)) qX Z) (oN mv (oC h (fun _=>vv _ _ _) Z Z Z Z fun v6 _ h=>oN as' (jA (jK ?_)))))))
 cases h
 exact aD Z Z Z
theorem qA (x:KE) {q} (h:fL x=some q):ax Tryz.prog 110 [.agg (KE.c x)] (Bo q):=by
 refine pM Tryz.func110 Z (by kernel_rfl) Z (jI (oN (Kz.bxF [I x.Op,I x.Loc,I x.Reg,I x.Val] Z Z Z) (oN as' (jA (jI (oN (fa mq Z) (oN (lf (I x.Op) KN Z) (oN (Kz.ieq Z Z) (oN mv ?_)))))))));refine TO.jB h 4 (fun s1=>[(10,Bo s1)]) (fun s1=>[]) (fun s1 q2 h js1=>?_) (fun s1 q2 h js1=>?_) (fun s1 h=>?_)
 ·refine gS Z q2 (gS Z q2 (gS Z q2 (oN (Kz.pickT Z q2 (Bo true) Z) ?_)))
  cases h
  exact js1 _ _ (kw Z Z)
 ·refine gN Z q2 (fa mq Z) (gN Z q2 (lf (I x.Op) KN Z) (gN Z q2 (Kz.ieq Z Z) (oN (Kz.pickF Z q2 (Bo (x.Op==(5:Int))) Z) ?_)))
  cases h
  exact js1 _ _ (kw Z Z)
 refine oN as' (jA (jK ?_))
 cases h
 exact aD Z Z Z
theorem p7 (x:KE) {q} (h:eP x=some q):ax Tryz.prog 111 [.agg (KE.c x)] (Bo q):=by
 refine pM Tryz.func111 Z (by kernel_rfl) Z (jI (oN (Kz.bxF [I x.Op,I x.Loc,I x.Reg,I x.Val] Z Z Z) (oN as' (jA (jI (oN (fa mq Z) (oN (lf (I x.Op) KN Z) (oN (Kz.ieq Z Z) (oN mv ?_)))))))));refine TO.jB h 4 (fun s1=>[(10,Bo s1),(1,.fp (KE.c x) 0)]) (fun s1=>[]) (fun s1 q2 h js1=>?_) (fun s1 q2 h js1=>?_) (fun s1 h=>?_)
 ·refine gS Z q2 (gS Z q2 (gS Z q2 (oN (Kz.pickT Z q2 (Bo true) Z) ?_)))
  cases h
  exact js1 _ _ (kw Z Z)
 ·refine gN Z q2 (fa mq Z) (gN Z q2 (lf (I x.Op) KN Z) (gN Z q2 (Kz.ieq Z Z) (oN (Kz.pickF Z q2 (Bo (x.Op==(3:Int))) Z) ?_)))
  cases h
  exact js1 _ _ (kw Z Z)
 refine oN mv ?_;refine TO.jB h 4 (fun s3=>[(15,Bo s3)]) (fun s3=>[]) (fun s3 q4 h js3=>?_) (fun s3 q4 h js3=>?_) (fun s3 h=>?_)
 ·refine gS Z q4 (gS Z q4 (gS Z q4 (oN (Kz.pickT Z q4 (Bo true) Z) ?_)))
  cases h
  exact js3 _ _ (kw Z Z)
 ·refine gN Z q4 (fa mq Z) (gN Z q4 (lf (I x.Op) KN Z) (gN Z q4 (Kz.ieq Z Z) (oN (Kz.pickF Z q4 (Bo (x.Op==(5:Int))) Z) ?_)))
  cases h
  exact js3 _ _ (kw Z Z)
 refine oN as' (jA (jK ?_))
 cases h
 exact aD Z Z Z
theorem j6 (p:List (List KE)) {q} (h:eQ p=some q):ax Tryz.prog 58 [eL (cL KE.c) p] (eL KH.c q):=by
 refine pM Tryz.func58 Z (by kernel_rfl) Z (jI (oN as' (jA (jH (T.reserve (jC (oN (Kz.asg (hS true 0 0 5 (([]:List KH).length)) Z) (jA ?_))))))));refine T.jF (G:=(Bool×Nat)) h (fun s1 gh=>(gh.1=true->s1=[])) (fun s1 gh=>[(3,hS gh.1 0 gh.2 5 s1.length),(0,eL (cL KE.c) p)]) (fun s1 gh=>[bE gh.1 gh.2 5 80 (s1.map KH.c)]) (fun s1 gh h n17=>?_) (fun s1 h=>?_)
 ·obtain ⟨b16,u15⟩:=gh;refine T.jF (G:=(Bool×Nat)) h (fun s18 gh=>(gh.1=true->s18=[])) (fun s18 gh=>[(3,hS gh.1 0 gh.2 5 s18.length)]) (fun s18 gh=>[bE gh.1 gh.2 5 80 (s18.map KH.c)]) (fun s18 gh h n59=>?_) (fun s18 h=>?_)
  ·obtain ⟨b58,u57⟩:=gh;refine jI (oN mv (oN (Kz.asg (hS b58 0 u57 5 s18.length) Z) (jA (jK ?_))));obtain rfl:=KD h
   repeat (first|refine jd ?_|refine je ?_)
   exact jQ (vs:=[hS b58 0 u57 5 s18.length]) (.cons (.tmp Z) .nil) (Fz.own (g:=b58) (ver:=u57) (l:=s18) Z Z Z n59 KH.isF)
  refine jI (oN mv (oN (Kz.lenL yj Z) (oN mv (jA (jE ?_)))));refine jO (S:=(List KH)×Int) (G:=(Bool×Nat)) (kE p) (fun s24 gh=>(gh.1=true->s24.1=[])) (fun s24 gh=>[(21,I s24.2),(20,I (p.length:Int)),(19,eL (cL KE.c) p),(3,hS gh.1 0 gh.2 5 s24.1.length)]) (fun s24 gh=>[bE gh.1 gh.2 5 80 (s24.1.map KH.c)]) (s0:=(s1,U)) (b16,u15) h n17 (kw Z Z) (fun s24 gh ws24 h n28=>?_);obtain ⟨b27,u26⟩:=gh;refine jI (oN (Kz.ilt Z Z) (jA (jH ?_)));refine jN Z h (fun q29 h=>?_) (fun q29 h=>?_)
  ·refine jG ?_;refine T.jF (G:=(Bool×Nat)) h (fun s30 gh=>(gh.1=true->s30=[])) (fun s30 gh=>[(21,I s24.2),(20,I (p.length:Int)),(19,eL (cL KE.c) p),(3,hS gh.1 0 gh.2 5 s30.length)]) (fun s30 gh=>[bE gh.1 gh.2 5 80 (s30.map KH.c)]) (fun s30 gh h n55=>?_) (fun s30 h=>?_)
   ·obtain ⟨b54,u53⟩:=gh;refine jC (jW h fun g56 h=>oN (Kz.add Z Z g56) (oN mv (jA ?_)));obtain rfl:=KD h;exact ⟨(s30,(s24.2+V)),(b54,u53),Z,n55,kw Z Z⟩
   refine jE (jI (oN mv (jD h fun g31 h=>oN (Kz.ixL yj Z Z g31 qD) (oN (lf (eL KE.c (J p s24.2)) AK Z) (oN as' (oN as' (jA (jI (oN mv (oN (Kz.lenL xB Z) (oN mv (jA (jE ?_)))))))))))));refine jO (S:=(List KH)×Int) (G:=(Bool×Nat)) (kD p s24) (fun s37 gh=>(gh.1=true->s37.1=[])) (fun s37 gh=>[(28,I s37.2),(27,I ((J p s24.2).length:Int)),(26,eL KE.c (J p s24.2)),(5,I s24.2),(21,I s24.2),(20,I (p.length:Int)),(19,eL (cL KE.c) p),(3,hS gh.1 0 gh.2 5 s37.1.length)]) (fun s37 gh=>[bE gh.1 gh.2 5 80 (s37.1.map KH.c)]) (s0:=(s24.1,U)) (b27,u26) h n28 (kw Z Z) (fun s37 gh ws37 h n41=>?_);obtain ⟨b40,u39⟩:=gh;refine jI (oN (Kz.ilt Z Z) (jA (jH ?_)));refine jN Z h (fun q42 h=>?_) (fun q42 h=>?_)
   ·refine jG ?_;refine T.jF (G:=(Bool×Nat)) h (fun s43 gh=>(gh.1=true->s43=[])) (fun s43 gh=>[(3,hS gh.1 0 gh.2 5 s43.length),(28,I s37.2),(27,I ((J p s24.2).length:Int)),(26,eL KE.c (J p s24.2)),(5,I s24.2),(21,I s24.2),(20,I (p.length:Int)),(19,eL (cL KE.c) p)]) (fun s43 gh=>[bE gh.1 gh.2 5 80 (s43.map KH.c)]) (fun s43 gh h n51=>?_) (fun s43 h=>?_)
    ·obtain ⟨b50,u49⟩:=gh;refine jC (jW h fun g52 h=>oN (Kz.add Z Z g52) (oN mv (jA ?_)));obtain rfl:=KD h;exact ⟨(s43,(s37.2+V)),(b50,u49),Z,n51,kw Z Z⟩
    refine jE (jI (oN mv (jD h fun g44 h=>oN (Kz.ixL xB Z Z g44 qD) (oN (lf (.agg (KE.c (J (J p s24.2) s37.2))) xp Z) (oA (EvA.al Hu Z Z) (oN as' (oV (sr (KE.c (J (J p s24.2) s37.2)) xp Z Z Z Z) (jA (jI (oN (fa mq Z) (oA (lh (I ((J (J p s24.2) s37.2).Op)) KN Z Z Z) (oN (Kz.ine Z Z) (jA ?_)))))))))))));refine jN Z h (fun q45 h=>?_) (fun q45 h=>?_)
    ·refine jP (dG [dF,dF,dF,dF,([1],false),([1],false),dF,([1],false),dF,dF,dF,([0],true),dF]) (by kernel_rfl) (by kernel_rfl) (fN Z mv (fN Z mv (fN Z mv (fN Z (fa mq Z) (fR [1] Z (fun G hG=>EvA.loadhp (I ((J (J p s24.2) s37.2).Loc)) KN Z (hG.a0 Z) Z Z Z Z) (fR [1] Z (fun G hG=>EvA.loadhp (.agg (KE.c (J (J p s24.2) s37.2))) xp Z (hG.a0 Z) Z Z Z Z) (fC h (fun _=>qA _) Z Z Z Z Z fun v46 _ h=>fR [1] Z (fun G hG=>EvA.loadhp (.agg (KE.c (J (J p s24.2) s37.2))) xp Z (hG.a0 Z) Z Z Z Z) (fC h (fun _=>p7 _) Z Z Z Z Z fun v47 _ h=>fN Z (Kz.build [I s24.2,I s37.2,I ((J (J p s24.2) s37.2).Loc),Bo v46,Bo v47] Tryz.underlying80 zU cg Z Z) (fN Z (Kz.mkF (c:=KH.c) ([(⟨s24.2,s37.2,(J (J p s24.2) s37.2).Loc,v46,v47⟩:KH)]:List KH) [[I s24.2,I s37.2,I ((J (J p s24.2) s37.2).Loc),Bo v46,Bo v47]] mR Z Z Z qD KH.isF Z) (jL h fun g48 h=>fW 0 [] Z Z (fun G hG=>EvA.app1 (g:=b40) (l:=s37.1) (⟨s24.2,s37.2,(J (J p s24.2) s37.2).Loc,v46,v47⟩:KH) mR (by kernel_rfl) Z Z (hG.a0 Z) n41 (bK.fz (l:=([(⟨s24.2,s37.2,(J (J p s24.2) s37.2).Loc,v46,v47⟩:KH)]:List KH)) Z qD) g48) (fN Z (Kz.asg (hS false 0 (u39+1) 5 ((s37.1++[(⟨s24.2,s37.2,(J (J p s24.2) s37.2).Loc,v46,v47⟩:KH)]).length)) Z) (jR ?_))))))))))));obtain rfl:=KD h;exact ⟨(false,u39+1),nofun,rU Z (.cons (.list (g:=false) (ver:=u39+1) (l:=(s37.1++[(⟨s24.2,s37.2,(J (J p s24.2) s37.2).Loc,v46,v47⟩:KH)])) KH.isF) .nil) (ah (.hS (g:=false) (b:=0) (ver:=u39+1) (s:=5) (n:=(s37.1++[(⟨s24.2,s37.2,(J (J p s24.2) s37.2).Loc,v46,v47⟩:KH)]).length) Z) (ah (.fz (qC Z)) (ah (.fz (qC Z)) (ah (.fz (qC Z)) (ah (.fz (qC Z)) (ah (.fz (qC Z)) (ah (.fz (qC Z)) (ah (.fz (qC Z)) bq))))))))⟩
    refine jG ?_;obtain rfl:=KD h;exact ⟨(b40,u39),n41,rU Z (.cons (.list (g:=b40) (ver:=u39) (l:=s37.1) KH.isF) .nil) (ah (.hS (g:=b40) (b:=0) (ver:=u39) (s:=5) (n:=s37.1.length) Z) (ah (.fz (qC Z)) (ah (.fz (qC Z)) (ah (.fz (qC Z)) (ah (.fz (qC Z)) (ah (.fz (qC Z)) (ah (.fz (qC Z)) (ah (.fz (qC Z)) bq))))))))⟩
   refine jM (lX h fun h=>?_)
   cases h
   exact ⟨(b40,u39),n41,kw Z Z⟩
  refine jM (lX h fun h=>?_)
  cases h
  exact ⟨(b27,u26),n28,kw Z Z⟩
 refine jI (oN mv (jA (jE ?_)));refine jO (S:=(List KH)×Int) (G:=(Bool×Nat)) lH (fun s7 gh=>(gh.1=true->s7.1=[])) (fun s7 gh=>[(9,I s7.2),(3,hS gh.1 0 gh.2 5 s7.1.length),(0,eL (cL KE.c) p)]) (fun s7 gh=>[bE gh.1 gh.2 5 80 (s7.1.map KH.c)]) (s0:=(([]:List KH),U)) (true,0) h qD (kw Z Z) (fun s7 gh ws7 h n11=>?_);let d0:=(⟨(-1:Int),s7.2,s7.2,false,true⟩:KH);obtain ⟨b10,u9⟩:=gh;refine jI (oN (Kz.ilt Z Z) (jA (jH ?_)));refine jN Z h (fun q12 h=>?_) (fun q12 h=>?_)
 ·refine jG (jH (jE (jI (oN mv (oN as' (jA (jC (oN mv (oN mv (oN mv (oN (Kz.build [I (-1:Int),I s7.2,I s7.2,Bo false,Bo true] Tryz.underlying80 zU cg Z Z) (oN (Kz.mkF (c:=KH.c) ([d0]:List KH) [[I (-1:Int),I s7.2,I s7.2,Bo false,Bo true]] mR Z Z Z qD KH.isF Z) (jL h fun g13 h=>oA (EvA.app1 (g:=b10) (l:=s7.1) d0 mR (by kernel_rfl) Z Z Z n11 (bK.fz (l:=([d0]:List KH)) Z qD) g13) (oN (Kz.asg (hS false 0 (u9+1) 5 ((s7.1++[d0]).length)) Z) ?_))))))))))))));refine jA (jC (jW h fun g14 h=>oN (Kz.add Z Z g14) (oN mv (jA ?_))));obtain rfl:=KD h;exact ⟨((s7.1++[d0]),(s7.2+V)),(false,u9+1),Z,nofun,kw Z Z⟩
 refine jM (lX h fun h=>?_)
 cases h
 exact ⟨(b10,u9),n11,kw Z Z⟩
theorem nA (list:List KH) (loc:Int) {q} (h:fg list loc=some q):ax Tryz.prog 60 [eL KH.c list,I loc] (eL cI q):=by
 refine pM Tryz.func60 Z (by kernel_rfl) Z (jI (oN as' (jA (jH (T.reserve (jC (oN (Kz.asg (hS true 0 0 1 (([]:LI).length)) Z) (jA ?_))))))));refine T.jF (G:=(Bool×Nat)) h (fun s1 gh=>(gh.1=true->s1=[])) (fun s1 gh=>[(5,hS gh.1 0 gh.2 1 s1.length)]) (fun s1 gh=>[bE gh.1 gh.2 1 3 (s1.map cI)]) (fun s1 gh h n25=>?_) (fun s1 h=>?_)
 ·obtain ⟨b24,u23⟩:=gh;refine jI (oN mv (oN (Kz.asg (hS b24 0 u23 1 s1.length) Z) (jA (jK ?_))));obtain rfl:=KD h
  repeat (first|refine jd ?_|refine je ?_)
  exact jQ (vs:=[hS b24 0 u23 1 s1.length]) (.cons (.tmp Z) .nil) (Fz.own (g:=b24) (ver:=u23) (l:=s1) Z Z Z n25 qD)
 refine jI (oN mv (oN (Kz.lenL mR Z) (oN mv (jA (jE ?_)))));refine jO (S:=(LI)×Int) (G:=(Bool×Nat)) (iQ list loc) (fun s7 gh=>(gh.1=true->s7.1=[])) (fun s7 gh=>[(10,I s7.2),(9,I (list.length:Int)),(8,eL KH.c list),(5,hS gh.1 0 gh.2 1 s7.1.length),(1,I loc)]) (fun s7 gh=>[bE gh.1 gh.2 1 3 (s7.1.map cI)]) (s0:=(([]:LI),U)) (true,0) h qD (kw Z Z) (fun s7 gh ws7 h n11=>?_);obtain ⟨b10,u9⟩:=gh;refine jI (oN (Kz.ilt Z Z) (jA (jH ?_)));refine jN Z h (fun q12 h=>?_) (fun q12 h=>?_)
 ·refine jG ?_;refine T.jF (G:=(Bool×Nat)) h (fun s13 gh=>(gh.1=true->s13=[])) (fun s13 gh=>[(5,hS gh.1 0 gh.2 1 s13.length),(10,I s7.2),(9,I (list.length:Int)),(8,eL KH.c list),(1,I loc)]) (fun s13 gh=>[bE gh.1 gh.2 1 3 (s13.map cI)]) (fun s13 gh h n21=>?_) (fun s13 h=>?_)
  ·obtain ⟨b20,u19⟩:=gh;refine jC (jW h fun g22 h=>oN (Kz.add Z Z g22) (oN mv (jA ?_)));obtain rfl:=KD h;exact ⟨(s13,(s7.2+V)),(b20,u19),Z,n21,kw Z Z⟩
  refine jE (jI (oN mv (jD h fun g14 h=>oN (Kz.ixL mR Z Z g14 qD) (oN (lf (.agg (KH.c (J list s7.2))) rY Z) (oA (EvA.al zU Z Z) (oN as' (oV (sr (KH.c (J list s7.2)) rY Z Z Z Z) (jA (jI (oN (fa cg Z) (oA (lh (Bo ((J list s7.2).aC)) ty4 Z Z Z) (oN mv ?_))))))))))));refine TO.jB h 5 (fun s15=>[(22,Bo s15),(6,I s7.2),(10,I s7.2),(9,I (list.length:Int)),(8,eL KH.c list),(5,hS b10 0 u9 1 s7.1.length),(1,I loc)]) (fun s15=>[bE b10 u9 1 3 (s7.1.map cI),some ⟨0,5,80,[(KH.c (J list s7.2))]⟩]) (fun s15 q16 h js15=>?_) (fun s15 q16 h js15=>?_) (fun s15 h=>?_)
  ·refine gN Z q16 (fa cg Z) (gA Z q16 (lh (I ((J list s7.2).Loc)) KN Z Z Z) (gN Z q16 mv (gN Z q16 (Kz.ieq Z Z) (oN (Kz.pickT Z q16 (Bo (((J list s7.2).Loc)==loc)) Z) ?_))))
   cases h
   exact js15 _ _ (kw Z Z)
  ·refine gS Z q16 (gS Z q16 (gS Z q16 (gS Z q16 (oN (Kz.pickF Z q16 (Bo false) Z) ?_))))
   cases h
   exact js15 _ _ (kw Z Z)
  refine jA ?_;refine jN Z h (fun q17 h=>?_) (fun q17 h=>?_)
  ·refine jC (oN mv (oN mv (oN (Kz.mkF (c:=cI) ([s7.2]:LI) [[I s7.2]] aK Z Z Z qD qD Z) (jL h fun g18 h=>oA (EvA.app1 (g:=b10) (l:=s7.1) s7.2 aK (by kernel_rfl) Z Z Z n11 (bK.fz (l:=([s7.2]:LI)) Z qD) g18) (oN (Kz.asg (hS false 0 (u9+1) 1 ((s7.1++[s7.2]).length)) Z) (jA ?_))))));obtain rfl:=KD h;exact ⟨(false,u9+1),nofun,rU Z (.cons (.list (g:=false) (ver:=u9+1) (l:=(s7.1++[s7.2])) qD) .nil) (ah (.hS (g:=false) (b:=0) (ver:=u9+1) (s:=1) (n:=(s7.1++[s7.2]).length) Z) (ah (.fz (qC Z)) (ah (.fz (qC Z)) (ah (.fz (qC Z)) (ah (.fz (qC Z)) bq)))))⟩
  refine jG ?_;obtain rfl:=KD h;exact ⟨(b10,u9),n11,rU Z (.cons (.list (g:=b10) (ver:=u9) (l:=s7.1) qD) .nil) (ah (.hS (g:=b10) (b:=0) (ver:=u9) (s:=1) (n:=s7.1.length) Z) (ah (.fz (qC Z)) (ah (.fz (qC Z)) (ah (.fz (qC Z)) (ah (.fz (qC Z)) bq)))))⟩
 refine jM (lX h fun h=>?_)
 cases h
 exact ⟨(b10,u9),n11,kw Z Z⟩
theorem eC (s:LI) (v:Int) {q} (h:aU s v=some q):ax Tryz.prog 112 [eL cI s,I v] (I q):=by
 refine pM Tryz.func112 Z (by kernel_rfl) Z (jI (oN as' (jA ?_)));obtain ⟨Ks1,es1,ws1,h,ks1⟩:=mX h;refine T.join (S:=Unit) (G:=Unit) (fun s1=>Ks1 s1=some q) (fun s1 gh=>True) (fun s1 gh=>[]) (fun s1 gh=>[]) (fun s1 gh h hg=>?_) ?_
 ·clear ks1;subst es1;refine jI (oN as' (jA (jK ?_)))
  cases h
  exact aD Z Z Z
 refine jI (oN mv (oN (Kz.lenL aK Z) (oN mv (jA (jE ?_)))));refine T.lU h (fun s4=>[(8,I s4),(7,I (s.length:Int)),(0,eL cI s),(1,I v)]) (fun s4=>[]) (kw Z Z) (fun s4 ws4 h=>?_);refine jI (oN (Kz.ilt Z Z) (jA (jH ?_)));refine jN Z h (fun q6 h=>?_) (fun q6 h=>?_)
 ·refine jG (jH (jE (jI (oN mv (oN as' (jA (jI (oN mv (oN mv (oN mv (jD h fun g7 h=>oN (Kz.ixL aK Z Z g7 qD) (oN (lf (I (J s s4)) KN Z) (oN (Kz.ieq Z Z) (jA ?_))))))))))))));refine jN Z h (fun q8 h=>?_) (fun q8 h=>?_)
  ·refine jI (oN mv (oN as' (jA (jK (lX h fun h=>?_)))));obtain rfl:=KD h;replace h:=congrArg some (show _=_ from ks1)
   cases h
   exact aD Z Z Z
  refine jG (jC (jW h fun g9 h=>oN (Kz.add Z Z g9) (oN mv (jA ?_))));exact lE h (kw Z Z)
 refine jM (lX h fun h=>?_)
 cases h
 exact ⟨(),(),ks1,trivial,kw Z Z⟩
theorem mO (s:LI) (v:Int) {q} (h:bM s v=some q):ax Tryz.prog 59 [eL cI s,I v] (Bo q):=by
 refine pM Tryz.func59 Z (by kernel_rfl) Z (jI (oN as' (jA (jI (oN mv (oN mv (oC h (fun _=>eC _ _) Z Z Z Z fun v1 _ h=>oN (Kz.ige Z Z) (oN as' (jA (jK ?_))))))))))
 cases h
 exact aD Z Z Z
theorem dN (s:LI) {q} (h:aY s=some q):dX Tryz.prog 61 [eL cI s] [] (Iq 1 3 (fun x=>x) q.length (q.map cI) 0 []):=by
 refine dX.mkO Tryz.func61 Z (by kernel_rfl) Z (by kernel_rfl) (e0:=ak [(0,eL cI s)]) (Ky Z Kw) Bd (wH qD) (jI (oN as' (jA (jH (jI (oN mv ?_))))));refine J8 false Tryz.underlying23 Z Z (fun z1=>?_) ?_
 ·replace h:=(CU h).1 (by rw [z1];rfl);refine jA ?_;refine T.cond Z (fun _=>?_) (fun q=>absurd (q.symm.trans Z) (by decide));refine jI (oN as' (jA (jK ?_)));obtain rfl:=KD h
  repeat (first|refine jd ?_|refine je ?_)
  exact jQ (vs:=[.nil]) (.cons (.tmp Z) .nil) ⟨0,true,0,fun _=>Z,Z,nofun⟩
 replace h:=(CU h).2;refine jA ?_;refine T.cond Z (fun q=>absurd (q.symm.trans Z) (by decide)) (fun _=>?_);refine jG (jI (oA (EvA.mkO (c:=cI) ([]:LI) [] aK Z Z Z qD Z Z) (oN mv (jL h fun g2 h=>oA (EvA.appF (l:=([]:LI)) s aK (by kernel_rfl) Z Z Z (bK.fz (l:=s) Z qD) g2) (oN (Kz.asg (hS false 0 (0+1) 1 ((([]:LI)++s).length)) Z) (jA (jK ?_)))))));obtain rfl:=KD h
 repeat (first|refine jd ?_|refine je ?_)
 exact jQ (vs:=[hS false 0 (0+1) 1 ((([]:LI)++s).length)]) (.cons (.tmp Z) .nil) ⟨0,false,0+1,nofun,Z,ownB Z⟩
theorem ou (s1_:LI) (s2_:LI) {q} (h:cG s1_ s2_=some q):ax Tryz.prog 63 [eL cI s1_,eL cI s2_] (Bo q):=by
 refine pM Tryz.func63 Z (by kernel_rfl) Z (jI (oN as' (jA (jH (jI (oN mv (oN (Kz.lenL aK Z) (oN mv (oN (Kz.lenL aK Z) (oN (Kz.ine Z Z) (jA ?_)))))))))));refine jN Z h (fun q1 h=>?_) (fun q1 h=>?_)
 ·refine jI (oN as' (jA (jK ?_)))
  cases h
  exact aD Z Z Z
 refine jG ?_;obtain ⟨Ks2,es2,ws2,h,ks2⟩:=mX h;refine T.join (S:=Unit) (G:=Unit) (fun s2=>Ks2 s2=some q) (fun s2 gh=>True) (fun s2 gh=>[]) (fun s2 gh=>[]) (fun s2 gh h hg=>?_) ?_
 ·clear ks2;subst es2;refine jI (oN as' (jA (jK ?_)))
  cases h
  exact aD Z Z Z
 refine jI (oN mv (oN (Kz.lenL aK Z) (oN mv (jA (jE ?_)))));refine T.lU h (fun s5=>[(13,I s5),(12,I (s1_.length:Int)),(0,eL cI s1_),(1,eL cI s2_)]) (fun s5=>[]) (kw Z Z) (fun s5 ws5 h=>?_);refine jI (oN (Kz.ilt Z Z) (jA (jH ?_)));refine jN Z h (fun q7 h=>?_) (fun q7 h=>?_)
 ·refine jG (jH (jE (jI (oN mv (oN as' (jA (jH (jP (fun _=>([],false)) (by kernel_rfl) (by kernel_rfl) (fN Z mv (fN Z mv (jD h fun g8 h=>fN Z (Kz.ixL aK Z Z g8 qD) (fN Z (lf (I (J s1_ s5)) KN Z) (fN Z mv (fN Z mv ?_))))))))))))));refine jD h fun g9 h=>fN Z (Kz.ixL aK Z Z g9 qD) (fN Z (lf (I (J s2_ s5)) KN Z) (fN Z (Kz.ine Z Z) (jR ?_)));refine jN Z h (fun q10 h=>?_) (fun q10 h=>?_)
  ·refine jH (T.clean (H0:=[]) (e0:=ak []) Z Kw (jC (oN as' (jA (jK (lX h fun h=>?_))))));obtain rfl:=KD h;replace h:=congrArg some (show _=_ from ks2)
   cases h
   exact aD Z Z Z
  refine jG (jC (jW h fun g11 h=>oN (Kz.add Z Z g11) (oN mv (jA ?_))));exact lE h (kw Z Z)
 refine jM (lX h fun h=>?_)
 cases h
 exact ⟨(),(),ks2,trivial,kw Z Z⟩
theorem sG (p:List (List KE)) (x:KG) {q} (h:fo p x=some q):ax Tryz.prog 30 [eL (cL KE.c) p,.agg (KG.c x)] (Bo q):=by
 refine pM Tryz.func30 Z (by kernel_rfl) Z (jI (oN (Kz.bxF [eL cI x.From,eL (cL cI) x.Order] Z Z Z) (oN as' (jA (jH (jI (oN mv (oC h (fun _=>pV _) Z Z Z Z fun v1 _ h=>oN (Kz.not Z) (jA ?_)))))))));refine jN Z h (fun q2 h=>?_) (fun q2 h=>?_)
 ·refine jI (oN as' (jA (jK ?_)))
  cases h
  exact aD Z Z Z
 refine jG (jI (oN mv (oC h (fun _=>j6 _) Z Z Z Z fun v3 _ h=>oN as' (jA (jH (jI (oN (fa uG Z) (oN (lf (eL cI x.From) nu Z) (oN (Kz.lenL aK Z) (oN mv (oN (Kz.lenL mR Z) (oN (Kz.ine Z Z) (oN mv ?_)))))))))))));refine TO.jB h 5 (fun s4=>[(28,Bo s4),(5,eL KH.c v3),(3,.fp (KG.c x) 0)]) (fun s4=>[]) (fun s4 q5 h js4=>?_) (fun s4 q5 h js4=>?_) (fun s4 h=>?_)
 ·refine gS Z q5 (gS Z q5 (gS Z q5 (gS Z q5 (oN (Kz.pickT Z q5 (Bo true) Z) ?_))))
  cases h
  exact js4 _ _ (kw Z Z)
 ·refine gN Z q5 (fa uG Z) (gN Z q5 (lf (eL (cL cI) x.Order) Cf Z) (gN Z q5 (Kz.lenL pU Z) (gN Z q5 (Kz.ine Z Z) (oN (Kz.pickF Z q5 (Bo ((x.Order.length:Int) != (3:Int))) Z) ?_))))
  cases h
  exact js4 _ _ (kw Z Z)
 refine jA ?_;refine jN Z h (fun q6 h=>?_) (fun q6 h=>?_)
 ·refine jI (oN as' (jA (jK ?_)))
  cases h
  exact aD Z Z Z
 refine jG ?_;obtain ⟨Ks7,es7,ws7,h,ks7⟩:=mX h;refine T.join (S:=Unit) (G:=Unit) (fun s7=>Ks7 s7=some q) (fun s7 gh=>True) (fun s7 gh=>[(5,eL KH.c v3),(3,.fp (KG.c x) 0)]) (fun s7 gh=>[]) (fun s7 gh h hg=>?_) ?_
 ·clear ks7;subst es7;obtain ⟨Ks27,es27,ws27,h,ks27⟩:=mX h;refine T.join (S:=Unit) (G:=Unit) (fun s27=>Ks27 s27=some q) (fun s27 gh=>True) (fun s27 gh=>[]) (fun s27 gh=>[]) (fun s27 gh h hg=>?_) ?_
  ·clear ks27;subst es27;refine jI (oN as' (jA (jK ?_)))
   cases h
   exact aD Z Z Z
  refine jI (oN (fa uG Z) (oN (lf (eL (cL cI) x.Order) Cf Z) (oN (Kz.lenL pU Z) (oN mv (jA (jE ?_))))));refine T.lU h (fun s30=>[(70,I s30),(69,I (x.Order.length:Int)),(68,eL (cL cI) x.Order),(5,eL KH.c v3)]) (fun s30=>[]) (kw Z Z) (fun s30 ws30 h=>?_);refine jI (oN (Kz.ilt Z Z) (jA (jH ?_)));refine jN Z h (fun q32 h=>?_) (fun q32 h=>?_)
  ·refine jG (jH (jE (jI (oN mv (jD h fun g33 h=>oN (Kz.ixL pU Z Z g33 qD) (oN (lf (eL cI (J x.Order s30)) nu Z) (oN as' (oN as' (jA (jI (oN mv (jB h fun v34 cv34 h=>?_))))))))))));refine oG Z Z Z ((dN (J x.Order s30) cv34).own Z (wH qD) Bd 0 Z) (fun g35 v36 n37=>?_);refine oN (Kz.asg (hS g35 0 v36 1 v34.length) Z) (jA (jI (oN mv (jB h fun v38 cv38 h=>oA (EvA.call Z Z Z ((wY v34 g35 v36 (fun x=>Qc (n37 x)) cv38).oneE Z (.cons (kC Z) .nil) (wH qD) (wH qD) Z)) (jA (jI (oN mv (oN mv (oN mv (oC h (fun _=>nA _ _) Z Z Z Z fun v39 _ h=>jB h fun v40 cv40 h=>oA (EvA.callT Z Z (ou v38 v39 cv40) (.cons (Fz.own (g:=g35) (ver:=v36) (l:=v38) Z Z (tH cv38).symm (fun x=>tG ((fun x=>Qc (n37 x)) x) cv38) qD) (.cons (qC Z) .nil)) Z) (oN (Kz.not Z) (oN mv ?_))))))))))));refine TO.jB h 6 (fun s41=>[(91,Bo s41),(70,I s30),(69,I (x.Order.length:Int)),(68,eL (cL cI) x.Order),(5,eL KH.c v3)]) (fun s41=>[bE g35 v36 1 3 (v38.map cI)]) (fun s41 q42 h js41=>?_) (fun s41 q42 h js41=>?_) (fun s41 h=>?_)
   ·refine gS Z q42 (gS Z q42 (gS Z q42 (gS Z q42 (gS Z q42 (oN (Kz.pickT Z q42 (Bo true) Z) ?_)))))
    cases h
    exact js41 _ _ (kw Z Z)
   ·refine gN Z q42 mv (jD h fun g43 h=>gN Z q42 (Kz.ixL aK Z Z g43 qD) (gN Z q42 (lf (I (J (J x.Order s30) U)) KN Z) (gN Z q42 mv (gN Z q42 (Kz.ine Z Z) (oN (Kz.pickF Z q42 (Bo ((J (J x.Order s30) U) != s30)) Z) ?_)))))
    cases h
    exact js41 _ _ (kw Z Z)
   refine jA ?_;refine jN Z h (fun q44 h=>?_) (fun q44 h=>?_)
   ·refine jI (oN as' (jA (jK (lX h fun h=>?_))));obtain rfl:=KD h;replace h:=congrArg some (show _=_ from ks27)
    cases h
    exact aD Z Z Z
   refine jG (jC (jW h fun g45 h=>oN (Kz.add Z Z g45) (oN mv (jA ?_))));exact lE h (rU Z .nil (ah (.fz (qC Z)) (ah (.fz (qC Z)) (ah (.fz (qC Z)) (ah (.fz (qC Z)) bq)))))
  refine jM (lX h fun h=>?_)
  cases h
  exact ⟨(),(),ks27,trivial,kw Z Z⟩
 refine jI (oN mv (oN (Kz.lenL mR Z) (oN mv (jA (jE ?_)))));refine T.lU h (fun s10=>[(31,I s10),(30,I (v3.length:Int)),(29,eL KH.c v3),(5,eL KH.c v3),(3,.fp (KG.c x) 0)]) (fun s10=>[]) (kw Z Z) (fun s10 ws10 h=>?_);let d0:=x.From.getD s10.toNat default;refine jI (oN (Kz.ilt Z Z) (jA (jH ?_)));refine jN Z h (fun q12 h=>?_) (fun q12 h=>?_)
 ·refine jG (jH (jE (jI (oN mv (jD h fun g13 h=>oN (Kz.ixL mR Z Z g13 qD) (oN (lf (.agg (KH.c (J v3 s10))) rY Z) (oA (EvA.al zU Z Z) (oN as' (oV (sr (KH.c (J v3 s10)) rY Z Z Z Z) (jA (jI (oN (fa uG Z) (oN (lf (eL cI x.From) nu Z) (oN mv ?_))))))))))))));refine jD h fun g14 h=>oN (Kz.ixL aK Z Z g14 qD) (oN (lf (I d0) KN Z) (oN as' (jA (jI (oN (fa cg Z) (oA (lh (Bo ((J v3 s10).Reads)) ty4 Z Z Z) (oN (Kz.not Z) (oN mv ?_))))))));refine TO.jB h 3 (fun s15=>[(47,Bo s15),(8,I d0),(6,I s10),(7,.hp 0 0 5 0 0),(31,I s10),(30,I (v3.length:Int)),(29,eL KH.c v3),(5,eL KH.c v3),(3,.fp (KG.c x) 0)]) (fun s15=>[some ⟨0,5,80,[(KH.c (J v3 s10))]⟩]) (fun s15 q16 h js15=>?_) (fun s15 q16 h js15=>?_) (fun s15 h=>?_)
  ·refine gN Z q16 mv (gN Z q16 (Kz.ine Z Z) (oN (Kz.pickT Z q16 (Bo (d0 != (-1:Int))) Z) ?_))
   cases h
   exact js15 _ _ (kw Z Z)
  ·refine gS Z q16 (gS Z q16 (oN (Kz.pickF Z q16 (Bo false) Z) ?_))
   cases h
   exact js15 _ _ (kw Z Z)
  refine oN mv ?_;refine TO.jB h 17 (fun s17=>[(65,Bo s17),(31,I s10),(30,I (v3.length:Int)),(29,eL KH.c v3),(5,eL KH.c v3),(3,.fp (KG.c x) 0)]) (fun s17=>[some ⟨0,5,80,[(KH.c (J v3 s10))]⟩]) (fun s17 q18 h js17=>?_) (fun s17 q18 h js17=>?_) (fun s17 h=>?_)
  ·refine gS Z q18 (gS Z q18 (gS Z q18 (gU Z (gU Z (gU Z (gU Z (gU Z (gU Z (gU Z (gU Z (gU Z (gU Z (gU Z (gU Z (gS Z q18 ?_)))))))))))))));refine oN (Kz.pickT Z q18 (Bo true) Z) ?_
   cases h
   exact js17 _ _ (kw Z Z)
  ·refine gN Z q18 (fa cg Z) (gA Z q18 (lh (Bo ((J v3 s10).Reads)) ty4 Z Z Z) (gN Z q18 mv ?_));refine TO.jB h 13 (fun s19=>[(64,Bo s19),(51,Bo ((J v3 s10).Reads)),(50,Bo ((J v3 s10).Reads)),(49,.hp 0 0 5 0 3),(48,Bo s15),(31,I s10),(30,I (v3.length:Int)),(29,eL KH.c v3),(5,eL KH.c v3),(3,.fp (KG.c x) 0)]) (fun s19=>[some ⟨0,5,80,[(KH.c (J v3 s10))]⟩]) (fun s19 q20 h js19=>?_) (fun s19 q20 h js19=>?_) (fun s19 h=>?_)
   ·refine gN Z q20 mv (gN Z q20 mv (gN Z q20 (Kz.ieq Z Z) (gN Z q20 mv ?_)));refine TO.jB h 8 (fun s21=>[(63,Bo s21),(55,Bo (d0==s10)),(54,Bo (d0==s10)),(53,I s10),(52,I d0),(51,Bo ((J v3 s10).Reads)),(50,Bo ((J v3 s10).Reads)),(49,.hp 0 0 5 0 3),(48,Bo s15),(31,I s10),(30,I (v3.length:Int)),(29,eL KH.c v3),(5,eL KH.c v3),(3,.fp (KG.c x) 0)]) (fun s21=>[some ⟨0,5,80,[(KH.c (J v3 s10))]⟩]) (fun s21 q22 h js21=>?_) (fun s21 q22 h js21=>?_) (fun s21 h=>?_)
    ·refine gS Z q22 (gS Z q22 (gS Z q22 (gS Z q22 (gS Z q22 (gS Z q22 (gS Z q22 (gN Z q20 (Kz.pickT Z q22 (Bo true) Z) ?_)))))))
     cases h
     exact js21 _ _ (kw Z Z)
    ·refine gN Z q22 mv (gN Z q22 (fa cg Z) (gA Z q22 (lh (I ((J v3 s10).Loc)) KN Z Z Z) (jB h fun v23 cv23 h=>gN Z q22 (Kz.call Z Z Z (nA v3 ((J v3 s10).Loc) cv23) Z) (gN Z q22 mv (jB h fun v24 cv24 h=>gN Z q22 (Kz.call Z Z Z (mO v23 d0 cv24) Z) (gN Z q22 (Kz.not Z) (gN Z q20 (Kz.pickF Z q22 (Bo (!v24)) Z) ?_)))))))
     cases h
     exact js21 _ _ (kw Z Z)
    refine gN Z q18 (Kz.pickT Z q20 (Bo s21) Z) ?_
    cases h
    exact js19 _ _ (kw Z Z)
   ·refine gS Z q20 (gS Z q20 (gS Z q20 (gS Z q20 (gU Z (gU Z (gU Z (gU Z (gU Z (gU Z (gU Z (gS Z q20 (gN Z q18 (Kz.pickF Z q20 (Bo false) Z) ?_))))))))))))
    cases h
    exact js19 _ _ (kw Z Z)
   refine oN (Kz.pickF Z q18 (Bo s19) Z) ?_
   cases h
   exact js17 _ _ (kw Z Z)
  refine jA ?_;refine jN Z h (fun q25 h=>?_) (fun q25 h=>?_)
  ·refine jI (oN as' (jA (jK (lX h fun h=>?_))));obtain rfl:=KD h;replace h:=congrArg some (show _=_ from ks7)
   cases h
   exact aD Z Z Z
  refine jG (jC (jW h fun g26 h=>oN (Kz.add Z Z g26) (oN mv (jA ?_))));exact lE h (rU Z .nil (ah (.fz (qC Z)) (ah (.fz (qC Z)) (ah (.fz (qC Z)) (ah (.fz (qC Z)) (ah (.fz (qC Z)) bq))))))
 refine jM (lX h fun h=>?_)
 cases h
 exact ⟨(),(),ks7,trivial,kw Z Z⟩
theorem p8 (x:Int) (low:Int) (high:Int) {q} (h:ju x low high=some q):ax Tryz.prog 64 [I x,I low,I high] (Bo q):=by
 refine pM Tryz.func64 Z (by kernel_rfl) Z (jI (oN as' (jA (jI (oN mv (oN mv (oN (Kz.ige Z Z) (oN mv ?_))))))));refine TO.jB h 4 (fun s1=>[(14,Bo s1)]) (fun s1=>[]) (fun s1 q2 h js1=>?_) (fun s1 q2 h js1=>?_) (fun s1 h=>?_)
 ·refine gN Z q2 mv (gN Z q2 mv (gN Z q2 (Kz.ile Z Z) (oN (Kz.pickT Z q2 (Bo (decide (x<=high))) Z) ?_)))
  cases h
  exact js1 _ _ (kw Z Z)
 ·refine gS Z q2 (gS Z q2 (gS Z q2 (oN (Kz.pickF Z q2 (Bo false) Z) ?_)))
  cases h
  exact js1 _ _ (kw Z Z)
 refine oN as' (jA (jK ?_))
 cases h
 exact aD Z Z Z
theorem uk (op:Int) {q} (h:jv op=some q):ax Tryz.prog 164 [I op] (.tup [I q.1,St q.2.1,I q.2.2]):=by
 refine pM Tryz.func164 Z (by kernel_rfl) Z (jI (oN as' (oN as' (oN as' (jA (jH (jI (oN mv (jA (jE (jI (oN (Kz.ieq Z Z) (oN as' (jA ?_))))))))))))));refine jN Z h (fun q1 h=>?_) (fun q1 h=>?_)
 ·refine jI (oN as' (oN as' (oN as' (jA (jK ?_)))));obtain rfl:=KD h
  repeat (first|refine jd ?_|refine je ?_)
  exact jQ (vs:=[I U,St (⟨#[]⟩:ByteArray),I U]) (.cons (.tmp Z) (.cons (.tmp Z) (.cons (.tmp Z) .nil))) (.tupL (.cons (qC Z) (.cons (qC Z) (.cons (qC Z) .nil))))
 refine jI (oN (Kz.ieq Z Z) (oN as' (jA ?_)));refine jN Z h (fun q2 h=>?_) (fun q2 h=>?_)
 ·refine jI (oN as' (oN as' (oN as' (jA (jK ?_)))));obtain rfl:=KD h
  repeat (first|refine jd ?_|refine je ?_)
  exact jQ (vs:=[I (3:Int),St (⟨#[124]⟩:ByteArray),I (2:Int)]) (.cons (.tmp Z) (.cons (.tmp Z) (.cons (.tmp Z) .nil))) (.tupL (.cons (qC Z) (.cons (qC Z) (.cons (qC Z) .nil))))
 refine jI (oN (Kz.ieq Z Z) (oN as' (jA ?_)));refine jN Z h (fun q3 h=>?_) (fun q3 h=>?_)
 ·refine jI (oN as' (oN as' (oN as' (jA (jK ?_)))));obtain rfl:=KD h
  repeat (first|refine jd ?_|refine je ?_)
  exact jQ (vs:=[I (2:Int),St (⟨#[38]⟩:ByteArray),I (2:Int)]) (.cons (.tmp Z) (.cons (.tmp Z) (.cons (.tmp Z) .nil))) (.tupL (.cons (qC Z) (.cons (qC Z) (.cons (qC Z) .nil))))
 refine jI (oN (Kz.ieq Z Z) (oN as' (jA ?_)));refine jN Z h (fun q4 h=>?_) (fun q4 h=>?_)
 ·refine jI (oN as' (oN as' (oN as' (jA (jK ?_)))));obtain rfl:=KD h
  repeat (first|refine jd ?_|refine je ?_)
  exact jQ (vs:=[I (2:Int),St (⟨#[45]⟩:ByteArray),I (2:Int)]) (.cons (.tmp Z) (.cons (.tmp Z) (.cons (.tmp Z) .nil))) (.tupL (.cons (qC Z) (.cons (qC Z) (.cons (qC Z) .nil))))
 refine jI (oN (Kz.ieq Z Z) (oN as' (jA ?_)));refine jN Z h (fun q5 h=>?_) (fun q5 h=>?_)
 ·refine jI (oN as' (oN as' (oN as' (jA (jK ?_)))));obtain rfl:=KD h
  repeat (first|refine jd ?_|refine je ?_)
  exact jQ (vs:=[I V,St (⟨#[59]⟩:ByteArray),I (2:Int)]) (.cons (.tmp Z) (.cons (.tmp Z) (.cons (.tmp Z) .nil))) (.tupL (.cons (qC Z) (.cons (qC Z) (.cons (qC Z) .nil))))
 refine jI (oN (Kz.ieq Z Z) (oN as' (jA ?_)));refine jN Z h (fun q6 h=>?_) (fun q6 h=>?_)
 ·refine jH (T.clean (H0:=[]) (e0:=ak []) Z Kw (jC (oN as' (oN as' (oN as' (jA (jK ?_)))))));obtain rfl:=KD h
  repeat (first|refine jd ?_|refine je ?_)
  exact jQ (vs:=[I U,St (⟨#[126]⟩:ByteArray),I V]) (.cons (.tmp Z) (.cons (.tmp Z) (.cons (.tmp Z) .nil))) (.tupL (.cons (qC Z) (.cons (qC Z) (.cons (qC Z) .nil))))
 refine jH (T.clean (H0:=[]) (e0:=ak [(5,I op)]) Z (Ky Z Kw) (jC (oN (Kz.ieq Z Z) (oN as' (jA ?_)))));refine jN Z h (fun q7 h=>?_) (fun q7 h=>?_)
 ·refine jI (oN as' (oN as' (oN as' (jA (jK ?_)))));obtain rfl:=KD h
  repeat (first|refine jd ?_|refine je ?_)
  exact jQ (vs:=[I U,St (⟨#[43]⟩:ByteArray),I V]) (.cons (.tmp Z) (.cons (.tmp Z) (.cons (.tmp Z) .nil))) (.tupL (.cons (qC Z) (.cons (qC Z) (.cons (qC Z) .nil))))
 refine jG (jI (oN as' (oN as' (oN as' (jA (jK ?_))))));obtain rfl:=KD h
 repeat (first|refine jd ?_|refine je ?_)
 exact jQ (vs:=[I U,St (⟨#[]⟩:ByteArray),I (-1:Int)]) (.cons (.tmp Z) (.cons (.tmp Z) (.cons (.tmp Z) .nil))) (.tupL (.cons (qC Z) (.cons (qC Z) (.cons (qC Z) .nil))))
theorem lj (s:List ByteArray) (v:ByteArray) {q} (h:bh s v=some q):ax Tryz.prog 212 [eL cS s,St v] (I q):=by
 refine pM Tryz.func212 Z (by kernel_rfl) Z (jI (oN as' (jA ?_)));obtain ⟨Ks1,es1,ws1,h,ks1⟩:=mX h;refine T.join (S:=Unit) (G:=Unit) (fun s1=>Ks1 s1=some q) (fun s1 gh=>True) (fun s1 gh=>[]) (fun s1 gh=>[]) (fun s1 gh h hg=>?_) ?_
 ·clear ks1;subst es1;refine jI (oN as' (jA (jK ?_)))
  cases h
  exact aD Z Z Z
 refine jI (oN mv (oN (Kz.lenL AL Z) (oN mv (jA (jE ?_)))));refine T.lU h (fun s4=>[(8,I s4),(7,I (s.length:Int)),(0,eL cS s),(1,St v)]) (fun s4=>[]) (kw Z Z) (fun s4 ws4 h=>?_);refine jI (oN (Kz.ilt Z Z) (jA (jH ?_)));refine jN Z h (fun q6 h=>?_) (fun q6 h=>?_)
 ·refine jG (jH (jE (jI (oN mv (oN as' (jA (jI (oN mv (oN mv (oN mv (jD h fun g7 h=>oN (Kz.ixL AL Z Z g7 qD) (oN (lf (St (J s s4)) ty9 Z) (oN (Kz.seq Z Z) (jA ?_))))))))))))));refine jN Z h (fun q8 h=>?_) (fun q8 h=>?_)
  ·refine jI (oN mv (oN as' (jA (jK (lX h fun h=>?_)))));obtain rfl:=KD h;replace h:=congrArg some (show _=_ from ks1)
   cases h
   exact aD Z Z Z
  refine jG (jC (jW h fun g9 h=>oN (Kz.add Z Z g9) (oN mv (jA ?_))));exact lE h (kw Z Z)
 refine jM (lX h fun h=>?_)
 cases h
 exact ⟨(),(),ks1,trivial,kw Z Z⟩
theorem kg (s:List ByteArray) (v:ByteArray) {q} (h:bG s v=some q):ax Tryz.prog 194 [eL cS s,St v] (Bo q):=by
 refine pM Tryz.func194 Z (by kernel_rfl) Z (jI (oN as' (jA (jI (oN mv (oN mv (oC h (fun _=>lj _ _) Z Z Z Z fun v1 _ h=>oN (Kz.ige Z Z) (oN as' (jA (jK ?_))))))))))
 cases h
 exact aD Z Z Z
theorem sH (name:ByteArray) {q} (h:fq name=some q):ax Tryz.prog 165 [St name] (Bo q):=by
 refine pM Tryz.func165 Z (by kernel_rfl) Z (jI (oN as' (jA (jI (oN (Kz.slG (c:=cS) vJ Tryz.underlying200 ty9 Z Z Z EW) (oN mv (oC h (fun _=>kg _ _) Z Z Z Z fun v1 _ h=>oN as' (jA (jK ?_)))))))))
 cases h
 exact aD Z Z Z
theorem ul:∀ (nf:Nat) (e_:aa) (most:Int) {q} (h:cV nf e_ most=some q),ax Tryz.prog 116 [.agg (aa.c e_),I most] (I q):=by
 intro nf
 induction nf with
 | zero=>intros;rename_i h;cases h
 | succ nf ih=>
  intro e_ most q h;replace h:iE (cV nf) e_ most=some q:=h;refine pM Tryz.func116 Z (by kernel_rfl) Z (jI (oN (Kz.bxF [I e_.Op,St e_.Name,eL TXimpl_RelExpr.c e_.Kids] Z Z Z) (oN as' (jA (jI (oN (fa oU Z) (oN (lf (I e_.Op) KN Z) (oC h (fun _=>uk _) Z Z Z Z fun v1 _ h=>oN mv (oN (Kz.ext (I v1.1) Z Z) (oN (Kz.ext (St v1.2.1) Z Z) (oN (Kz.ext (I v1.2.2) Z Z) (oN as' (oN as' (oN as' ?_))))))))))))));refine jA ?_;obtain ⟨Ks2,es2,ws2,h,ks2⟩:=mX h;refine T.join (S:=Unit) (G:=Unit) (fun s2=>Ks2 s2=some q) (fun s2 gh=>True) (fun s2 gh=>[(2,.fp (aa.c e_) 0),(1,I most)]) (fun s2 gh=>[]) (fun s2 gh h hg=>?_) ?_
  ·clear ks2;subst es2;refine jI (oN as' (jA ?_));refine T.jU h (fun s10=>[(8,I s10)]) (fun s10=>[]) (fun s10 h=>?_) (fun s10 h=>?_)
   ·refine jI (oN mv (oN as' (jA (jK ?_))))
    cases h
    exact aD Z Z Z
   refine jI (oN (fa oU Z) (oN (lf (eL TXimpl_RelExpr.c e_.Kids) Bz Z) (oN (Kz.lenL yT Z) (oN mv (jA (jE ?_))))));refine T.lU h (fun s13=>[(49,I s13.1),(48,I (e_.Kids.length:Int)),(47,eL TXimpl_RelExpr.c e_.Kids),(8,I s13.2),(1,I most)]) (fun s13=>[]) (kw Z Z) (fun s13 ws13 h=>?_);refine jI (oN (Kz.ilt Z Z) (jA (jH ?_)));refine jN Z h (fun q15 h=>?_) (fun q15 h=>?_)
   ·refine jG (jH (jE (jI (jD h fun g16 h=>oN (Kz.res (Kz.ixL yT Z Z g16 TXimpl_RelExpr.len) (r' := .fp (aa.c (J e_.Kids s13.1).out) 0) (fun _ _ hr=>mH (TXimpl_RelExpr.out_c _) hr)) (oN (lf (.agg (aa.c ((J e_.Kids s13.1).out))) tT Z) (oA (EvA.al Jl Z Z) (oV (sr (aa.c ((J e_.Kids s13.1).out)) tT Z Z Z Z) (jA (jI (oN mv (oA (lh (.agg (aa.c ((J e_.Kids s13.1).out))) tT Z Z Z) (oN mv (jW h fun g17 h=>oN (Kz.sub Z Z g17) ?_)))))))))))));refine oC h (fun _=>ih _ _) Z Z Z Z fun v18 _ h=>jW h fun g19 h=>oN (Kz.add Z Z g19) (oN as' (jA (jI (oN mv (oN (Kz.igt Z Z) (jA ?_))))));refine jN Z h (fun q20 h=>?_) (fun q20 h=>?_)
    ·refine jM (lX h fun h=>?_)
     cases h
     exact ⟨(),trivial,rU Z .nil (ah (.fz (qC Z)) bq)⟩
    refine jG (jC (jW h fun g21 h=>oN (Kz.add Z Z g21) (oN mv (jA ?_))));exact lE h (rU Z .nil (ah (.fz (qC Z)) (ah (.fz (qC Z)) (ah (.fz (qC Z)) (ah (.fz (qC Z)) (ah (.fz (qC Z)) bq))))))
   refine jM (lX h fun h=>?_)
   cases h
   exact ⟨(),trivial,kw Z Z⟩
  refine T.jU h (fun s3=>[(45,Bo s3),(2,.fp (aa.c e_) 0),(1,I most)]) (fun s3=>[]) (fun s3 h=>?_) (fun s3 h=>?_)
  ·refine jN Z h (fun q9 h=>?_) (fun q9 h=>?_)
   ·refine jI (oN as' (jA (jK ?_)));obtain rfl:=KD h;replace h:=congrArg some (show _=_ from ks2)
    cases h
    exact aD Z Z Z
   refine jG ?_
   cases h
   exact ⟨(),(),ks2,trivial,kw Z Z⟩
  refine T.drawG (fun _=>([],false)) (by kernel_rfl) (by kernel_rfl) (tN Z mv (tN Z (Kz.ieq Z Z) (tN Z mv ?_)));rcases uB h with ⟨q4,h⟩ | ⟨q4,h⟩
  ·refine KP Z q4 (KP Z q4 (KP Z q4 (KP Z q4 (KP Z q4 (tN Z (Kz.pickT Z q4 (Bo true) Z) (tN Z mv (KP Z Z (KP Z Z (KP Z Z (KP Z Z (KP Z Z (KP Z Z (KP Z Z (tN Z (Kz.pickT Z Z (Bo true) Z) (tN Z mv ?_)))))))))))))));refine KP Z Z (KP Z Z (KP Z Z (KP Z Z (tgU Z (tgU Z (tgU Z (KP Z Z (tN Z (Kz.pickT Z Z (Bo true) Z) (TG.nil ?_)))))))))
   cases h
   exact ⟨(),trivial,kw Z Z⟩
  refine KO Z q4 Z (fa oU Z) (KO Z q4 Z (lf (eL TXimpl_RelExpr.c e_.Kids) Bz Z) (KO Z q4 Z (Kz.lenL yT Z) (KO Z q4 Z mv (KO Z q4 Z (Kz.ine Z Z) (tN Z (Kz.pickF Z q4 (Bo ((e_.Kids.length:Int) != v1.2.2)) Z) (tN Z mv ?_))))));rcases uB h with ⟨q5,h⟩ | ⟨q5,h⟩
  ·refine KP Z q5 (KP Z q5 (KP Z q5 (KP Z q5 (KP Z q5 (KP Z q5 (KP Z q5 (tN Z (Kz.pickT Z q5 (Bo true) Z) (tN Z mv (KP Z Z (KP Z Z (KP Z Z (KP Z Z (tgU Z (tgU Z (tgU Z ?_)))))))))))))));refine KP Z Z (tN Z (Kz.pickT Z Z (Bo true) Z) (TG.nil ?_))
   cases h
   exact ⟨(),trivial,kw Z Z⟩
  refine KO Z q5 Z (fa oU Z) (KO Z q5 Z (lf (I e_.Op) KN Z) (KO Z q5 Z (Kz.ieq Z Z) (KO Z q5 Z (fa oU Z) (KO Z q5 Z (lf (St e_.Name) ty9 Z) (jB h fun v6 cv6 h=>KO Z q5 Z (Kz.call Z Z Z (sH e_.Name cv6) Z) (KO Z q5 Z (Kz.bne bt4 Z Z) (tN Z (Kz.pickF Z q5 (Bo (!((e_.Op==V)==v6))) Z) (tN Z mv ?_))))))));rcases uB h with ⟨q7,h⟩ | ⟨q7,h⟩
  ·refine KP Z q7 (KP Z q7 (KP Z q7 (KP Z q7 (tgU Z (tgU Z (tgU Z (KP Z q7 (tN Z (Kz.pickT Z q7 (Bo true) Z) (TG.nil ?_)))))))))
   cases h
   exact ⟨(),trivial,kw Z Z⟩
  refine KO Z q7 Z (fa oU Z) (KO Z q7 Z (lf (I e_.Op) KN Z) (KO Z q7 Z (Kz.ine Z Z) (KO Z q7 Z mv ?_)));rcases uB h with ⟨q8,h⟩ | ⟨q8,h⟩
  ·refine KO Z q8 Z (fa oU Z) (KO Z q8 Z (lf (St e_.Name) ty9 Z) (KO Z q8 Z (Kz.sne Z Z) (KO Z q7 Z (Kz.pickT Z q8 (Bo (!decide (e_.Name=(⟨#[]⟩:ByteArray)))) Z) (tN Z (Kz.pickF Z q7 (Bo (!decide (e_.Name=(⟨#[]⟩:ByteArray)))) Z) (TG.nil ?_)))))
   cases h
   exact ⟨(),trivial,kw Z Z⟩
  refine KP Z q8 (KP Z q8 (KP Z q8 (KO Z q7 Z (Kz.pickF Z q8 (Bo false) Z) (tN Z (Kz.pickF Z q7 (Bo false) Z) (TG.nil ?_)))))
  cases h
  exact ⟨(),trivial,kw Z Z⟩
theorem vw (e_:aa) (most:Int) {q} (h:qM e_ most=some q):ax Tryz.prog 116 [.agg (aa.c e_),I most] (I q):=by
 obtain ⟨nf,h⟩:=nC h;exact ul nf e_ most h
theorem p9 (e_:aa) {q} (h:eT e_=some q):ax Tryz.prog 67 [.agg (aa.c e_)] (Bo q):=by
 refine pM Tryz.func67 Z (by kernel_rfl) Z (jI (oN (Kz.bxF [I e_.Op,St e_.Name,eL TXimpl_RelExpr.c e_.Kids] Z Z Z) (oN as' (jA (jI (oN (lf (.agg (aa.c e_)) tT Z) (oC h (fun _=>vw _ _) Z Z Z Z fun v1 _ h=>oN (Kz.ile Z Z) (oN as' (jA (jK ?_))))))))))
 cases h
 exact aD Z Z Z
theorem qd (r_:ae) {q} (h:iR r_=some q):ax Tryz.prog 66 [.agg (ae.c r_)] (Bo q):=by
 refine pM Tryz.func66 Z (by kernel_rfl) Z (jI (oN (Kz.bxF (ae.c r_) Z Z Z) (oN as' (jA (jI (oN (fa Ci Z) (oN (lf (I r_.Kind) KN Z) (oC h (fun _=>p8 _ _ _) Z Z Z Z fun v1 _ h=>oN (Kz.not Z) (oN mv ?_)))))))));refine TO.jB h 5 (fun s2=>[(12,Bo s2)]) (fun s2=>[]) (fun s2 q3 h js2=>?_) (fun s2 q3 h js2=>?_) (fun s2 h=>?_)
 ·refine gS Z q3 (gS Z q3 (gS Z q3 (gS Z q3 (oN (Kz.pickT Z q3 (Bo true) Z) ?_))))
  cases h
  exact js2 _ _ (kw Z Z)
 ·refine gN Z q3 (Kz.fafpS 3 Tryz.underlying65 Z (by kernel_rfl) Z Z (row2:=aa.c r_.Expr)) (gN Z q3 (lf (.agg (aa.c r_.Expr)) tT Z) (jB h fun v4 cv4 h=>gN Z q3 (Kz.call Z Z Z (p9 r_.Expr cv4) Z) (gN Z q3 (Kz.not Z) (oN (Kz.pickF Z q3 (Bo (!v4)) Z) ?_))))
  cases h
  exact js2 _ _ (kw Z Z)
 refine oN as' (jA (jK ?_))
 cases h
 exact aD Z Z Z
theorem bI (s:List ae) {q} (h:aG s=some q):ax Tryz.prog 115 [eL ae.c s,.fn (.func 66) []] (I q):=by
 refine pM Tryz.func115 Z (by kernel_rfl) Z (jI (oN as' (jA ?_)));obtain ⟨Ks1,es1,ws1,h,ks1⟩:=mX h;refine T.join (S:=Unit) (G:=Unit) (fun s1=>Ks1 s1=some q) (fun s1 gh=>True) (fun s1 gh=>[]) (fun s1 gh=>[]) (fun s1 gh h hg=>?_) ?_
 ·clear ks1;subst es1;refine jI (oN as' (jA (jK ?_)))
  cases h
  exact aD Z Z Z
 refine jI (oN mv (oN (Kz.lenL vS Z) (oN mv (jA (jE ?_)))));refine T.lU h (fun s4=>[(8,I s4),(7,I (s.length:Int)),(0,eL ae.c s),(1,.fn (.func 66) [])]) (fun s4=>[]) (kw Z Z) (fun s4 ws4 h=>?_);refine jI (oN (Kz.ilt Z Z) (jA (jH ?_)));refine jN Z h (fun q6 h=>?_) (fun q6 h=>?_)
 ·refine jG (jH (jE (jI (oN mv (oN as' (jA (jI (oN mv (oN mv (oN mv (jD h fun g7 h=>oN (Kz.ixL vS Z Z g7 qD) (oN (lf (.agg (ae.c (J s s4))) EG Z) (oC h (fun _=>qd _) Z Z Z Z fun v8 _ h=>jA ?_)))))))))))));refine jN Z h (fun q9 h=>?_) (fun q9 h=>?_)
  ·refine jI (oN mv (oN as' (jA (jK (lX h fun h=>?_)))));obtain rfl:=KD h;replace h:=congrArg some (show _=_ from ks1)
   cases h
   exact aD Z Z Z
  refine jG (jC (jW h fun g10 h=>oN (Kz.add Z Z g10) (oN mv (jA ?_))));exact lE h (kw Z Z)
 refine jM (lX h fun h=>?_)
 cases h
 exact ⟨(),(),ks1,trivial,kw Z Z⟩
theorem bB (s:List ae) {q} (h:aF s=some q):ax Tryz.prog 65 [eL ae.c s,.fn (.func 66) []] (Bo q):=by
 refine pM Tryz.func65 Z (by kernel_rfl) Z (jI (oN as' (jA (jI (oN mv (oN mv (oC h (fun _=>bI _) Z Z Z Z fun v1 _ h=>oN (Kz.ige Z Z) (oN as' (jA (jK ?_))))))))))
 cases h
 exact aD Z Z Z
theorem ru (m:List ae) {q} (h:gL m=some q):ax Tryz.prog 31 [eL ae.c m] (Bo q):=by
 refine pM Tryz.func31 Z (by kernel_rfl) Z (jI (oN as' (jA (jI (oN mv (oN (Kz.lenL vS Z) (oC h (fun _=>p8 _ _ _) Z Z Z Z fun v1 _ h=>oN mv ?_)))))));refine TO.jB h 4 (fun s2=>[(10,Bo s2)]) (fun s2=>[]) (fun s2 q3 h js2=>?_) (fun s2 q3 h js2=>?_) (fun s2 h=>?_)
 ·refine gN Z q3 mv (jB h fun v4 cv4 h=>gN Z q3 (Kz.call Z Z Z (bB m cv4) Z) (gN Z q3 (Kz.not Z) (oN (Kz.pickT Z q3 (Bo (!v4)) Z) ?_)))
  cases h
  exact js2 _ _ (kw Z Z)
 ·refine gS Z q3 (gS Z q3 (gS Z q3 (oN (Kz.pickF Z q3 (Bo false) Z) ?_)))
  cases h
  exact js2 _ _ (kw Z Z)
 refine oN as' (jA (jK ?_))
 cases h
 exact aD Z Z Z
theorem ow (v:aA) (t:Int) (index:Int) (reg:Int) (oD:Nat) (gZ:Nat) (gu:Nat) (gw1:Bool) (hgw1:gw1=true->v.values=[]) {q} (h:cH v t index reg=some q):dX Tryz.prog 166 [.hp 0 oD 6 0 0,I t,I index,I reg] [some ⟨oD,6,136,[[eL (cL KE.c) v.p,eL cI v.x.From,eL (cL cI) v.x.Order,eL KH.c v.events,hS gw1 1 gZ 1 v.values.length,hS false 2 gu 1 v.busy.length]]⟩,bE gw1 gZ 1 3 (v.values.map cI),bE false gu 1 4 (v.busy.map cB)] (HL (I q.2) fun ver=>[some ⟨oD,6,136,[[eL (cL KE.c) q.1.p,eL cI q.1.x.From,eL (cL cI) q.1.x.Order,eL KH.c q.1.events,hS gw1 1 gZ 1 v.values.length,hS false 2 gu 1 q.1.busy.length]]⟩,bE gw1 gZ 1 3 (v.values.map cI),bE false gu 1 4 (q.1.busy.map cB)]):=by
 refine dX.mkS Tryz.func166 Z (by kernel_rfl) Z (by kernel_rfl) (e0:=ak [(0,.hp 0 oD 6 0 0),(1,I t),(2,I index),(3,I reg)]) (Ky Z (Ky Z (Ky Z (Ky Z Kw)))) (jI (oN as' (jA (jI (oN as' (jA ?_))))));refine T.jU h (fun s1=>[(9,I s1)]) (fun s1=>[some ⟨oD,6,136,[[eL (cL KE.c) v.p,eL cI v.x.From,eL (cL cI) v.x.Order,eL KH.c v.events,hS gw1 1 gZ 1 v.values.length,hS false 2 gu 1 v.busy.length]]⟩,bE gw1 gZ 1 3 (v.values.map cI),bE false gu 1 4 (v.busy.map cB)]) (fun s1 h=>?_) (fun s1 h=>?_)
 ·refine jI (oN mv (oN as' (jA (jK ?_))));obtain rfl:=KD h
  repeat (first|refine jd ?_|refine je ?_)
  exact ⟨ak [(8,I s1)],[some ⟨oD,6,136,[[eL (cL KE.c) v.p,eL cI v.x.From,eL (cL cI) v.x.Order,eL KH.c v.events,hS gw1 1 gZ 1 v.values.length,hS false 2 gu 1 v.busy.length]]⟩,bE gw1 gZ 1 3 (v.values.map cI),bE false gu 1 4 (v.busy.map cB)],kw Z Z,jQ (vs:=[I s1]) (.cons (.tmp Z) .nil) ⟨0,Z,Z⟩⟩
 refine jI (oN mv (oN (nl Z) (oN (fa qY Z) (oA (lh (eL KH.c v.events) Ht Z Z Z) (oN (Kz.lenL mR Z) (oN mv (jA (jE ?_))))))));refine T.lU h (fun s4=>[(17,I s4.1),(16,I (v.events.length:Int)),(15,eL KH.c v.events),(9,I s4.2),(0,.hp 0 oD 6 0 0),(1,I t),(2,I index),(3,I reg)]) (fun s4=>[some ⟨oD,6,136,[[eL (cL KE.c) v.p,eL cI v.x.From,eL (cL cI) v.x.Order,eL KH.c v.events,hS gw1 1 gZ 1 v.values.length,hS false 2 gu 1 v.busy.length]]⟩,bE gw1 gZ 1 3 (v.values.map cI),bE false gu 1 4 (v.busy.map cB)]) (kw Z Z) (fun s4 ws4 h=>?_);let d0:=v.events.getD s4.1.toNat default;refine jI (oN (Kz.ilt Z Z) (jA (jH ?_)));refine jN Z h (fun q6 h=>?_) (fun q6 h=>?_)
 ·refine jG ?_;refine T.jU h (fun s7=>[(9,I s7),(17,I s4.1),(16,I (v.events.length:Int)),(15,eL KH.c v.events),(0,.hp 0 oD 6 0 0),(1,I t),(2,I index),(3,I reg)]) (fun s7=>[some ⟨oD,6,136,[[eL (cL KE.c) v.p,eL cI v.x.From,eL (cL cI) v.x.Order,eL KH.c v.events,hS gw1 1 gZ 1 v.values.length,hS false 2 gu 1 v.busy.length]]⟩,bE gw1 gZ 1 3 (v.values.map cI),bE false gu 1 4 (v.busy.map cB)]) (fun s7 h=>?_) (fun s7 h=>?_)
  ·refine jC (jW h fun g16 h=>oN (Kz.add Z Z g16) (oN mv (jA ?_)));exact lE h (kw Z Z)
  refine jE (jI (oN mv (jD h fun g8 h=>oN (Kz.ixL mR Z Z g8 qD) (oN (lf (.agg (KH.c d0)) rY Z) (oA (EvA.al zU Z Z) (oN as' (oV (sr (KH.c d0) rY Z Z Z Z) (jA ?_))))))));refine T.jU h (fun s9=>[(51,Bo s9),(10,I s4.1),(17,I s4.1),(16,I (v.events.length:Int)),(15,eL KH.c v.events),(9,I s4.2),(0,.hp 0 oD 6 0 0),(1,I t),(2,I index),(3,I reg)]) (fun s9=>[some ⟨oD,6,136,[[eL (cL KE.c) v.p,eL cI v.x.From,eL (cL cI) v.x.Order,eL KH.c v.events,hS gw1 1 gZ 1 v.values.length,hS false 2 gu 1 v.busy.length]]⟩,bE gw1 gZ 1 3 (v.values.map cI),bE false gu 1 4 (v.busy.map cB),some ⟨0,5,80,[(KH.c d0)]⟩]) (fun s9 h=>?_) (fun s9 h=>?_)
  ·refine jN Z h (fun q15 h=>?_) (fun q15 h=>?_)
   ·refine jC (oN mv (oN as' (jA ?_)))
    cases h
    exact ⟨(),trivial,rU Z (.cons (.row (.cons (.fz (qC Z)) (.cons (.fz (qC Z)) (.cons (.fz (qC Z)) (.cons (.fz (qC Z)) (.cons (.hS (g:=gw1) (b:=1) (ver:=gZ) (s:=1) (n:=v.values.length) Z) (.cons (.hS (g:=false) (b:=2) (ver:=gu) (s:=1) (n:=v.busy.length) Z) .nil))))))) (.cons (.list (g:=gw1) (ver:=gZ) (l:=v.values) qD) (.cons (.list (g:=false) (ver:=gu) (l:=v.busy) qD) .nil))) (ah (.fz (qC Z)) (ah (.fz (qC Z)) (ah (.fz (qC Z)) (ah (.fz (qC Z)) (ah (.hp (nlb Z)) (ah (.fz (qC Z)) (ah (.fz (qC Z)) (ah (.fz (qC Z)) bq))))))))⟩
   refine jG ?_
   cases h
   exact ⟨(),trivial,rU Z (.cons (.row (.cons (.fz (qC Z)) (.cons (.fz (qC Z)) (.cons (.fz (qC Z)) (.cons (.fz (qC Z)) (.cons (.hS (g:=gw1) (b:=1) (ver:=gZ) (s:=1) (n:=v.values.length) Z) (.cons (.hS (g:=false) (b:=2) (ver:=gu) (s:=1) (n:=v.busy.length) Z) .nil))))))) (.cons (.list (g:=gw1) (ver:=gZ) (l:=v.values) qD) (.cons (.list (g:=false) (ver:=gu) (l:=v.busy) qD) .nil))) (ah (.fz (qC Z)) (ah (.fz (qC Z)) (ah (.fz (qC Z)) (ah (.fz (qC Z)) (ah (.hp (nlb Z)) (ah (.fz (qC Z)) (ah (.fz (qC Z)) (ah (.fz (qC Z)) bq))))))))⟩
  refine T.drawG (dG [dF,([3],false),dF,dF,dF,dF,([3],false),dF,dF,dF,dF,dF,([3],false),dF,dF,dF,dF,dF,([0],false),dF,dF,dF,dF,([3],false),dF,dF,dF,dF,dF,dF]) (by kernel_rfl) (by kernel_rfl) (tN Z (fa cg Z) (tR [3] Z (fun G hG=>EvA.loadhp (I (d0.Thread)) KN Z (hG.a0 Z) Z Z Z Z) (tN Z mv (tN Z (Kz.ieq Z Z) (tN Z mv ?_)))));rcases uB h with ⟨q10,h⟩ | ⟨q10,h⟩
  ·refine KO Z q10 Z (fa cg Z) (tgR Z q10 [3] Z (fun G hG=>EvA.loadhp (I (d0.Index)) KN Z (hG.a0 Z) Z Z Z Z) (KO Z q10 Z mv (KO Z q10 Z (Kz.ilt Z Z) (tN Z (Kz.pickT Z q10 (Bo (decide ((d0.Index)<index))) Z) (tN Z mv ?_)))));rcases uB h with ⟨q11,h⟩ | ⟨q11,h⟩
   ·refine KO Z q11 Z (fa cg Z) (tgR Z q11 [3] Z (fun G hG=>EvA.loadhp (Bo (d0.Reads)) ty4 Z (hG.a0 Z) Z Z Z Z) (tN Z (Kz.pickT Z q11 (Bo (d0.Reads)) Z) (tN Z mv ?_)));rcases uB h with ⟨q12,h⟩ | ⟨q12,h⟩
    ·refine KO Z q12 Z mv (KO Z q12 Z (nl Z) (KO Z q12 Z (fa qY Z) (tgR Z q12 [0] Z (fun G hG=>EvA.loadhp (eL (cL KE.c) v.p) Jk Z (hG.a0 Z) Z Z Z Z) (KO Z q12 Z mv (jD h fun g13 h=>KO Z q12 Z (Kz.ixL yj Z Z g13 qD) (KO Z q12 Z (lf (eL KE.c (J v.p t)) AK Z) (KO Z q12 Z (fa cg Z) (tgR Z q12 [3] Z (fun G hG=>EvA.loadhp (I (d0.Index)) KN Z (hG.a0 Z) Z Z Z Z) (jD h fun g14 h=>KO Z q12 Z (Kz.ixL xB Z Z g14 qD) (KO Z q12 Z (fa mq Z) (KO Z q12 Z (lf (I ((J (J v.p t) (d0.Index)).Reg)) KN Z) (KO Z q12 Z mv (KO Z q12 Z (Kz.ieq Z Z) ?_)))))))))))));refine tN Z (Kz.pickT Z q12 (Bo (((J (J v.p t) (d0.Index)).Reg)==reg)) Z) (TG.nil ?_)
     cases h
     exact ⟨(),trivial,kw Z Z⟩
    refine KP Z q12 (KP Z q12 (KP Z q12 (KP Z q12 (KP Z q12 (KP Z q12 (KP Z q12 (KP Z q12 (KP Z q12 (KP Z q12 (KP Z q12 (KP Z q12 (KP Z q12 (KP Z q12 (tN Z (Kz.pickF Z q12 (Bo false) Z) (TG.nil ?_)))))))))))))))
    cases h
    exact ⟨(),trivial,kw Z Z⟩
   refine KP Z q11 (KP Z q11 (tN Z (Kz.pickF Z q11 (Bo false) Z) (tN Z mv (KP Z Z (KP Z Z (KP Z Z (KP Z Z (KP Z Z (KP Z Z (KP Z Z (KP Z Z (KP Z Z (KP Z Z (KP Z Z (KP Z Z ?_)))))))))))))));refine KP Z Z (KP Z Z (tN Z (Kz.pickF Z Z (Bo false) Z) (TG.nil ?_)))
   cases h
   exact ⟨(),trivial,kw Z Z⟩
  refine KP Z q10 (KP Z q10 (KP Z q10 (KP Z q10 (tN Z (Kz.pickF Z q10 (Bo false) Z) (tN Z mv (KP Z Z (KP Z Z (tN Z (Kz.pickF Z Z (Bo false) Z) (tN Z mv (KP Z Z (KP Z Z (KP Z Z (KP Z Z (KP Z Z (KP Z Z ?_)))))))))))))));refine KP Z Z (KP Z Z (KP Z Z (KP Z Z (KP Z Z (KP Z Z (KP Z Z (KP Z Z (tN Z (Kz.pickF Z Z (Bo false) Z) (TG.nil ?_)))))))))
  cases h
  exact ⟨(),trivial,kw Z Z⟩
 refine jM (lX h fun h=>?_)
 cases h
 exact ⟨(),trivial,kw Z Z⟩
theorem o8:∀ (nf:Nat) (v:aA) (i:Int) (oD:Nat) (gZ:Nat) (gu:Nat) (gw1:Bool) (hgw1:gw1=true->v.values=[]) {q} (h:aV nf v i=some q),dX Tryz.prog 117 [.hp 0 oD 6 0 0,I i] [some ⟨oD,6,136,[[eL (cL KE.c) v.p,eL cI v.x.From,eL (cL cI) v.x.Order,eL KH.c v.events,hS gw1 1 gZ 1 v.values.length,hS false 2 gu 1 v.busy.length]]⟩,bE gw1 gZ 1 3 (v.values.map cI),bE false gu 1 4 (v.busy.map cB)] (HL (.tup [I q.2.1,Bo q.2.2]) fun ver=>[some ⟨oD,6,136,[[eL (cL KE.c) q.1.p,eL cI q.1.x.From,eL (cL cI) q.1.x.Order,eL KH.c q.1.events,hS gw1 1 gZ 1 v.values.length,hS false 2 gu 1 q.1.busy.length]]⟩,bE gw1 gZ 1 3 (v.values.map cI),bE false gu 1 4 (q.1.busy.map cB)]):=by
 intro nf
 induction nf with
 | zero=>intros;rename_i h;cases h
 | succ nf ih=>
  intro v i oD gZ gu gw1 hgw1 q h;let d0:=v.events.getD i.toNat default;replace h:dh (aV nf) v i=some q:=h;refine dX.mkS Tryz.func117 Z (by kernel_rfl) Z (by kernel_rfl) (e0:=ak [(0,.hp 0 oD 6 0 0),(1,I i)]) (Ky Z (Ky Z Kw)) (jI (oN as' (oN as' (jA (jI (oN mv (oN (nl Z) (oN (fa qY Z) (oA (lh (eL KH.c v.events) Ht Z Z Z) (oN mv (jD h fun g1 h=>oN (Kz.ixL mR Z Z g1 qD) (oN (lf (.agg (KH.c d0)) rY Z) (oA (EvA.al zU Z Z) (oV (sr (KH.c d0) rY Z Z Z Z) ?_))))))))))))));refine jA (jH (jI (oN (fa cg Z) (oA (lh (I (d0.Thread)) KN Z Z Z) (oN (Kz.ilt Z Z) (jA ?_))))));refine jN Z h (fun q2 h=>?_) (fun q2 h=>?_)
  ·refine jI (oN as' (oN as' (jA (jK ?_))));obtain rfl:=KD h
   repeat (first|refine jd ?_|refine je ?_)
   exact ⟨ak [(4,I U),(5,Bo true)],[some ⟨oD,6,136,[[eL (cL KE.c) v.p,eL cI v.x.From,eL (cL cI) v.x.Order,eL KH.c v.events,hS gw1 1 gZ 1 v.values.length,hS false 2 gu 1 v.busy.length]]⟩,bE gw1 gZ 1 3 (v.values.map cI),bE false gu 1 4 (v.busy.map cB)],rU Z (.cons (.row (.cons (.fz (qC Z)) (.cons (.fz (qC Z)) (.cons (.fz (qC Z)) (.cons (.fz (qC Z)) (.cons (.hS (g:=gw1) (b:=1) (ver:=gZ) (s:=1) (n:=v.values.length) Z) (.cons (.hS (g:=false) (b:=2) (ver:=gu) (s:=1) (n:=v.busy.length) Z) .nil))))))) (.cons (.list (g:=gw1) (ver:=gZ) (l:=v.values) qD) (.cons (.list (g:=false) (ver:=gu) (l:=v.busy) qD) .nil))) (ah (.fz (qC Z)) (ah (.fz (qC Z)) bq)),jQ (vs:=[I U,Bo true]) (.cons (.tmp Z) (.cons (.tmp Z) .nil)) ⟨0,Z,Z⟩⟩
  refine jG (jH (T.reserve (jP (dG [dF,dF,dF,([0],false),dF,([3],false),dF,dF,dF,([3],false),dF,dF,([4],true),([4],true)]) (by kernel_rfl) (by kernel_rfl) (fN Z mv (fN Z (nl Z) (fN Z (fa qY Z) (fR [0] Z (fun G hG=>EvA.loadhp (eL (cL KE.c) v.p) Jk Z (hG.a0 Z) Z Z Z Z) (fN Z (fa cg Z) (fR [3] Z (fun G hG=>EvA.loadhp (I (d0.Thread)) KN Z (hG.a0 Z) Z Z Z Z) (jD h fun g3 h=>fN Z (Kz.ixL yj Z Z g3 qD) (fN Z (lf (eL KE.c (J v.p (d0.Thread))) AK Z) (fN Z (fa cg Z) (fR [3] Z (fun G hG=>EvA.loadhp (I (d0.Index)) KN Z (hG.a0 Z) Z Z Z Z) (jD h fun g4 h=>?_))))))))))))));refine fN Z (Kz.ixL xB Z Z g4 qD) (fN Z (lf (.agg (KE.c (J (J v.p (d0.Thread)) (d0.Index)))) xp Z) (fW 4 [] Z Z (fun G hG=>EvA.alR 4 Hu Z Z (hG.a0 Z)) (fV 4 [] Z Z (fun G hG=>EvA.st (cs:=(KE.c (J (J v.p (d0.Thread)) (d0.Index)))) ⟨0,4,90,[(KE.c (J (J v.p (d0.Thread)) (d0.Index)))]⟩ xp Z Z (hG.a0 Z) Z Z Z Z Z Z) (jR (jH (jH (T.clean (H0:=[some ⟨oD,6,136,[[eL (cL KE.c) v.p,eL cI v.x.From,eL (cL cI) v.x.Order,eL KH.c v.events,hS gw1 1 gZ 1 v.values.length,hS false 2 gu 1 v.busy.length]]⟩,bE gw1 gZ 1 3 (v.values.map cI),bE false gu 1 4 (v.busy.map cB),some ⟨0,5,80,[(KH.c d0)]⟩,some ⟨0,4,90,[(KE.c (J (J v.p (d0.Thread)) (d0.Index)))]⟩]) (e0:=ak [(7,.hp 4 0 4 0 0),(6,.hp 3 0 5 0 0),(0,.hp 0 oD 6 0 0),(1,I i)]) Z (Ky Z (Ky Z (Ky Z (Ky Z Kw)))) (jC (oN (fa mq Z) (oA (lh (I ((J (J v.p (d0.Thread)) (d0.Index)).Op)) KN Z Z Z) (oN (Kz.ine Z Z) (jA ?_))))))))))));refine jN Z h (fun q5 h=>?_) (fun q5 h=>?_)
  ·refine jI (oN (fa mq Z) (oA (lh (I ((J (J v.p (d0.Thread)) (d0.Index)).Val)) KN Z Z Z) (oN as' (oN as' (jA (jK ?_))))));obtain rfl:=KD h
   repeat (first|refine jd ?_|refine je ?_)
   exact ⟨ak [(4,I ((J (J v.p (d0.Thread)) (d0.Index)).Val)),(5,Bo true)],[some ⟨oD,6,136,[[eL (cL KE.c) v.p,eL cI v.x.From,eL (cL cI) v.x.Order,eL KH.c v.events,hS gw1 1 gZ 1 v.values.length,hS false 2 gu 1 v.busy.length]]⟩,bE gw1 gZ 1 3 (v.values.map cI),bE false gu 1 4 (v.busy.map cB)],rU Z (.cons (.row (.cons (.fz (qC Z)) (.cons (.fz (qC Z)) (.cons (.fz (qC Z)) (.cons (.fz (qC Z)) (.cons (.hS (g:=gw1) (b:=1) (ver:=gZ) (s:=1) (n:=v.values.length) Z) (.cons (.hS (g:=false) (b:=2) (ver:=gu) (s:=1) (n:=v.busy.length) Z) .nil))))))) (.cons (.list (g:=gw1) (ver:=gZ) (l:=v.values) qD) (.cons (.list (g:=false) (ver:=gu) (l:=v.busy) qD) .nil))) (ah (.fz (qC Z)) (ah (.fz (qC Z)) bq)),jQ (vs:=[I ((J (J v.p (d0.Thread)) (d0.Index)).Val),Bo true]) (.cons (.tmp Z) (.cons (.tmp Z) .nil)) ⟨0,Z,Z⟩⟩
  refine jG (jH (jI (oN mv (oN (nl Z) (oN (fa qY Z) (oA (lh (hS false 2 gu 1 v.busy.length) FI Z Z Z) (oN mv (jD h fun g6 h=>oN (Kz.ixO (g:=false) FJ Z Z nofun g6) (oA (EvA.ldO (g:=false) (l:=v.busy) (Bo (J v.busy i)) ty4 Z Z nofun (aI Z g6) Z) (jA ?_))))))))));refine jN Z h (fun q7 h=>?_) (fun q7 h=>?_)
  ·refine jI (oN as' (oN as' (jA (jK ?_))));obtain rfl:=KD h
   repeat (first|refine jd ?_|refine je ?_)
   exact ⟨ak [(4,I U),(5,Bo false)],[some ⟨oD,6,136,[[eL (cL KE.c) v.p,eL cI v.x.From,eL (cL cI) v.x.Order,eL KH.c v.events,hS gw1 1 gZ 1 v.values.length,hS false 2 gu 1 v.busy.length]]⟩,bE gw1 gZ 1 3 (v.values.map cI),bE false gu 1 4 (v.busy.map cB)],rU Z (.cons (.row (.cons (.fz (qC Z)) (.cons (.fz (qC Z)) (.cons (.fz (qC Z)) (.cons (.fz (qC Z)) (.cons (.hS (g:=gw1) (b:=1) (ver:=gZ) (s:=1) (n:=v.values.length) Z) (.cons (.hS (g:=false) (b:=2) (ver:=gu) (s:=1) (n:=v.busy.length) Z) .nil))))))) (.cons (.list (g:=gw1) (ver:=gZ) (l:=v.values) qD) (.cons (.list (g:=false) (ver:=gu) (l:=v.busy) qD) .nil))) (ah (.fz (qC Z)) (ah (.fz (qC Z)) bq)),jQ (vs:=[I U,Bo false]) (.cons (.tmp Z) (.cons (.tmp Z) .nil)) ⟨0,Z,Z⟩⟩
  refine jG (jI (oN mv (oN (fa cg Z) (oA (lh (I (d0.Thread)) KN Z Z Z) (oN (fa cg Z) (oA (lh (I (d0.Index)) KN Z Z Z) (oN (fa mq Z) (oA (lh (I ((J (J v.p (d0.Thread)) (d0.Index)).Reg)) KN Z Z Z) (jB h fun v8 cv8 h=>?_)))))))));refine oW Z Z Z (dX.outAt (ow (⟨v.p,(⟨v.x.From,v.x.Order⟩:KG),v.events,v.values,v.busy⟩:aA) (d0.Thread) (d0.Index) ((J (J v.p (d0.Thread)) (d0.Index)).Reg) oD gZ gu gw1 hgw1 cv8) [0,1,2] (by decide) (.cons Z (.rowL (.cons (aR 9 _ Z) (.cons (aR 9 _ Z) (.cons (aR 9 _ Z) (.cons (aR 9 _ Z) (.cons (kC Z) (.cons (kC Z) .nil))))))) (.bE Z qD (.cons Z (RenK.bE' qD) .nil))) (.cons (.hp Z) (.cons (aR 9 _ Z) (.cons (aR 9 _ Z) (.cons (aR 9 _ Z) .nil)))) (G:=fun v_=>[some ⟨oD,6,136,[[eL (cL KE.c) v8.1.p,eL cI v8.1.x.From,eL (cL cI) v8.1.x.Order,eL KH.c v8.1.events,hS gw1 1 gZ 1 v.values.length,hS false 2 gu 1 v8.1.busy.length]]⟩,bE gw1 gZ 1 3 (v.values.map cI),bE false gu 1 4 (v8.1.busy.map cB)]) (G':=fun v_=>[some ⟨oD,6,136,[[eL (cL KE.c) v8.1.p,eL cI v8.1.x.From,eL (cL cI) v8.1.x.Order,eL KH.c v8.1.events,hS gw1 1 gZ 1 v.values.length,hS false 2 gu 1 v8.1.busy.length]]⟩,bE gw1 gZ 1 3 (v.values.map cI),bE false gu 1 4 (v8.1.busy.map cB),some ⟨0,5,80,[(KH.c d0)]⟩,some ⟨0,4,90,[(KE.c (J (J v.p (d0.Thread)) (d0.Index)))]⟩]) 5 Z (fun v_ => .some (.rowL (.cons (aR 9 _ Z) (.cons (aR 9 _ Z) (.cons (aR 9 _ Z) (.cons (aR 9 _ Z) (.cons (kC (.inl Z)) (.cons (kC (.inl Z)) .nil))))))) (.bE qD (.some (RenK.bE' qD) .nil))) qD (r:=I v8.2) (aR 9 _ Z) qD) (fun u9=>?_);refine oN as' (jA (jH (jH (T.clean (H0:=[some ⟨oD,6,136,[[eL (cL KE.c) v8.1.p,eL cI v8.1.x.From,eL (cL cI) v8.1.x.Order,eL KH.c v8.1.events,hS gw1 1 gZ 1 v.values.length,hS false 2 gu 1 v8.1.busy.length]]⟩,bE gw1 gZ 1 3 (v.values.map cI),bE false gu 1 4 (v8.1.busy.map cB),some ⟨0,5,80,[(KH.c d0)]⟩,some ⟨0,4,90,[(KE.c (J (J v.p (d0.Thread)) (d0.Index)))]⟩]) (e0:=ak [(8,I v8.2),(0,.hp 0 oD 6 0 0),(1,I i)]) Z (Ky Z (Ky Z (Ky Z Kw))) (jC (oN mv (oN (Kz.ilt Z Z) (jA ?_))))))));refine jN Z h (fun q10 h=>?_) (fun q10 h=>?_)
  ·refine jI (oN as' (oN as' (jA (jK ?_))));obtain rfl:=KD h
   repeat (first|refine jd ?_|refine je ?_)
   exact ⟨ak [(4,I U),(5,Bo true)],[some ⟨oD,6,136,[[eL (cL KE.c) v8.1.p,eL cI v8.1.x.From,eL (cL cI) v8.1.x.Order,eL KH.c v8.1.events,hS gw1 1 gZ 1 v.values.length,hS false 2 gu 1 v8.1.busy.length]]⟩,bE gw1 gZ 1 3 (v.values.map cI),bE false gu 1 4 (v8.1.busy.map cB)],rU Z (.cons (.row (.cons (.fz (qC Z)) (.cons (.fz (qC Z)) (.cons (.fz (qC Z)) (.cons (.fz (qC Z)) (.cons (.hS (g:=gw1) (b:=1) (ver:=gZ) (s:=1) (n:=v.values.length) Z) (.cons (.hS (g:=false) (b:=2) (ver:=gu) (s:=1) (n:=v8.1.busy.length) Z) .nil))))))) (.cons (.list (g:=gw1) (ver:=gZ) (l:=v.values) qD) (.cons (.list (g:=false) (ver:=gu) (l:=v8.1.busy) qD) .nil))) (ah (.fz (qC Z)) (ah (.fz (qC Z)) bq)),jQ (vs:=[I U,Bo true]) (.cons (.tmp Z) (.cons (.tmp Z) .nil)) ⟨0,Z,Z⟩⟩
  refine jG (jI (oN mv (oN (nl Z) (oN (fa qY Z) (oA (lh (hS false 2 gu 1 v8.1.busy.length) FI Z Z Z) (oN mv (jD h fun g11 h=>oN (Kz.ixO (g:=false) FJ Z Z nofun g11) (oV (EvA.stO (g:=false) (l:=v8.1.busy) (cs:=[Bo true]) true ty4 Z Z Z nofun (aI Z g11) Z Z Z) (jA (jI (oN mv (oN mv (oN (nl Z) (oN (fa qY Z) ?_))))))))))))));refine oN (fa uG Z) (oA (lh (eL cI v8.1.x.From) nu Z Z Z) (oN mv (jD h fun g12 h=>oN (Kz.ixL aK Z Z g12 qD) (oN (lf (I (J v8.1.x.From v8.2)) KN Z) (jB h fun v13 cv13 h=>?_)))));refine oW Z Z Z (dX.outAt (ih (⟨v8.1.p,(⟨v8.1.x.From,v8.1.x.Order⟩:KG),v8.1.events,v.values,(v8.1.busy.set i.toNat true)⟩:aA) (J v8.1.x.From v8.2) oD gZ gu gw1 hgw1 cv13) [0,1,2] (by decide) (.cons Z (.rowL (.cons (aR 9 _ Z) (.cons (aR 9 _ Z) (.cons (aR 9 _ Z) (.cons (aR 9 _ Z) (.cons (kC Z) (.cons (EU Z ((by simp))) .nil))))))) (.bE Z qD (.cons Z (RenK.bE' qD) .nil))) (.cons (.hp Z) (.cons (aR 9 _ Z) .nil)) (G:=fun v_=>[some ⟨oD,6,136,[[eL (cL KE.c) v13.1.p,eL cI v13.1.x.From,eL (cL cI) v13.1.x.Order,eL KH.c v13.1.events,hS gw1 1 gZ 1 v.values.length,hS false 2 gu 1 v13.1.busy.length]]⟩,bE gw1 gZ 1 3 (v.values.map cI),bE false gu 1 4 (v13.1.busy.map cB)]) (G':=fun v_=>[some ⟨oD,6,136,[[eL (cL KE.c) v13.1.p,eL cI v13.1.x.From,eL (cL cI) v13.1.x.Order,eL KH.c v13.1.events,hS gw1 1 gZ 1 v.values.length,hS false 2 gu 1 v13.1.busy.length]]⟩,bE gw1 gZ 1 3 (v.values.map cI),bE false gu 1 4 (v13.1.busy.map cB),some ⟨0,5,80,[(KH.c d0)]⟩,some ⟨0,4,90,[(KE.c (J (J v.p (d0.Thread)) (d0.Index)))]⟩]) 5 Z (fun v_ => .some (.rowL (.cons (aR 9 _ Z) (.cons (aR 9 _ Z) (.cons (aR 9 _ Z) (.cons (aR 9 _ Z) (.cons (kC (.inl Z)) (.cons (kC (.inl Z)) .nil))))))) (.bE qD (.some (RenK.bE' qD) .nil))) qD (r:=.tup [I v13.2.1,Bo v13.2.2]) (aR 9 _ Z) qD) (fun u14=>?_);refine oN mv (oN (Kz.ext (I v13.2.1) Z Z) (oN (Kz.ext (Bo v13.2.2) Z Z) (oN as' (oN as' (jA (jH (T.clean (H0:=[some ⟨oD,6,136,[[eL (cL KE.c) v13.1.p,eL cI v13.1.x.From,eL (cL cI) v13.1.x.Order,eL KH.c v13.1.events,hS gw1 1 gZ 1 v.values.length,hS false 2 gu 1 v13.1.busy.length]]⟩,bE gw1 gZ 1 3 (v.values.map cI),bE false gu 1 4 (v13.1.busy.map cB),some ⟨0,5,80,[(KH.c d0)]⟩,some ⟨0,4,90,[(KE.c (J (J v.p (d0.Thread)) (d0.Index)))]⟩]) (e0:=ak [(10,Bo v13.2.2),(9,I v13.2.1),(0,.hp 0 oD 6 0 0),(1,I i)]) Z (Ky Z (Ky Z (Ky Z (Ky Z Kw)))) (jC (oN mv (oN (nl Z) (oN (fa qY Z) (oA (lh (hS false 2 gu 1 v13.1.busy.length) FI Z Z Z) (oN mv (jD h fun g15 h=>oN (Kz.ixO (g:=false) FJ Z Z nofun g15) ?_))))))))))))));refine oV (EvA.stO (g:=false) (l:=v13.1.busy) (cs:=[Bo false]) false ty4 Z Z Z nofun (aI Z g15) Z Z Z) (jA (jI (oN mv (oN mv (oN as' (oN as' (jA (jK ?_))))))));obtain rfl:=KD h
  repeat (first|refine jd ?_|refine je ?_)
  exact ⟨ak [(4,I v13.2.1),(5,Bo v13.2.2)],[some ⟨oD,6,136,[[eL (cL KE.c) v13.1.p,eL cI v13.1.x.From,eL (cL cI) v13.1.x.Order,eL KH.c v13.1.events,hS gw1 1 gZ 1 v.values.length,hS false 2 gu 1 ((v13.1.busy.set i.toNat false).length)]]⟩,bE gw1 gZ 1 3 (v.values.map cI),bE false gu 1 4 ((v13.1.busy.set i.toNat false).map cB)],rU Z (.cons (.row (.cons (.fz (qC Z)) (.cons (.fz (qC Z)) (.cons (.fz (qC Z)) (.cons (.fz (qC Z)) (.cons (.hS (g:=gw1) (b:=1) (ver:=gZ) (s:=1) (n:=v.values.length) Z) (.cons (.eqv (congrArg (hS false 2 gu 1) (by simp:v13.1.busy.length=(v13.1.busy.set i.toNat false).length)) (.hS (g:=false) (b:=2) (ver:=gu) (s:=1) (n:=(v13.1.busy.set i.toNat false).length) Z)) .nil))))))) (.cons (.list (g:=gw1) (ver:=gZ) (l:=v.values) qD) (.cons (.list (g:=false) (ver:=gu) (l:=(v13.1.busy.set i.toNat false)) qD) .nil))) (ah (.fz (qC Z)) (ah (.fz (qC Z)) bq)),jQ (vs:=[I v13.2.1,Bo v13.2.2]) (.cons (.tmp Z) (.cons (.tmp Z) .nil)) ⟨0,Z,Z⟩⟩
theorem qf (v:aA) (i:Int) (oD:Nat) (gZ:Nat) (gu:Nat) (gw1:Bool) (hgw1:gw1=true->v.values=[]) {q} (h:iS v i=some q):dX Tryz.prog 117 [.hp 0 oD 6 0 0,I i] [some ⟨oD,6,136,[[eL (cL KE.c) v.p,eL cI v.x.From,eL (cL cI) v.x.Order,eL KH.c v.events,hS gw1 1 gZ 1 v.values.length,hS false 2 gu 1 v.busy.length]]⟩,bE gw1 gZ 1 3 (v.values.map cI),bE false gu 1 4 (v.busy.map cB)] (HL (.tup [I q.2.1,Bo q.2.2]) fun ver=>[some ⟨oD,6,136,[[eL (cL KE.c) q.1.p,eL cI q.1.x.From,eL (cL cI) q.1.x.Order,eL KH.c q.1.events,hS gw1 1 gZ 1 v.values.length,hS false 2 gu 1 q.1.busy.length]]⟩,bE gw1 gZ 1 3 (v.values.map cI),bE false gu 1 4 (q.1.busy.map cB)]):=by
 obtain ⟨nf,h⟩:=nC h;exact o8 nf v i oD gZ gu gw1 hgw1 h
theorem um (p:List (List KE)) (x:KG) {q} (h:gm p x=some q):ax Tryz.prog 68 [eL (cL KE.c) p,.agg (KG.c x)] (.tup [eL cI q.1,Bo q.2]):=by
 refine pM Tryz.func68 Z (by kernel_rfl) Z (jI (oN (Kz.bxF [eL cI x.From,eL (cL cI) x.Order] Z Z Z) (oN as' (oN as' (jA (jH (T.reserve (T.reserve (jP (dG [dF,dF,dF,dF,dF,([1],true),dF]) (by kernel_rfl) (by kernel_rfl) (fN Z mv (fN Z (lf (.agg (KG.c x)) qX Z) (fN Z mv (fC h (fun _=>j6 _) Z Z Z Z Z fun v1 _ h=>fN Z (Kz.build [eL (cL KE.c) p,eL cI x.From,eL (cL cI) x.Order,eL KH.c v1,hS true 0 0 1 (([]:LI).length),.nil] Tryz.underlying136 JR qY Z Z) (fW 1 [] Z Z (fun G hG=>EvA.bxA (cs:=[eL (cL KE.c) p,eL cI x.From,eL (cL cI) x.Order,eL KH.c v1,hS true 0 0 1 (([]:LI).length),.nil]) 1 Z Z (hG.a0 Z)) ?_))))))))))))));refine fN Z as' (jR (jI (oN mv (oN mv (oN (nl Z) (oN (fa qY Z) (oA (lh (eL KH.c v1) Ht Z Z Z) (oN (Kz.lenL mR Z) (jD h fun g2 h=>oA (EvA.mkN (c:=cB) (default:Bool) FJ Z Z g2 Z Z Z) (oN (nl Z) (oN (fa qY Z) (oV (sr [eL (cL KE.c) p,eL cI x.From,eL (cL cI) x.Order,eL KH.c v1,hS true 0 0 1 (([]:LI).length),hS false 2 0 1 ((Qb (v1.length:Int).toNat (default:Bool)).length)] FI Z Z Z Z) (jA ?_)))))))))))));obtain ⟨Ks3,es3,ws3,h,ks3⟩:=mX h;refine T.join (S:=(LI)×(List (List KE))×(LI)×(LL)×(List KH)×(List Bool)) (G:=(Bool×Nat)×Nat) (fun s3=>Ks3 s3=some q) (fun s3 gh=>(gh.1.1=true->s3.1=[])) (fun s3 gh=>[(6,.hp 1 0 6 0 0)]) (fun s3 gh=>[bE gh.1.1 gh.1.2 1 3 (s3.1.map cI),some ⟨0,6,136,[[eL (cL KE.c) s3.2.1,eL cI s3.2.2.1,eL (cL cI) s3.2.2.2.1,eL KH.c s3.2.2.2.2.1,hS gh.1.1 0 gh.1.2 1 s3.1.length,hS false 2 gh.2 1 s3.2.2.2.2.2.length]]⟩,bE false gh.2 1 4 (s3.2.2.2.2.2.map cB)]) (fun s3 gh h n28=>?_) ?_
 ·clear ks3;subst es3;obtain ⟨⟨b27,u26⟩,u29⟩:=gh;refine jI (oN mv (oN (nl Z) (oN (fa qY Z) (oA (lh (hS b27 0 u26 1 s3.1.length) nu Z Z Z) (oN (Kz.asg (hS b27 0 u26 1 s3.1.length) Z) (oN as' (jA (jK ?_))))))));obtain rfl:=KD h
  repeat (first|refine jd ?_|refine je ?_)
  exact jQ (vs:=[hS b27 0 u26 1 s3.1.length,Bo true]) (.cons (.tmp Z) (.cons (.tmp Z) .nil)) (.tupL (.cons (Fz.own (g:=b27) (ver:=u26) (l:=s3.1) Z Z Z n28 qD) (.cons (qC Z) .nil)))
 refine jH (T.clean (H0:=[bE true 0 1 3 (([]:LI).map cI),some ⟨0,6,136,[[eL (cL KE.c) p,eL cI x.From,eL (cL cI) x.Order,eL KH.c v1,hS true 0 0 1 (([]:LI).length),hS false 2 0 1 ((Qb (v1.length:Int).toNat (default:Bool)).length)]]⟩,bE false 0 1 4 ((Qb (v1.length:Int).toNat (default:Bool)).map cB)]) (e0:=ak [(6,.hp 1 0 6 0 0)]) Z (Ky Z Kw) (jC (oN mv (oN (nl Z) (oN (fa qY Z) (oA (lh (eL KH.c v1) Ht Z Z Z) (oN (Kz.lenL mR Z) (oN mv (jA (jE ?_))))))))));refine jO (S:=(LI)×(List (List KE))×(LI)×(LL)×(List KH)×(List Bool)×Int) (G:=(Bool×Nat)×Nat) (iT v1) (fun s10 gh=>(gh.1.1=true->s10.1=[])) (fun s10 gh=>[(32,I s10.2.2.2.2.2.2),(31,I (v1.length:Int)),(30,eL KH.c v1),(6,.hp 1 0 6 0 0)]) (fun s10 gh=>[bE gh.1.1 gh.1.2 1 3 (s10.1.map cI),some ⟨0,6,136,[[eL (cL KE.c) s10.2.1,eL cI s10.2.2.1,eL (cL cI) s10.2.2.2.1,eL KH.c s10.2.2.2.2.1,hS gh.1.1 0 gh.1.2 1 s10.1.length,hS false 2 gh.2 1 s10.2.2.2.2.2.1.length]]⟩,bE false gh.2 1 4 (s10.2.2.2.2.2.1.map cB)]) (s0:=(([]:LI),p,x.From,x.Order,v1,(Qb (v1.length:Int).toNat (default:Bool)),U)) ((true,0),0) h qD (kw Z Z) (fun s10 gh ws10 h n14=>?_);obtain ⟨⟨b13,u12⟩,u15⟩:=gh;refine jI (oN (Kz.ilt Z Z) (jA (jH ?_)));refine jN Z h (fun q16 h=>?_) (fun q16 h=>?_)
 ·refine jG (jH (jE (jI (oN mv (jD h fun g17 h=>oN (Kz.ixL mR Z Z g17 qD) (oN (lf (.agg (KH.c (J v1 s10.2.2.2.2.2.2))) rY Z) (oA (EvA.al zU Z Z) (oN as' (oV (sr (KH.c (J v1 s10.2.2.2.2.2.2)) rY Z Z Z Z) (jA (jI (oN as' (jA ?_)))))))))))));obtain ⟨Ks18,es18,ws18,h,ks18⟩:=mX h;refine T.join (S:=(List (List KE))×(LI)×(LL)×(List KH)×(List Bool)×Int) (G:=Nat) (fun s18=>Ks18 s18=some ws10) (fun s18 gh=>True) (fun s18 gh=>[(9,I s18.2.2.2.2.2),(32,I s10.2.2.2.2.2.2),(31,I (v1.length:Int)),(30,eL KH.c v1),(6,.hp 1 0 6 0 0)]) (fun s18 gh=>[bE b13 u12 1 3 (s10.1.map cI),some ⟨0,6,136,[[eL (cL KE.c) s18.1,eL cI s18.2.1,eL (cL cI) s18.2.2.1,eL KH.c s18.2.2.2.1,hS b13 0 u12 1 s10.1.length,hS false 2 gh 1 s18.2.2.2.2.1.length]]⟩,bE false gh 1 4 (s18.2.2.2.2.1.map cB),some ⟨0,5,80,[(KH.c (J v1 s10.2.2.2.2.2.2))]⟩]) (fun s18 u23 h hg=>?_) ?_
  ·clear ks18;subst es18;refine jC (oN mv (oN mv (oN (nl Z) (oN (fa qY Z) (oA (lh (hS b13 0 u12 1 s10.1.length) nu Z Z Z) (oN mv (oN (Kz.mkF (c:=cI) ([s18.2.2.2.2.2]:LI) [[I s18.2.2.2.2.2]] aK Z Z Z qD qD Z) (jL h fun g24 h=>oA (EvA.app1 (g:=b13) (l:=s10.1) s18.2.2.2.2.2 aK (by kernel_rfl) Z Z Z n14 (bK.fz (l:=([s18.2.2.2.2.2]:LI)) Z qD) g24) (oN (nl Z) (oN (fa qY Z) (oV (sr [eL (cL KE.c) s18.1,eL cI s18.2.1,eL (cL cI) s18.2.2.1,eL KH.c s18.2.2.2.1,hS false 0 (u12+1) 1 ((s10.1++[s18.2.2.2.2.2]).length),hS false 2 u23 1 s18.2.2.2.2.1.length] nu Z Z Z Z) (jA (jC (jW h fun g25 h=>?_))))))))))))));refine oN (Kz.add Z Z g25) (oN mv (jA ?_));obtain rfl:=KD h;exact ⟨((s10.1++[s18.2.2.2.2.2]),s18.1,s18.2.1,s18.2.2.1,s18.2.2.2.1,s18.2.2.2.2.1,(s10.2.2.2.2.2.2+V)),((false,u12+1),u23),Z,nofun,rU Z (.cons (.list (g:=false) (ver:=u12+1) (l:=(s10.1++[s18.2.2.2.2.2])) qD) (.cons (.row (.cons (.fz (qC Z)) (.cons (.fz (qC Z)) (.cons (.fz (qC Z)) (.cons (.fz (qC Z)) (.cons (.hS (g:=false) (b:=0) (ver:=u12+1) (s:=1) (n:=(s10.1++[s18.2.2.2.2.2]).length) Z) (.cons (.hS (g:=false) (b:=2) (ver:=u23) (s:=1) (n:=s18.2.2.2.2.1.length) Z) .nil))))))) (.cons (.list (g:=false) (ver:=u23) (l:=s18.2.2.2.2.1) qD) .nil))) (ah (.fz (qC Z)) (ah (.fz (qC Z)) (ah (.fz (qC Z)) (ah (.hp (nlb Z)) bq))))⟩
  refine jI (oN (fa cg Z) (oA (lh (Bo ((J v1 s10.2.2.2.2.2.2).aC)) ty4 Z Z Z) (jA ?_)));refine jN Z h (fun q19 h=>?_) (fun q19 h=>?_)
  ·refine jI (oN mv (oN mv (jB h fun v20 cv20 h=>?_)));refine oW Z Z Z (dX.outAt (qf (⟨s10.2.1,(⟨s10.2.2.1,s10.2.2.2.1⟩:KG),s10.2.2.2.2.1,s10.1,s10.2.2.2.2.2.1⟩:aA) s10.2.2.2.2.2.2 0 u12 u15 b13 n14 cv20) [1,0,2] (by decide) (.cons Z (.rowL (.cons (aR 9 _ Z) (.cons (aR 9 _ Z) (.cons (aR 9 _ Z) (.cons (aR 9 _ Z) (.cons (kC Z) (.cons (kC Z) .nil))))))) (.bE Z qD (.cons Z (RenK.bE' qD) .nil))) (.cons (.hp Z) (.cons (aR 9 _ Z) .nil)) (G:=fun v_=>[some ⟨0,6,136,[[eL (cL KE.c) v20.1.p,eL cI v20.1.x.From,eL (cL cI) v20.1.x.Order,eL KH.c v20.1.events,hS b13 0 u12 1 s10.1.length,hS false 2 u15 1 v20.1.busy.length]]⟩,bE b13 u12 1 3 (s10.1.map cI),bE false u15 1 4 (v20.1.busy.map cB)]) (G':=fun v_=>[bE b13 u12 1 3 (s10.1.map cI),some ⟨0,6,136,[[eL (cL KE.c) v20.1.p,eL cI v20.1.x.From,eL (cL cI) v20.1.x.Order,eL KH.c v20.1.events,hS b13 0 u12 1 s10.1.length,hS false 2 u15 1 v20.1.busy.length]]⟩,bE false u15 1 4 (v20.1.busy.map cB),some ⟨0,5,80,[(KH.c (J v1 s10.2.2.2.2.2.2))]⟩]) 4 Z (fun v_ => .some (.rowL (.cons (aR 9 _ Z) (.cons (aR 9 _ Z) (.cons (aR 9 _ Z) (.cons (aR 9 _ Z) (.cons (kC (.inl Z)) (.cons (kC (.inl Z)) .nil))))))) (.bE qD (.some (RenK.bE' qD) .nil))) qD (r:=.tup [I v20.2.1,Bo v20.2.2]) (aR 9 _ Z) qD) (fun u21=>?_);refine oN mv (oN (Kz.ext (I v20.2.1) Z Z) (oN (Kz.ext (Bo v20.2.2) Z Z) (oN as' (oN as' (jA (jH (jI (oN mv (oN (Kz.not Z) (jA ?_))))))))));refine jN Z h (fun q22 h=>?_) (fun q22 h=>?_)
   ·refine jH (T.clean (H0:=[bE b13 u12 1 3 (s10.1.map cI),some ⟨0,6,136,[[eL (cL KE.c) v20.1.p,eL cI v20.1.x.From,eL (cL cI) v20.1.x.Order,eL KH.c v20.1.events,hS b13 0 u12 1 s10.1.length,hS false 2 u15 1 v20.1.busy.length]]⟩,bE false u15 1 4 (v20.1.busy.map cB),some ⟨0,5,80,[(KH.c (J v1 s10.2.2.2.2.2.2))]⟩]) (e0:=ak []) Z Kw (jC (oN as' (oN as' (jA (jK ?_))))));obtain rfl:=KD h;replace h:=congrArg some (show _=_ from ks18);refine lX h fun h=>?_;obtain rfl:=KD h;replace h:=congrArg some (show _=_ from ks3);obtain rfl:=KD h
    repeat (first|refine jd ?_|refine je ?_)
    exact jQ (vs:=[.nil,Bo false]) (.cons (.tmp Z) (.cons (.tmp Z) .nil)) (.tupL (.cons .nil0 (.cons (qC Z) .nil)))
   refine jG (T.clean (H0:=[bE b13 u12 1 3 (s10.1.map cI),some ⟨0,6,136,[[eL (cL KE.c) v20.1.p,eL cI v20.1.x.From,eL (cL cI) v20.1.x.Order,eL KH.c v20.1.events,hS b13 0 u12 1 s10.1.length,hS false 2 u15 1 v20.1.busy.length]]⟩,bE false u15 1 4 (v20.1.busy.map cB),some ⟨0,5,80,[(KH.c (J v1 s10.2.2.2.2.2.2))]⟩]) (e0:=ak [(10,I v20.2.1),(32,I s10.2.2.2.2.2.2),(31,I (v1.length:Int)),(30,eL KH.c v1),(6,.hp 1 0 6 0 0)]) Z (Ky Z (Ky Z (Ky Z (Ky Z (Ky Z Kw))))) (jC (oN mv (oN as' (jA ?_)))));obtain rfl:=KD h;exact ⟨(v20.1.p,v20.1.x.From,v20.1.x.Order,v20.1.events,v20.1.busy,v20.2.1),u15,ks18,trivial,kw Z Z⟩
  refine jG ?_;obtain rfl:=KD h;exact ⟨(s10.2.1,s10.2.2.1,s10.2.2.2.1,s10.2.2.2.2.1,s10.2.2.2.2.2.1,(-1:Int)),u15,ks18,trivial,kw Z Z⟩
 refine jM (lX h fun h=>?_);obtain rfl:=KD h;exact ⟨(s10.1,s10.2.1,s10.2.2.1,s10.2.2.2.1,s10.2.2.2.2.1,s10.2.2.2.2.2.1),((b13,u12),u15),ks3,n14,kw Z Z⟩
theorem ku (x:KG) (loc:Int) (i:Int) (k_:Int) {q} (h:bV x loc i k_=some q):ax Tryz.prog 213 [.agg (KG.c x),I loc,I i,I k_] (Bo q):=by
 refine pM Tryz.func213 Z (by kernel_rfl) Z (jI (oN (Kz.bxF [eL cI x.From,eL (cL cI) x.Order] Z Z Z) (oN as' (jA (jH (jP (fun _=>([],false)) (by kernel_rfl) (by kernel_rfl) (fN Z (fa uG Z) (fN Z (lf (eL (cL cI) x.Order) Cf Z) (fN Z mv (jD h fun g1 h=>fN Z (Kz.ixL pU Z Z g1 qD) (fN Z (lf (eL cI (J x.Order loc)) nu Z) (fN Z mv (fC h (fun _=>eC _ _) Z Z Z Z Z fun v2 _ h=>fN Z (fa uG Z) ?_)))))))))))));refine fN Z (lf (eL (cL cI) x.Order) Cf Z) (fN Z mv (fN Z (Kz.ixL pU Z Z g1 qD) (fN Z (lf (eL cI (J x.Order loc)) nu Z) (fN Z mv (fC h (fun _=>eC _ _) Z Z Z Z Z fun v3 _ h=>fN Z as' (fN Z as' (jR (jH (T.clean (H0:=[]) (e0:=ak [(10,I v3),(9,I v2)]) Z (Ky Z (Ky Z Kw)) (jC (oN mv (oN (Kz.ige Z Z) (oN mv ?_)))))))))))));refine TO.jB h 3 (fun s4=>[(30,Bo s4),(10,I v3),(9,I v2)]) (fun s4=>[]) (fun s4 q5 h js4=>?_) (fun s4 q5 h js4=>?_) (fun s4 h=>?_)
 ·refine gN Z q5 mv (gN Z q5 (Kz.ige Z Z) (oN (Kz.pickT Z q5 (Bo (decide (U<=v3))) Z) ?_))
  cases h
  exact js4 _ _ (kw Z Z)
 ·refine gS Z q5 (gS Z q5 (oN (Kz.pickF Z q5 (Bo false) Z) ?_))
  cases h
  exact js4 _ _ (kw Z Z)
 refine oN mv ?_;refine TO.jB h 4 (fun s6=>[(35,Bo s6)]) (fun s6=>[]) (fun s6 q7 h js6=>?_) (fun s6 q7 h js6=>?_) (fun s6 h=>?_)
 ·refine gN Z q7 mv (gN Z q7 mv (gN Z q7 (Kz.ilt Z Z) (oN (Kz.pickT Z q7 (Bo (decide (v2<v3))) Z) ?_)))
  cases h
  exact js6 _ _ (kw Z Z)
 ·refine gS Z q7 (gS Z q7 (gS Z q7 (oN (Kz.pickF Z q7 (Bo false) Z) ?_)))
  cases h
  exact js6 _ _ (kw Z Z)
 refine oN as' (jA (jK ?_))
 cases h
 exact aD Z Z Z
theorem uo (y:KE) {q} (h:mL y=some q):ax Tryz.prog 215 [.agg (KE.c y)] (Bo q):=by
 refine pM Tryz.func215 Z (by kernel_rfl) Z (jI (oN (Kz.bxF (KE.c y) Z Z Z) (oN as' (jA (jI (oN (fa mq Z) (oN (lf (I y.Op) KN Z) (oN (Kz.ieq Z Z) (oN as' (jA (jK ?_)))))))))))
 cases h
 exact aD Z Z Z
theorem bS (s:List KE) {q} (h:aH s=some q):ax Tryz.prog 223 [eL KE.c s,.fn (.func 215) []] (I q):=by
 refine pM Tryz.func223 Z (by kernel_rfl) Z (jI (oN as' (jA ?_)));obtain ⟨Ks1,es1,ws1,h,ks1⟩:=mX h;refine T.join (S:=Unit) (G:=Unit) (fun s1=>Ks1 s1=some q) (fun s1 gh=>True) (fun s1 gh=>[]) (fun s1 gh=>[]) (fun s1 gh h hg=>?_) ?_
 ·clear ks1;subst es1;refine jI (oN as' (jA (jK ?_)))
  cases h
  exact aD Z Z Z
 refine jI (oN mv (oN (Kz.lenL xB Z) (oN mv (jA (jE ?_)))));refine T.lU h (fun s4=>[(8,I s4),(7,I (s.length:Int)),(0,eL KE.c s),(1,.fn (.func 215) [])]) (fun s4=>[]) (kw Z Z) (fun s4 ws4 h=>?_);refine jI (oN (Kz.ilt Z Z) (jA (jH ?_)));refine jN Z h (fun q6 h=>?_) (fun q6 h=>?_)
 ·refine jG (jH (jE (jI (oN mv (oN as' (jA (jI (oN mv (oN mv (oN mv (jD h fun g7 h=>oN (Kz.ixL xB Z Z g7 qD) (oN (lf (.agg (KE.c (J s s4))) xp Z) (oC h (fun _=>uo _) Z Z Z Z fun v8 _ h=>jA ?_)))))))))))));refine jN Z h (fun q9 h=>?_) (fun q9 h=>?_)
  ·refine jI (oN mv (oN as' (jA (jK (lX h fun h=>?_)))));obtain rfl:=KD h;replace h:=congrArg some (show _=_ from ks1)
   cases h
   exact aD Z Z Z
  refine jG (jC (jW h fun g10 h=>oN (Kz.add Z Z g10) (oN mv (jA ?_))));exact lE h (kw Z Z)
 refine jM (lX h fun h=>?_)
 cases h
 exact ⟨(),(),ks1,trivial,kw Z Z⟩
theorem bF (s:List KE) {q} (h:az s=some q):ax Tryz.prog 214 [eL KE.c s,.fn (.func 215) []] (Bo q):=by
 refine pM Tryz.func214 Z (by kernel_rfl) Z (jI (oN as' (jA (jI (oN mv (oN mv (oC h (fun _=>bS _) Z Z Z Z fun v1 _ h=>oN (Kz.ige Z Z) (oN as' (jA (jK ?_))))))))))
 cases h
 exact aD Z Z Z
theorem eX (e_:KH) (writes:Bool) {q} (h:bH e_ writes=some q):ax Tryz.prog 216 [.agg (KH.c e_),Bo writes] (Bo q):=by
 refine pM Tryz.func216 Z (by kernel_rfl) Z (jI (oN (Kz.bxF [I e_.Thread,I e_.Index,I e_.Loc,Bo e_.Reads,Bo e_.aC] Z Z Z) (oN as' (jA (jI (oN (fa cg Z) (oN (lf (Bo e_.aC) ty4 Z) (oN mv (oN (Kz.beq bt4 Z Z) (oN mv ?_))))))))));refine TO.jB h 5 (fun s1=>[(14,Bo s1)]) (fun s1=>[]) (fun s1 q2 h js1=>?_) (fun s1 q2 h js1=>?_) (fun s1 h=>?_)
 ·refine gN Z q2 (fa cg Z) (gN Z q2 (lf (Bo e_.Reads) ty4 Z) (gN Z q2 mv (gN Z q2 (Kz.bne bt4 Z Z) (oN (Kz.pickT Z q2 (Bo (!(e_.Reads==writes))) Z) ?_))))
  cases h
  exact js1 _ _ (kw Z Z)
 ·refine gS Z q2 (gS Z q2 (gS Z q2 (gS Z q2 (oN (Kz.pickF Z q2 (Bo false) Z) ?_))))
  cases h
  exact js1 _ _ (kw Z Z)
 refine oN as' (jA (jK ?_))
 cases h
 exact aD Z Z Z
theorem xj (p:List (List KE)) (x:KG) (list:List KH) (name:ByteArray) (i:Int) (k_:Int) {q} (h:mb p x list name i k_=some q):ax Tryz.prog 197 [eL (cL KE.c) p,.agg (KG.c x),eL KH.c list,St name,I i,I k_] (Bo q):=by
 let d2:=(J list i).Thread;let d1:=KH.c (J list i);let d0:=KH.c (J list k_);refine pM Tryz.func197 Z (by kernel_rfl) Z (jI (oN (Kz.bxF [eL cI x.From,eL (cL cI) x.Order] Z Z Z) (oN as' (jA (jH (T.reserve (T.reserve (jP (dG [dF,dF,dF,dF,dF,dF,dF,dF,([0],true),([1],true),([0],true),([1],true)]) (by kernel_rfl) (by kernel_rfl) (fN Z mv (fN Z mv (jD h fun g1 h=>fN Z (Kz.ixL mR Z Z g1 qD) (fN Z (lf (.agg d1) rY Z) (fN Z mv (fN Z mv ?_))))))))))))));refine jD h fun g2 h=>fN Z (Kz.ixL mR Z Z g2 qD) (fN Z (lf (.agg d0) rY Z) (fW 0 [] Z Z (fun G hG=>EvA.alR 0 zU Z Z (hG.a0 Z)) (fW 1 [] Z Z (fun G hG=>EvA.alR 1 zU Z Z (hG.a0 Z)) (fV 0 [] Z Z (fun G hG=>EvA.st (cs:=d1) ⟨0,5,80,[d1]⟩ rY Z Z (hG.a0 Z) Z Z Z Z Z Z) (fV 1 [] Z Z (fun G hG=>EvA.st (cs:=d0) ⟨0,5,80,[d0]⟩ rY Z Z (hG.a0 Z) Z Z Z Z Z Z) (jR (jI (oN (fa cg Z) (oA (lh (I d2) KN Z Z Z) (oN (Kz.ige Z Z) (oN mv ?_)))))))))));refine TO.jB h 6 (fun s3=>[(33,Bo s3),(14,.hp 1 0 5 0 0),(13,.hp 0 0 5 0 0),(7,.fp (KG.c x) 0),(0,eL (cL KE.c) p),(3,St name),(4,I i),(5,I k_)]) (fun s3=>[some ⟨0,5,80,[d1]⟩,some ⟨0,5,80,[d0]⟩]) (fun s3 q4 h js3=>?_) (fun s3 q4 h js3=>?_) (fun s3 h=>?_)
 ·refine gN Z q4 (fa cg Z) (gA Z q4 (lh (I d2) KN Z Z Z) (gN Z q4 (fa cg Z) (gA Z q4 (lh (I ((J list k_).Thread)) KN Z Z Z) (gN Z q4 (Kz.ieq Z Z) (oN (Kz.pickT Z q4 (Bo (d2==((J list k_).Thread))) Z) ?_)))))
  cases h
  exact js3 _ _ (kw Z Z)
 ·refine gS Z q4 (gS Z q4 (gS Z q4 (gS Z q4 (gS Z q4 (oN (Kz.pickF Z q4 (Bo false) Z) ?_)))))
  cases h
  exact js3 _ _ (kw Z Z)
 refine oN mv ?_;refine TO.jB h 6 (fun s5=>[(40,Bo s5),(14,.hp 1 0 5 0 0),(13,.hp 0 0 5 0 0),(7,.fp (KG.c x) 0),(0,eL (cL KE.c) p),(3,St name),(4,I i),(5,I k_)]) (fun s5=>[some ⟨0,5,80,[d1]⟩,some ⟨0,5,80,[d0]⟩]) (fun s5 q6 h js5=>?_) (fun s5 q6 h js5=>?_) (fun s5 h=>?_)
 ·refine gN Z q6 (fa cg Z) (gA Z q6 (lh (I ((J list i).Index)) KN Z Z Z) (gN Z q6 (fa cg Z) (gA Z q6 (lh (I ((J list k_).Index)) KN Z Z Z) (gN Z q6 (Kz.ilt Z Z) (oN (Kz.pickT Z q6 (Bo (decide (((J list i).Index)<((J list k_).Index)))) Z) ?_)))))
  cases h
  exact js5 _ _ (kw Z Z)
 ·refine gS Z q6 (gS Z q6 (gS Z q6 (gS Z q6 (gS Z q6 (oN (Kz.pickF Z q6 (Bo false) Z) ?_)))))
  cases h
  exact js5 _ _ (kw Z Z)
 refine oN as' (jA ?_);obtain ⟨Ks7,es7,ws7,h,ks7⟩:=mX h;refine T.join (S:=Unit) (G:=Unit) (fun s7=>Ks7 s7=some q) (fun s7 gh=>True) (fun s7 gh=>[(4,I i),(5,I k_)]) (fun s7 gh=>[some ⟨0,5,80,[d1]⟩,some ⟨0,5,80,[d0]⟩]) (fun s7 gh h hg=>?_) ?_
 ·clear ks7;subst es7;refine jI (oN mv (oN mv (oN (Kz.ieq Z Z) (oN as' (jA (jK ?_))))))
  cases h
  exact aD Z Z Z
 refine jI (oN mv (jA (jE (jI (oN (Kz.seq Z Z) (oN as' (jA ?_)))))));refine jN Z h (fun q8 h=>?_) (fun q8 h=>?_)
 ·refine jI (oN mv (oN as' (jA (jK ?_))));obtain rfl:=KD h;replace h:=congrArg some (show _=_ from ks7)
  cases h
  exact aD Z Z Z
 refine jI (oN (Kz.seq Z Z) (oN as' (jA ?_)));refine jN Z h (fun q9 h=>?_) (fun q9 h=>?_)
 ·refine jI (oN (fa cg Z) (oA (lh (I ((J list i).Loc)) KN Z Z Z) (oN (fa cg Z) (oA (lh (I ((J list k_).Loc)) KN Z Z Z) (oN (Kz.ieq Z Z) (oN as' (jA (jK ?_))))))));obtain rfl:=KD h;replace h:=congrArg some (show _=_ from ks7)
  cases h
  exact aD Z Z Z
 refine jI (oN (Kz.seq Z Z) (oN as' (jA ?_)));refine jN Z h (fun q10 h=>?_) (fun q10 h=>?_)
 ·refine jI (oN (fa cg Z) (oA (lh (I d2) KN Z Z Z) (oN (fa cg Z) (oA (lh (I ((J list k_).Thread)) KN Z Z Z) (oN (Kz.ine Z Z) (oN mv ?_))))));refine TO.jB h 4 (fun s11=>[(63,Bo s11)]) (fun s11=>[some ⟨0,5,80,[d1]⟩,some ⟨0,5,80,[d0]⟩]) (fun s11 q12 h js11=>?_) (fun s11 q12 h js11=>?_) (fun s11 h=>?_)
  ·refine gS Z q12 (gS Z q12 (gS Z q12 (oN (Kz.pickT Z q12 (Bo true) Z) ?_)))
   cases h
   exact js11 _ _ (kw Z Z)
  ·refine gN Z q12 (fa cg Z) (gA Z q12 (lh (I d2) KN Z Z Z) (gN Z q12 (Kz.ilt Z Z) (oN (Kz.pickF Z q12 (Bo (decide (d2<U))) Z) ?_)))
   cases h
   exact js11 _ _ (kw Z Z)
  refine oN as' (jA (jK ?_));obtain rfl:=KD h;replace h:=congrArg some (show _=_ from ks7)
  cases h
  exact aD Z Z Z
 refine jI (oN (Kz.seq Z Z) (oN as' (jA ?_)));refine jN Z h (fun q13 h=>?_) (fun q13 h=>?_)
 ·refine jI (oN (fa uG Z) (oN (lf (eL cI x.From) nu Z) (oN mv (jD h fun g14 h=>oN (Kz.ixL aK Z Z g14 qD) (oN (lf (I (J x.From k_)) KN Z) (oN mv (oN (Kz.ieq Z Z) (oN as' (jA (jK ?_))))))))));obtain rfl:=KD h;replace h:=congrArg some (show _=_ from ks7)
  cases h
  exact aD Z Z Z
 refine jI (oN (Kz.seq Z Z) (oN as' (jA ?_)));refine jN Z h (fun q15 h=>?_) (fun q15 h=>?_)
 ·refine jH (T.clean (H0:=[some ⟨0,5,80,[d1]⟩,some ⟨0,5,80,[d0]⟩]) (e0:=ak [(13,.hp 0 0 5 0 0),(7,.fp (KG.c x) 0),(4,I i),(5,I k_)]) Z (Ky Z (Ky Z (Ky Z (Ky Z Kw)))) (jC (oN (lf (.agg (KG.c x)) qX Z) (oN (fa cg Z) (oA (lh (I ((J list i).Loc)) KN Z Z Z) (oN mv (oN mv (oC h (fun _=>ku _ _ _ _) Z Z Z Z fun v16 _ h=>oN as' (jA (jK ?_))))))))));obtain rfl:=KD h;replace h:=congrArg some (show _=_ from ks7)
  cases h
  exact aD Z Z Z
 refine jI (oN (Kz.seq Z Z) (oN as' (jA ?_)));refine jN Z h (fun q17 h=>?_) (fun q17 h=>?_)
 ·refine T.jU h (fun s18=>[(12,Bo s18)]) (fun s18=>[some ⟨0,5,80,[d1]⟩,some ⟨0,5,80,[d0]⟩]) (fun s18 h=>?_) (fun s18 h=>?_)
  ·refine jK ?_;obtain rfl:=KD h;replace h:=congrArg some (show _=_ from ks7)
   cases h
   exact aD Z Z Z
  refine T.clean (H0:=[some ⟨0,5,80,[d1]⟩,some ⟨0,5,80,[d0]⟩]) (e0:=ak [(14,.hp 1 0 5 0 0),(13,.hp 0 0 5 0 0),(7,.fp (KG.c x) 0),(4,I i),(5,I k_)]) Z (Ky Z (Ky Z (Ky Z (Ky Z (Ky Z Kw))))) (T.drawG (dG [dF,([0],false),dF,dF,([1],false),dF,dF,dF,dF,dF,dF,dF,dF,dF,([0],false),dF,dF,dF,dF,dF,dF,dF,dF,dF]) (by kernel_rfl) (by kernel_rfl) (tN Z (fa cg Z) (tR [0] Z (fun G hG=>EvA.loadhp (Bo ((J list i).Reads)) ty4 Z (hG.a0 Z) Z Z Z Z) (tN Z mv ?_))));rcases uB h with ⟨q19,h⟩ | ⟨q19,h⟩
  ·refine KO Z q19 Z (fa cg Z) (tgR Z q19 [1] Z (fun G hG=>EvA.loadhp (Bo ((J list k_).aC)) ty4 Z (hG.a0 Z) Z Z Z Z) (tN Z (Kz.pickT Z q19 (Bo ((J list k_).aC)) Z) (tN Z mv ?_)));rcases uB h with ⟨q20,h⟩ | ⟨q20,h⟩
   ·refine KO Z q20 Z mv (KO Z q20 Z mv (KO Z q20 Z (Kz.ine Z Z) (tN Z (Kz.pickT Z q20 (Bo (i != k_)) Z) (tN Z mv ?_))));rcases uB h with ⟨q21,h⟩ | ⟨q21,h⟩
    ·refine KO Z q21 Z (lf (.agg (KG.c x)) qX Z) (KO Z q21 Z (fa cg Z) (tgR Z q21 [0] Z (fun G hG=>EvA.loadhp (I ((J list i).Loc)) KN Z (hG.a0 Z) Z Z Z Z) (KO Z q21 Z (fa uG Z) (KO Z q21 Z (lf (eL cI x.From) nu Z) (KO Z q21 Z mv (jD h fun g22 h=>KO Z q21 Z (Kz.ixL aK Z Z g22 qD) (KO Z q21 Z (lf (I (J x.From i)) KN Z) (KO Z q21 Z mv (jB h fun v23 cv23 h=>KO Z q21 Z (Kz.call Z Z Z (ku x ((J list i).Loc) (J x.From i) k_ cv23) Z) (tN Z (Kz.pickT Z q21 (Bo v23) Z) (tN Z as' (TG.nil ?_))))))))))))
     cases h
     exact ⟨(),trivial,kw Z Z⟩
    refine KP Z q21 (KP Z q21 (KP Z q21 (KP Z q21 (KP Z q21 (KP Z q21 (KP Z q21 (KP Z q21 (KP Z q21 (KP Z q21 (tN Z (Kz.pickF Z q21 (Bo false) Z) (tN Z as' (TG.nil ?_))))))))))))
    cases h
    exact ⟨(),trivial,kw Z Z⟩
   refine KP Z q20 (KP Z q20 (KP Z q20 (tN Z (Kz.pickF Z q20 (Bo false) Z) (tN Z mv (KP Z Z (KP Z Z (KP Z Z (KP Z Z (KP Z Z (KP Z Z (KP Z Z (KP Z Z (KP Z Z (KP Z Z (tN Z (Kz.pickF Z Z (Bo false) Z) ?_)))))))))))))));refine tN Z as' (TG.nil ?_)
   cases h
   exact ⟨(),trivial,kw Z Z⟩
  refine KP Z q19 (KP Z q19 (tN Z (Kz.pickF Z q19 (Bo false) Z) (tN Z mv (KP Z Z (KP Z Z (KP Z Z (tN Z (Kz.pickF Z Z (Bo false) Z) (tN Z mv (KP Z Z (KP Z Z (KP Z Z (KP Z Z (KP Z Z (KP Z Z (KP Z Z ?_)))))))))))))));refine KP Z Z (KP Z Z (KP Z Z (tN Z (Kz.pickF Z Z (Bo false) Z) (tN Z as' (TG.nil ?_)))))
  cases h
  exact ⟨(),trivial,kw Z Z⟩
 refine jI (oN (Kz.seq Z Z) (oN as' (jA ?_)));refine jN Z h (fun q24 h=>?_) (fun q24 h=>?_)
 ·refine T.jU h (fun s25=>[(12,Bo s25)]) (fun s25=>[some ⟨0,5,80,[d1]⟩,some ⟨0,5,80,[d0]⟩]) (fun s25 h=>?_) (fun s25 h=>?_)
  ·refine jK ?_;obtain rfl:=KD h;replace h:=congrArg some (show _=_ from ks7)
   cases h
   exact aD Z Z Z
  refine T.clean (H0:=[some ⟨0,5,80,[d1]⟩,some ⟨0,5,80,[d0]⟩]) (e0:=ak [(15,Bo s5),(14,.hp 1 0 5 0 0),(13,.hp 0 0 5 0 0),(0,eL (cL KE.c) p)]) Z (Ky Z (Ky Z (Ky Z (Ky Z Kw)))) (T.drawG (dG [dF,dF,dF,dF,([0],false),dF,dF,dF,([0],false),dF,([1],false),dF,dF,dF,dF]) (by kernel_rfl) (by kernel_rfl) (tN Z mv (tN Z mv ?_)));rcases uB h with ⟨q26,h⟩ | ⟨q26,h⟩
  ·refine KO Z q26 Z mv (KO Z q26 Z (fa cg Z) (tgR Z q26 [0] Z (fun G hG=>EvA.loadhp (I d2) KN Z (hG.a0 Z) Z Z Z Z) (jD h fun g27 h=>KO Z q26 Z (Kz.ixL yj Z Z g27 qD) (KO Z q26 Z (lf (eL KE.c (J p d2)) AK Z) (KO Z q26 Z (fa cg Z) (tgR Z q26 [0] Z (fun G hG=>EvA.loadhp (I ((J list i).Index)) KN Z (hG.a0 Z) Z Z Z Z) (KO Z q26 Z (fa cg Z) (tgR Z q26 [1] Z (fun G hG=>EvA.loadhp (I ((J list k_).Index)) KN Z (hG.a0 Z) Z Z Z Z) (jD h fun g28 h=>KO Z q26 Z (Kz.slL xB Z (.yes Z) (.yes Z) g28 qD) (jB h fun v29 cv29 h=>KO Z q26 Z (Kz.call Z Z Z (bF (((J p d2).drop ((J list i).Index).toNat).take (((J list k_).Index).toNat-((J list i).Index).toNat)) cv29) Z) (tN Z (Kz.pickT Z q26 (Bo v29) Z) (tN Z as' ?_))))))))))));refine TG.nil ?_
   cases h
   exact ⟨(),trivial,kw Z Z⟩
  refine KP Z q26 (KP Z q26 (KP Z q26 (KP Z q26 (KP Z q26 (KP Z q26 (KP Z q26 (KP Z q26 (KP Z q26 (KP Z q26 (KP Z q26 (tN Z (Kz.pickF Z q26 (Bo false) Z) (tN Z as' (TG.nil ?_)))))))))))))
  cases h
  exact ⟨(),trivial,kw Z Z⟩
 refine jH (T.clean (H0:=[some ⟨0,5,80,[d1]⟩,some ⟨0,5,80,[d0]⟩]) (e0:=ak [(41,St name),(14,.hp 1 0 5 0 0),(13,.hp 0 0 5 0 0),(4,I i),(5,I k_)]) Z (Ky Z (Ky Z (Ky Z (Ky Z (Ky Z Kw))))) (jC (oN (Kz.seq Z Z) (oN as' (jA ?_)))));refine jN Z h (fun q30 h=>?_) (fun q30 h=>?_)
 ·refine jI (oA (lh (.agg d1) rY Z Z Z) (oC h (fun _=>eX _ _) Z Z Z Z fun v31 _ h=>oN mv ?_));refine TO.jB h 3 (fun s32=>[(129,Bo s32)]) (fun s32=>[some ⟨0,5,80,[d1]⟩,some ⟨0,5,80,[d0]⟩]) (fun s32 q33 h js32=>?_) (fun s32 q33 h js32=>?_) (fun s32 h=>?_)
  ·refine gA Z q33 (lh (.agg d0) rY Z Z Z) (jB h fun v34 cv34 h=>gN Z q33 (Kz.call Z Z Z (eX (⟨(J list k_).Thread,(J list k_).Index,(J list k_).Loc,(J list k_).Reads,(J list k_).aC⟩:KH) false cv34) Z) (oN (Kz.pickT Z q33 (Bo v34) Z) ?_))
   cases h
   exact js32 _ _ (kw Z Z)
  ·refine gS Z q33 (gS Z q33 (oN (Kz.pickF Z q33 (Bo false) Z) ?_))
   cases h
   exact js32 _ _ (kw Z Z)
  refine oN as' (jA (jK ?_));obtain rfl:=KD h;replace h:=congrArg some (show _=_ from ks7)
  cases h
  exact aD Z Z Z
 refine jI (oN (Kz.seq Z Z) (oN as' (jA ?_)));refine jN Z h (fun q35 h=>?_) (fun q35 h=>?_)
 ·refine jI (oA (lh (.agg d1) rY Z Z Z) (oC h (fun _=>eX _ _) Z Z Z Z fun v36 _ h=>oN mv ?_));refine TO.jB h 3 (fun s37=>[(137,Bo s37)]) (fun s37=>[some ⟨0,5,80,[d1]⟩,some ⟨0,5,80,[d0]⟩]) (fun s37 q38 h js37=>?_) (fun s37 q38 h js37=>?_) (fun s37 h=>?_)
  ·refine gA Z q38 (lh (.agg d0) rY Z Z Z) (jB h fun v39 cv39 h=>gN Z q38 (Kz.call Z Z Z (eX (⟨(J list k_).Thread,(J list k_).Index,(J list k_).Loc,(J list k_).Reads,(J list k_).aC⟩:KH) true cv39) Z) (oN (Kz.pickT Z q38 (Bo v39) Z) ?_))
   cases h
   exact js37 _ _ (kw Z Z)
  ·refine gS Z q38 (gS Z q38 (oN (Kz.pickF Z q38 (Bo false) Z) ?_))
   cases h
   exact js37 _ _ (kw Z Z)
  refine oN as' (jA (jK ?_));obtain rfl:=KD h;replace h:=congrArg some (show _=_ from ks7)
  cases h
  exact aD Z Z Z
 refine jG ?_
 cases h
 exact ⟨(),(),ks7,trivial,kw Z Z⟩
theorem vz (i:Int) (k_:Int) (a2:List (List KE)) (a3:KG) (a4:List KH) (a5:ByteArray) {q} (h:nH i k_ a2 a3 a4 a5=some q):ax Tryz.prog 196 [I i,I k_,.fp ((cL (cL KE.c)) a2) 0,.fp (KG.c a3) 0,.fp ((cL KH.c) a4) 0,.fp (cS a5) 0] (Bo q):=by
 refine pM Tryz.func196 Z (by kernel_rfl) Z (jI (oN as' (jA (jI (oN (lf (eL (cL KE.c) a2) Jk Z) (oN (lf (.agg (KG.c a3)) qX Z) (oN (lf (eL KH.c a4) Ht Z) (oN (lf (St a5) ty9 Z) (oN mv (oN mv (oC h (fun _=>xj _ _ _ _ _ _) Z Z Z Z fun v1 _ h=>oN as' (jA (jK ?_)))))))))))))
 cases h
 exact aD Z Z Z
theorem ll (n:Int) (is0:List (List KE)) (is1:KG) (is2:List KH) (is3:ByteArray) {q} (h:fM n is0 is1 is2 is3=some q):ax Tryz.prog 195 [I n,.fn (.func 196) [.fp ((cL (cL KE.c)) is0) 0,.fp (KG.c is1) 0,.fp ((cL KH.c) is2) 0,.fp (cS is3) 0]] (eL cI q):=by
 refine pM Tryz.func195 Z (by kernel_rfl) Z (jI (oN as' (jA (jI (oN mv (jD h fun g1 h=>oA (EvA.mkN (c:=cI) (default:Int) aK Z Z g1 Z Z Z) (oN (Kz.asg (hS false 0 0 1 ((Qb n.toNat (default:Int)).length)) Z) (jA ?_))))))));refine T.jF (G:=Nat) h (fun s2 gh=>True) (fun s2 gh=>[(5,hS false 0 gh 1 s2.length)]) (fun s2 gh=>[bE false gh 1 3 (s2.map cI)]) (fun s2 u27 h hg=>?_) (fun s2 h=>?_)
 ·refine jI (oN mv (oN (Kz.asg (hS false 0 u27 1 s2.length) Z) (jA (jK ?_))));obtain rfl:=KD h
  repeat (first|refine jd ?_|refine je ?_)
  exact jQ (vs:=[hS false 0 u27 1 s2.length]) (.cons (.tmp Z) .nil) (Fz.own (g:=false) (ver:=u27) (l:=s2) Z Z Z nofun qD)
 refine jI (oN mv (oN mv (jA (jE ?_))));refine jO (S:=(LI)×Int) (G:=Nat) (d9 n is0 is1 is2 is3) (fun s6 gh=>True) (fun s6 gh=>[(11,I s6.2),(10,I n),(5,hS false 0 gh 1 s6.1.length),(0,I n),(1,.fn (.func 196) [.fp ((cL (cL KE.c)) is0) 0,.fp (KG.c is1) 0,.fp ((cL KH.c) is2) 0,.fp (cS is3) 0])]) (fun s6 gh=>[bE false gh 1 3 (s6.1.map cI)]) (s0:=((Qb n.toNat (default:Int)),U)) 0 h trivial (kw Z Z) (fun s6 u8 ws6 h hg=>?_);refine jI (oN (Kz.ilt Z Z) (jA (jH ?_)));refine jN Z h (fun q9 h=>?_) (fun q9 h=>?_)
 ·refine jG ?_;refine T.jF (G:=Nat) h (fun s10 gh=>True) (fun s10 gh=>[(11,I s6.2),(10,I n),(5,hS false 0 gh 1 s10.length),(0,I n),(1,.fn (.func 196) [.fp ((cL (cL KE.c)) is0) 0,.fp (KG.c is1) 0,.fp ((cL KH.c) is2) 0,.fp (cS is3) 0])]) (fun s10 gh=>[bE false gh 1 3 (s10.map cI)]) (fun s10 u25 h hg=>?_) (fun s10 h=>?_)
  ·refine jC (jW h fun g26 h=>oN (Kz.add Z Z g26) (oN mv (jA ?_)));obtain rfl:=KD h;exact ⟨(s10,(s6.2+V)),u25,Z,trivial,kw Z Z⟩
  refine jE (jI (oN mv (oN as' (jA (jI (oN mv (oN mv (jA (jE ?_)))))))));refine jO (S:=(LI)×Int) (G:=Nat) (dP n is0 is1 is2 is3 s6) (fun s14 gh=>True) (fun s14 gh=>[(15,I s14.2),(14,I n),(6,I s6.2),(11,I s6.2),(10,I n),(5,hS false 0 gh 1 s14.1.length),(0,I n),(1,.fn (.func 196) [.fp ((cL (cL KE.c)) is0) 0,.fp (KG.c is1) 0,.fp ((cL KH.c) is2) 0,.fp (cS is3) 0])]) (fun s14 gh=>[bE false gh 1 3 (s14.1.map cI)]) (s0:=(s6.1,U)) u8 h trivial (kw Z Z) (fun s14 u16 ws14 h hg=>?_);refine jI (oN (Kz.ilt Z Z) (jA (jH ?_)));refine jN Z h (fun q17 h=>?_) (fun q17 h=>?_)
  ·refine jG ?_;refine T.jF (G:=Nat) h (fun s18 gh=>True) (fun s18 gh=>[(15,I s14.2),(14,I n),(6,I s6.2),(11,I s6.2),(10,I n),(5,hS false 0 gh 1 s18.length),(0,I n),(1,.fn (.func 196) [.fp ((cL (cL KE.c)) is0) 0,.fp (KG.c is1) 0,.fp ((cL KH.c) is2) 0,.fp (cS is3) 0])]) (fun s18 gh=>[bE false gh 1 3 (s18.map cI)]) (fun s18 u23 h hg=>?_) (fun s18 h=>?_)
   ·refine jC (jW h fun g24 h=>oN (Kz.add Z Z g24) (oN mv (jA ?_)));obtain rfl:=KD h;exact ⟨(s18,(s14.2+V)),u23,Z,trivial,kw Z Z⟩
   refine jE (jI (oN mv (oN as' (jA (jI (oN mv (oN mv (oN mv (oC h (fun _=>vz _ _ _ _ _ _) Z Z Z Z fun v19 _ h=>jA ?_)))))))));refine jN Z h (fun q20 h=>?_) (fun q20 h=>?_)
   ·refine jP (dG [dF,dF,dF,([0],false),dF,dF,dF,dF,([0],true)]) (by kernel_rfl) (by kernel_rfl) (fN Z mv (fN Z mv (jD h fun g21 h=>fN Z (Kz.ixO (g:=false) aK Z Z nofun g21) (fR [0] Z (fun G hG=>EvA.ldO (g:=false) (l:=s14.1) (I (J s14.1 s6.2)) KN Z (hG.a0 Z) nofun (aI Z g21) Z) (fN Z mv (jD h fun g22 h=>fN Z (Kz.shl Z Z g22) (fN Z (Kz.bor Z Z) (fN Z (Kz.ixO (g:=false) aK Z Z nofun g21) (fV 0 [] Z Z (fun G hG=>EvA.stO (g:=false) (l:=s14.1) (cs:=[I (KA .i64 (J s14.1 s6.2) (yx .i64 V s14.2))]) (KA .i64 (J s14.1 s6.2) (yx .i64 V s14.2)) KN Z Z (hG.a0 Z) nofun (aI Z g21) Z Z Z) (jR ?_))))))))));obtain rfl:=KD h;exact ⟨u16,trivial,yV Z (Ky Z (Ky Z (Ky Z (Ky Z (Ky Z (Ky (congrArg (hS false 0 u16 1) (by simp:s14.1.length=(s14.1.set s6.2.toNat (KA .i64 (J s14.1 s6.2) (yx .i64 (1:Int) s14.2))).length)) (Ky Z (Ky Z Kw))))))))⟩
   refine jG ?_
   cases h
   exact ⟨u16,trivial,kw Z Z⟩
  refine jM (lX h fun h=>?_)
  cases h
  exact ⟨u16,trivial,kw Z Z⟩
 refine jM (lX h fun h=>?_)
 cases h
 exact ⟨u8,trivial,kw Z Z⟩
theorem xE (p:List (List KE)) (x:KG) (name:ByteArray) {q} (h:eF p x name=some q):ax Tryz.prog 167 [eL (cL KE.c) p,.agg (KG.c x),St name] (eL cI q):=by
 refine pM Tryz.func167 Z (by kernel_rfl) Z (jI (oN (Kz.bxF [eL (cL KE.c) p] Z Z Z) (oN (Kz.bxF [eL cI x.From,eL (cL cI) x.Order] Z Z Z) (oN (Kz.bxF [St name] Z Z Z) (oN as' (jA (jI (oN (lf (eL (cL KE.c) p) Jk Z) (oC h (fun _=>j6 _) Z Z Z Z fun v1 _ h=>oA (EvA.al Kt Z Z) (oV (sr [eL KH.c v1] Ht Z Z Z Z) (TO.cut (e0:=ak [(7,.fp ((cL KH.c) v1) 0),(5,.fp (cS name) 0),(4,.fp (KG.c x) 0),(3,.fp ((cL (cL KE.c)) p) 0)]) (H0:=[]) (rU Z .nil (ah (.fz (Fz.fpL (ver:=0) (s:=1) (ty:=77) (rows:=[[eL KH.c v1]]) Z Z Z (.cons (qC Z) .nil))) (ah (.fz (qC Z)) (ah (.fz (qC Z)) (ah (.fz (qC Z)) bq))))) (jA (jI (oN (lf (eL KH.c v1) Ht Z) ?_))))))))))))));refine oN (Kz.lenL mR Z) (oN (Kz.mkfn [.fp ((cL (cL KE.c)) p) 0,.fp (KG.c x) 0,.fp ((cL KH.c) v1) 0,.fp (cS name) 0] Z Z) (oC h (fun _=>ll _ _ _ _ _) Z Z Z Z fun v2 _ h=>oN as' (jA (jK ?_))))
 cases h
 exact aD Z Z Z
theorem ry (x:Int) (a1:LI) {q} (h:kF x a1=some q):ax Tryz.prog 178 [I x,.fp ((cL cI) a1) 0] (Bo q):=by
 refine pM Tryz.func178 Z (by kernel_rfl) Z (jI (oN as' (jA (jI (oN mv (oN (Kz.ilt Z Z) (oN mv ?_)))))));refine TO.jB h 6 (fun s1=>[(12,Bo s1)]) (fun s1=>[]) (fun s1 q2 h js1=>?_) (fun s1 q2 h js1=>?_) (fun s1 h=>?_)
 ·refine gS Z q2 (gS Z q2 (gS Z q2 (gS Z q2 (gS Z q2 (oN (Kz.pickT Z q2 (Bo true) Z) ?_)))))
  cases h
  exact js1 _ _ (kw Z Z)
 ·refine gN Z q2 mv (gN Z q2 (lf (eL cI a1) nu Z) (gN Z q2 (Kz.lenL aK Z) (jD h fun g3 h=>gN Z q2 (Kz.shr Z Z g3) (gN Z q2 (Kz.igt Z Z) (oN (Kz.pickF Z q2 (Bo (decide (U<(gz .i64 x (a1.length:Int))))) Z) ?_)))))
  cases h
  exact js1 _ _ (kw Z Z)
 refine oN as' (jA (jK ?_))
 cases h
 exact aD Z Z Z
theorem eD (s:LI) (f0:LI) {q} (h:aS s f0=some q):ax Tryz.prog 132 [eL cI s,.fn (.func 178) [.fp ((cL cI) f0) 0]] (I q):=by
 refine pM Tryz.func132 Z (by kernel_rfl) Z (jI (oN as' (jA ?_)));obtain ⟨Ks1,es1,ws1,h,ks1⟩:=mX h;refine T.join (S:=Unit) (G:=Unit) (fun s1=>Ks1 s1=some q) (fun s1 gh=>True) (fun s1 gh=>[]) (fun s1 gh=>[]) (fun s1 gh h hg=>?_) ?_
 ·clear ks1;subst es1;refine jI (oN as' (jA (jK ?_)))
  cases h
  exact aD Z Z Z
 refine jI (oN mv (oN (Kz.lenL aK Z) (oN mv (jA (jE ?_)))));refine T.lU h (fun s4=>[(8,I s4),(7,I (s.length:Int)),(0,eL cI s),(1,.fn (.func 178) [.fp ((cL cI) f0) 0])]) (fun s4=>[]) (kw Z Z) (fun s4 ws4 h=>?_);refine jI (oN (Kz.ilt Z Z) (jA (jH ?_)));refine jN Z h (fun q6 h=>?_) (fun q6 h=>?_)
 ·refine jG (jH (jE (jI (oN mv (oN as' (jA (jI (oN mv (oN mv (oN mv (jD h fun g7 h=>oN (Kz.ixL aK Z Z g7 qD) (oN (lf (I (J s s4)) KN Z) (oC h (fun _=>ry _ _) Z Z Z Z fun v8 _ h=>jA ?_)))))))))))));refine jN Z h (fun q9 h=>?_) (fun q9 h=>?_)
  ·refine jI (oN mv (oN as' (jA (jK (lX h fun h=>?_)))));obtain rfl:=KD h;replace h:=congrArg some (show _=_ from ks1)
   cases h
   exact aD Z Z Z
  refine jG (jC (jW h fun g10 h=>oN (Kz.add Z Z g10) (oN mv (jA ?_))));exact lE h (kw Z Z)
 refine jM (lX h fun h=>?_)
 cases h
 exact ⟨(),(),ks1,trivial,kw Z Z⟩
theorem dB (s:LI) (f0:LI) {q} (h:aL s f0=some q):ax Tryz.prog 82 [eL cI s,.fn (.func 178) [.fp ((cL cI) f0) 0]] (Bo q):=by
 refine pM Tryz.func82 Z (by kernel_rfl) Z (jI (oN as' (jA (jI (oN mv (oN mv (oC h (fun _=>eD _ _) Z Z Z Z fun v1 _ h=>oN (Kz.ige Z Z) (oN as' (jA (jK ?_))))))))))
 cases h
 exact aD Z Z Z
theorem bJ (r_:LI) {q} (h:aZ r_=some q):ax Tryz.prog 121 [eL cI r_] (Bo q):=by
 refine pM Tryz.func121 Z (by kernel_rfl) Z (jI (oN (Kz.bxF [eL cI r_] Z Z Z) (oN as' (jA (jI (oN (lf (eL cI r_) nu Z) (oN (Kz.lenL aK Z) (oN (Kz.ile Z Z) (oN mv ?_)))))))));refine TO.jB h 5 (fun s1=>[(11,Bo s1)]) (fun s1=>[]) (fun s1 q2 h js1=>?_) (fun s1 q2 h js1=>?_) (fun s1 h=>?_)
 ·refine gN Z q2 (lf (eL cI r_) nu Z) (gN Z q2 (Kz.mkfn [.fp ((cL cI) r_) 0] Z Z) (jB h fun v3 cv3 h=>gN Z q2 (Kz.call Z Z Z (dB r_ r_ cv3) Z) (gN Z q2 (Kz.not Z) (oN (Kz.pickT Z q2 (Bo (!v3)) Z) ?_))))
  cases h
  exact js1 _ _ (kw Z Z)
 ·refine gS Z q2 (gS Z q2 (gS Z q2 (gS Z q2 (oN (Kz.pickF Z q2 (Bo false) Z) ?_))))
  cases h
  exact js1 _ _ (kw Z Z)
 refine oN as' (jA (jK ?_))
 cases h
 exact aD Z Z Z
theorem cZ (r_:LI) (i:Int) (k_:Int) {q} (h:bN r_ i k_=some q):ax Tryz.prog 179 [eL cI r_,I i,I k_] (Bo q):=by
 refine pM Tryz.func179 Z (by kernel_rfl) Z (jI (oN as' (jA (jI (oN mv (oN mv (jD h fun g1 h=>oN (Kz.ixL aK Z Z g1 qD) (oN (lf (I (J r_ i)) KN Z) (oN mv (jD h fun g2 h=>oN (Kz.shr Z Z g2) (oN (Kz.band Z Z) (oN (Kz.ieq Z Z) (oN as' ?_)))))))))))));refine jA (jK ?_)
 cases h
 exact aD Z Z Z
theorem qg (i:Int) (k_:Int) (a2:LI) {q} (h:iU i k_ a2=some q):ax Tryz.prog 198 [I i,I k_,.fp ((cL cI) a2) 0] (Bo q):=by
 refine pM Tryz.func198 Z (by kernel_rfl) Z (jI (oN as' (jA (jI (oN (lf (eL cI a2) nu Z) (oN mv (oN mv (oC h (fun _=>cZ _ _ _) Z Z Z Z fun v1 _ h=>oN as' (jA (jK ?_))))))))))
 cases h
 exact aD Z Z Z
theorem iY (n:Int) (is0:LI) {q} (h:di n is0=some q):ax Tryz.prog 195 [I n,.fn (.func 198) [.fp ((cL cI) is0) 0]] (eL cI q):=by
 refine pM Tryz.func195 Z (by kernel_rfl) Z (jI (oN as' (jA (jI (oN mv (jD h fun g1 h=>oA (EvA.mkN (c:=cI) (default:Int) aK Z Z g1 Z Z Z) (oN (Kz.asg (hS false 0 0 1 ((Qb n.toNat (default:Int)).length)) Z) (jA ?_))))))));refine T.jF (G:=Nat) h (fun s2 gh=>True) (fun s2 gh=>[(5,hS false 0 gh 1 s2.length)]) (fun s2 gh=>[bE false gh 1 3 (s2.map cI)]) (fun s2 u27 h hg=>?_) (fun s2 h=>?_)
 ·refine jI (oN mv (oN (Kz.asg (hS false 0 u27 1 s2.length) Z) (jA (jK ?_))));obtain rfl:=KD h
  repeat (first|refine jd ?_|refine je ?_)
  exact jQ (vs:=[hS false 0 u27 1 s2.length]) (.cons (.tmp Z) .nil) (Fz.own (g:=false) (ver:=u27) (l:=s2) Z Z Z nofun qD)
 refine jI (oN mv (oN mv (jA (jE ?_))));refine jO (S:=(LI)×Int) (G:=Nat) (bZ n is0) (fun s6 gh=>True) (fun s6 gh=>[(11,I s6.2),(10,I n),(5,hS false 0 gh 1 s6.1.length),(0,I n),(1,.fn (.func 198) [.fp ((cL cI) is0) 0])]) (fun s6 gh=>[bE false gh 1 3 (s6.1.map cI)]) (s0:=((Qb n.toNat (default:Int)),U)) 0 h trivial (kw Z Z) (fun s6 u8 ws6 h hg=>?_);refine jI (oN (Kz.ilt Z Z) (jA (jH ?_)));refine jN Z h (fun q9 h=>?_) (fun q9 h=>?_)
 ·refine jG ?_;refine T.jF (G:=Nat) h (fun s10 gh=>True) (fun s10 gh=>[(11,I s6.2),(10,I n),(5,hS false 0 gh 1 s10.length),(0,I n),(1,.fn (.func 198) [.fp ((cL cI) is0) 0])]) (fun s10 gh=>[bE false gh 1 3 (s10.map cI)]) (fun s10 u25 h hg=>?_) (fun s10 h=>?_)
  ·refine jC (jW h fun g26 h=>oN (Kz.add Z Z g26) (oN mv (jA ?_)));obtain rfl:=KD h;exact ⟨(s10,(s6.2+V)),u25,Z,trivial,kw Z Z⟩
  refine jE (jI (oN mv (oN as' (jA (jI (oN mv (oN mv (jA (jE ?_)))))))));refine jO (S:=(LI)×Int) (G:=Nat) (bW n is0 s6) (fun s14 gh=>True) (fun s14 gh=>[(15,I s14.2),(14,I n),(6,I s6.2),(11,I s6.2),(10,I n),(5,hS false 0 gh 1 s14.1.length),(0,I n),(1,.fn (.func 198) [.fp ((cL cI) is0) 0])]) (fun s14 gh=>[bE false gh 1 3 (s14.1.map cI)]) (s0:=(s6.1,U)) u8 h trivial (kw Z Z) (fun s14 u16 ws14 h hg=>?_);refine jI (oN (Kz.ilt Z Z) (jA (jH ?_)));refine jN Z h (fun q17 h=>?_) (fun q17 h=>?_)
  ·refine jG ?_;refine T.jF (G:=Nat) h (fun s18 gh=>True) (fun s18 gh=>[(15,I s14.2),(14,I n),(6,I s6.2),(11,I s6.2),(10,I n),(5,hS false 0 gh 1 s18.length),(0,I n),(1,.fn (.func 198) [.fp ((cL cI) is0) 0])]) (fun s18 gh=>[bE false gh 1 3 (s18.map cI)]) (fun s18 u23 h hg=>?_) (fun s18 h=>?_)
   ·refine jC (jW h fun g24 h=>oN (Kz.add Z Z g24) (oN mv (jA ?_)));obtain rfl:=KD h;exact ⟨(s18,(s14.2+V)),u23,Z,trivial,kw Z Z⟩
   refine jE (jI (oN mv (oN as' (jA (jI (oN mv (oN mv (oN mv (oC h (fun _=>qg _ _ _) Z Z Z Z fun v19 _ h=>jA ?_)))))))));refine jN Z h (fun q20 h=>?_) (fun q20 h=>?_)
   ·refine jP (dG [dF,dF,dF,([0],false),dF,dF,dF,dF,([0],true)]) (by kernel_rfl) (by kernel_rfl) (fN Z mv (fN Z mv (jD h fun g21 h=>fN Z (Kz.ixO (g:=false) aK Z Z nofun g21) (fR [0] Z (fun G hG=>EvA.ldO (g:=false) (l:=s14.1) (I (J s14.1 s6.2)) KN Z (hG.a0 Z) nofun (aI Z g21) Z) (fN Z mv (jD h fun g22 h=>fN Z (Kz.shl Z Z g22) (fN Z (Kz.bor Z Z) (fN Z (Kz.ixO (g:=false) aK Z Z nofun g21) (fV 0 [] Z Z (fun G hG=>EvA.stO (g:=false) (l:=s14.1) (cs:=[I (KA .i64 (J s14.1 s6.2) (yx .i64 V s14.2))]) (KA .i64 (J s14.1 s6.2) (yx .i64 V s14.2)) KN Z Z (hG.a0 Z) nofun (aI Z g21) Z Z Z) (jR ?_))))))))));obtain rfl:=KD h;exact ⟨u16,trivial,yV Z (Ky Z (Ky Z (Ky Z (Ky Z (Ky Z (Ky (congrArg (hS false 0 u16 1) (by simp:s14.1.length=(s14.1.set s6.2.toNat (KA .i64 (J s14.1 s6.2) (yx .i64 (1:Int) s14.2))).length)) (Ky Z (Ky Z Kw))))))))⟩
   refine jG ?_
   cases h
   exact ⟨u16,trivial,kw Z Z⟩
  refine jM (lX h fun h=>?_)
  cases h
  exact ⟨u16,trivial,kw Z Z⟩
 refine jM (lX h fun h=>?_)
 cases h
 exact ⟨u8,trivial,kw Z Z⟩
theorem rz (r_:LI) {q} (h:gM r_=some q):ax Tryz.prog 168 [eL cI r_] (eL cI q):=by
 refine pM Tryz.func168 Z (by kernel_rfl) Z (jI (oN (Kz.bxF [eL cI r_] Z Z Z) (oN as' (jA (jH (jI (oN (lf (eL cI r_) nu Z) (oC h (fun _=>bJ _) Z Z Z Z fun v1 _ h=>oN (Kz.not Z) (jA ?_)))))))));refine jN Z h (fun q2 h=>?_) (fun q2 h=>?_)
 ·refine jI (oN as' (jA (jK ?_)));obtain rfl:=KD h
  repeat (first|refine jd ?_|refine je ?_)
  exact jQ (vs:=[.nil]) (.cons (.tmp Z) .nil) .nil0
 refine jG (jI (oN (lf (eL cI r_) nu Z) (oN (Kz.lenL aK Z) (oN (Kz.mkfn [.fp ((cL cI) r_) 0] Z Z) (oC h (fun _=>iY _ _) Z Z Z Z fun v3 _ h=>oN as' (jA (jK ?_)))))))
 cases h
 exact aD Z Z Z
theorem mP (r_:LI) {q} (h:eu r_=some q):ax Tryz.prog 169 [eL cI r_] (eL cI q):=by
 refine pM Tryz.func169 Z (by kernel_rfl) Z (jI (oN as' (jA (jH (jI (oN mv (oC h (fun _=>bJ _) Z Z Z Z fun v1 _ h=>oN (Kz.not Z) (jA ?_))))))));refine jN Z h (fun q2 h=>?_) (fun q2 h=>?_)
 ·refine jI (oN as' (jA (jK ?_)));obtain rfl:=KD h
  repeat (first|refine jd ?_|refine je ?_)
  exact jQ (vs:=[.nil]) (.cons (.tmp Z) .nil) .nil0
 refine jG (jI (oN mv (jB h fun v3 cv3 h=>?_)));refine oG Z Z Z ((dN r_ cv3).own Z (wH qD) Bd 0 Z) (fun g4 v5 n6=>?_);refine oN (Kz.asg (hS g4 0 v5 1 v3.length) Z) (jA ?_);refine T.jF (G:=(Bool×Nat)) h (fun s7 gh=>(gh.1=true->s7=[])) (fun s7 gh=>[(3,hS gh.1 0 gh.2 1 s7.length)]) (fun s7 gh=>[bE gh.1 gh.2 1 3 (s7.map cI)]) (fun s7 gh h n49=>?_) (fun s7 h=>?_)
 ·obtain ⟨b48,u47⟩:=gh;refine jI (oN mv (oN (Kz.asg (hS b48 0 u47 1 s7.length) Z) (jA (jK ?_))));obtain rfl:=KD h
  repeat (first|refine jd ?_|refine je ?_)
  exact jQ (vs:=[hS b48 0 u47 1 s7.length]) (.cons (.tmp Z) .nil) (Fz.own (g:=b48) (ver:=u47) (l:=s7) Z Z Z n49 qD)
 refine jI (oN mv (oN (Kz.lenO (g:=g4) aK Z (CQ (fun x=>Qc (n6 x)) Z)) (oN mv (jA (jE ?_)))));refine jO (S:=(LI)×Int) (G:=(Bool×Nat)) (gp v3) (fun s16 gh=>(gh.1=true->s16.1=[])) (fun s16 gh=>[(13,I s16.2),(12,I (v3.length:Int)),(3,hS gh.1 0 gh.2 1 s16.1.length)]) (fun s16 gh=>[bE gh.1 gh.2 1 3 (s16.1.map cI)]) (s0:=(v3,U)) (g4,v5) h (fun x=>Qc (n6 x)) (kw Z Z) (fun s16 gh ws16 h n20=>?_);obtain ⟨b19,u18⟩:=gh;refine jI (oN (Kz.ilt Z Z) (jA (jH ?_)));refine jN Z h (fun q21 h=>?_) (fun q21 h=>?_)
 ·refine jG ?_;refine T.jF (G:=(Bool×Nat)) h (fun s22 gh=>(gh.1=true->s22=[])) (fun s22 gh=>[(13,I s16.2),(12,I (v3.length:Int)),(3,hS gh.1 0 gh.2 1 s22.length)]) (fun s22 gh=>[bE gh.1 gh.2 1 3 (s22.map cI)]) (fun s22 gh h n45=>?_) (fun s22 h=>?_)
  ·obtain ⟨b44,u43⟩:=gh;refine jC (jW h fun g46 h=>oN (Kz.add Z Z g46) (oN mv (jA ?_)));obtain rfl:=KD h;exact ⟨(s22,(s16.2+V)),(b44,u43),Z,n45,kw Z Z⟩
  refine jE (jI (oN mv (oN as' (jA (jI (oN mv (oN (Kz.lenO (g:=b19) aK Z (CQ n20 Z)) (oN mv (jA (jE ?_))))))))));refine jO (S:=(LI)×Int) (G:=(Bool×Nat)) (dm s16) (fun s28 gh=>(gh.1=true->s28.1=[])) (fun s28 gh=>[(18,I s28.2),(17,I (s16.1.length:Int)),(4,I s16.2),(13,I s16.2),(12,I (v3.length:Int)),(3,hS gh.1 0 gh.2 1 s28.1.length)]) (fun s28 gh=>[bE gh.1 gh.2 1 3 (s28.1.map cI)]) (s0:=(s16.1,U)) (b19,u18) h n20 (kw Z Z) (fun s28 gh ws28 h n32=>?_);obtain ⟨b31,u30⟩:=gh;refine jI (oN (Kz.ilt Z Z) (jA (jH ?_)));refine jN Z h (fun q33 h=>?_) (fun q33 h=>?_)
  ·refine jG ?_;refine T.jF (G:=(Bool×Nat)) h (fun s34 gh=>(gh.1=true->s34=[])) (fun s34 gh=>[(18,I s28.2),(17,I (s16.1.length:Int)),(4,I s16.2),(13,I s16.2),(12,I (v3.length:Int)),(3,hS gh.1 0 gh.2 1 s34.length)]) (fun s34 gh=>[bE gh.1 gh.2 1 3 (s34.map cI)]) (fun s34 gh h n41=>?_) (fun s34 h=>?_)
   ·obtain ⟨b40,u39⟩:=gh;refine jC (jW h fun g42 h=>oN (Kz.add Z Z g42) (oN mv (jA ?_)));obtain rfl:=KD h;exact ⟨(s34,(s28.2+V)),(b40,u39),Z,n41,kw Z Z⟩
   refine jE (jI (oN mv (oN as' (jA (jI (oN mv (oN mv (oN mv (jB h fun v35 cv35 h=>oA (EvA.callT Z Z (cZ s28.1 s28.2 s16.2 cv35) (.cons (Fz.own (g:=b31) (ver:=u30) (l:=s28.1) Z Z Z n32 qD) (.cons (qC Z) (.cons (qC Z) .nil))) Z) (jA ?_))))))))));refine jN Z h (fun q36 h=>?_) (fun q36 h=>?_)
   ·refine T.drawH (dG [dF,dF,dF,([0],false),dF,dF,dF,([0],false),dF,dF,([0],true)]) (by kernel_rfl) (by kernel_rfl) (fN Z mv (fN Z mv (jD h fun g37 h=>?_)));obtain rfl:=Ip n32 rfl g37;refine fN Z (Kz.ixO (g:=false) aK Z Z nofun g37) (fR [0] Z (fun G hG=>EvA.ldO (g:=false) (l:=s28.1) (I (J s28.1 s28.2)) KN Z (hG.a0 Z) nofun (aI Z g37) Z) (fN Z mv (fN Z mv (jD h fun g38 h=>fN Z (Kz.ixO (g:=false) aK Z Z nofun g38) (fR [0] Z (fun G hG=>EvA.ldO (g:=false) (l:=s28.1) (I (J s28.1 s16.2)) KN Z (hG.a0 Z) nofun (aI Z g38) Z) (fN Z (Kz.bor Z Z) (fN Z (Kz.ixO (g:=false) aK Z Z nofun g37) (fV 0 [] Z Z (fun G hG=>EvA.stO (g:=false) (l:=s28.1) (cs:=[I (KA .i64 (J s28.1 s28.2) (J s28.1 s16.2))]) (KA .i64 (J s28.1 s28.2) (J s28.1 s16.2)) KN Z Z (hG.a0 Z) nofun (aI Z g37) Z Z Z) (jR ?_)))))))));obtain rfl:=KD h;exact ⟨(false,u30),nofun,yV Z (Ky Z (Ky Z (Ky Z (Ky Z (Ky Z (Ky (congrArg (hS false 0 u30 1) (by simp:s28.1.length=(s28.1.set s28.2.toNat (KA .i64 (J s28.1 s28.2) (J s28.1 s16.2))).length)) Kw))))))⟩
   refine jG ?_
   cases h
   exact ⟨(b31,u30),n32,kw Z Z⟩
  refine jM (lX h fun h=>?_)
  cases h
  exact ⟨(b31,u30),n32,kw Z Z⟩
 refine jM (lX h fun h=>?_)
 cases h
 exact ⟨(b19,u18),n20,kw Z Z⟩
theorem iJ (a:LI) (b:LI) {q} (h:cf a b=some q):ax Tryz.prog 203 [eL cI a,eL cI b] (Bo q):=by
 refine pM Tryz.func203 Z (by kernel_rfl) Z (jI (oN as' (jA (jI (oN mv (oN (Kz.lenL aK Z) (oN mv (oN (Kz.lenL aK Z) (oN (Kz.ieq Z Z) (oN mv ?_))))))))));refine TO.jB h 3 (fun s1=>[(13,Bo s1),(1,eL cI b)]) (fun s1=>[]) (fun s1 q2 h js1=>?_) (fun s1 q2 h js1=>?_) (fun s1 h=>?_)
 ·refine gN Z q2 mv (jB h fun v3 cv3 h=>gN Z q2 (Kz.call Z Z Z (bJ a cv3) Z) (oN (Kz.pickT Z q2 (Bo v3) Z) ?_))
  cases h
  exact js1 _ _ (kw Z Z)
 ·refine gS Z q2 (gS Z q2 (oN (Kz.pickF Z q2 (Bo false) Z) ?_))
  cases h
  exact js1 _ _ (kw Z Z)
 refine oN mv ?_;refine TO.jB h 3 (fun s4=>[(17,Bo s4)]) (fun s4=>[]) (fun s4 q5 h js4=>?_) (fun s4 q5 h js4=>?_) (fun s4 h=>?_)
 ·refine gN Z q5 mv (jB h fun v6 cv6 h=>gN Z q5 (Kz.call Z Z Z (bJ b cv6) Z) (oN (Kz.pickT Z q5 (Bo v6) Z) ?_))
  cases h
  exact js4 _ _ (kw Z Z)
 ·refine gS Z q5 (gS Z q5 (oN (Kz.pickF Z q5 (Bo false) Z) ?_))
  cases h
  exact js4 _ _ (kw Z Z)
 refine oN as' (jA (jK ?_))
 cases h
 exact aD Z Z Z
theorem rA (x:Int) (y:Int) {q} (h:kG x y=some q):ax Tryz.prog 200 [I x,I y] (I q):=by
 refine pM Tryz.func200 Z (by kernel_rfl) Z (jI (oN as' (jA (jI (oN mv (oN mv (oN (Kz.bor Z Z) (oN as' (jA (jK ?_))))))))))
 cases h
 exact aD Z Z Z
theorem jb (a:LI) (b:LI) {q} (h:dQ a b=some q):ax Tryz.prog 199 [eL cI a,eL cI b,.fn (.func 200) []] (eL cI q):=by
 refine pM Tryz.func199 Z (by kernel_rfl) Z (jI (oN as' (jA (jH (jI (oN mv (oN mv (oC h (fun _=>iJ _ _) Z Z Z Z fun v1 _ h=>oN (Kz.not Z) (jA ?_)))))))));refine jN Z h (fun q2 h=>?_) (fun q2 h=>?_)
 ·refine jI (oN as' (jA (jK ?_)));obtain rfl:=KD h
  repeat (first|refine jd ?_|refine je ?_)
  exact jQ (vs:=[.nil]) (.cons (.tmp Z) .nil) .nil0
 refine jG (jI (oN mv (oN (Kz.lenL aK Z) (jD h fun g3 h=>oA (EvA.mkN (c:=cI) (default:Int) aK Z Z g3 Z Z Z) (oN (Kz.asg (hS false 0 0 1 ((Qb (a.length:Int).toNat (default:Int)).length)) Z) (jA ?_))))));refine T.jF (G:=Nat) h (fun s4 gh=>True) (fun s4 gh=>[(7,hS false 0 gh 1 s4.length)]) (fun s4 gh=>[bE false gh 1 3 (s4.map cI)]) (fun s4 u17 h hg=>?_) (fun s4 h=>?_)
 ·refine jI (oN mv (oN (Kz.asg (hS false 0 u17 1 s4.length) Z) (jA (jK ?_))));obtain rfl:=KD h
  repeat (first|refine jd ?_|refine je ?_)
  exact jQ (vs:=[hS false 0 u17 1 s4.length]) (.cons (.tmp Z) .nil) (Fz.own (g:=false) (ver:=u17) (l:=s4) Z Z Z nofun qD)
 refine jI (oN mv (oN (Kz.lenL aK Z) (oN mv (jA (jE ?_)))));refine jO (S:=(LI)×Int) (G:=Nat) (cE a b) (fun s8 gh=>True) (fun s8 gh=>[(18,I s8.2),(17,I (a.length:Int)),(7,hS false 0 gh 1 s8.1.length),(0,eL cI a),(1,eL cI b),(2,.fn (.func 200) [])]) (fun s8 gh=>[bE false gh 1 3 (s8.1.map cI)]) (s0:=((Qb (a.length:Int).toNat (default:Int)),U)) 0 h trivial (kw Z Z) (fun s8 u10 ws8 h hg=>?_);refine jI (oN (Kz.ilt Z Z) (jA (jH ?_)));refine jN Z h (fun q11 h=>?_) (fun q11 h=>?_)
 ·refine jG (jH (jE (jI (oN mv (oN as' (jA (jP (dG [dF,dF,dF,dF,dF,dF,dF,dF,dF,dF,dF,dF,dF,([0],true)]) (by kernel_rfl) (by kernel_rfl) (fN Z mv (fN Z mv (fN Z mv (fN Z mv (fN Z mv (jD h fun g12 h=>fN Z (Kz.ixL aK Z Z g12 qD) (fN Z (lf (I (J a s8.2)) KN Z) ?_))))))))))))));refine fN Z mv (fN Z mv (jD h fun g13 h=>fN Z (Kz.ixL aK Z Z g13 qD) (fN Z (lf (I (J b s8.2)) KN Z) (fC h (fun _=>rA _ _) Z Z Z Z Z fun v14 _ h=>jD h fun g15 h=>fN Z (Kz.ixO (g:=false) aK Z Z nofun g15) (fV 0 [] Z Z (fun G hG=>EvA.stO (g:=false) (l:=s8.1) (cs:=[I v14]) v14 KN Z Z (hG.a0 Z) nofun (aI Z g15) Z Z Z) (jR (T.clean (H0:=[bE false u10 1 3 ((s8.1.set s8.2.toNat v14).map cI)]) (e0:=ak [(18,I s8.2),(17,I (a.length:Int)),(7,hS false 0 u10 1 s8.1.length),(0,eL cI a),(1,eL cI b),(2,.fn (.func 200) [])]) Z (Ky Z (Ky Z (Ky Z (Ky Z (Ky Z (Ky Z Kw)))))) (jC (jW h fun g16 h=>oN (Kz.add Z Z g16) (oN mv (jA ?_)))))))))));obtain rfl:=KD h;exact ⟨((s8.1.set s8.2.toNat v14),(s8.2+(1:Int))),u10,Z,trivial,yV Z (Ky Z (Ky Z (Ky (congrArg (hS false 0 u10 1) (by simp:s8.1.length=(s8.1.set s8.2.toNat v14).length)) (Ky Z (Ky Z (Ky Z Kw))))))⟩
 refine jM (lX h fun h=>?_)
 cases h
 exact ⟨u10,trivial,kw Z Z⟩
theorem uq (a:LI) (b:LI) {q} (h:jw a b=some q):ax Tryz.prog 170 [eL cI a,eL cI b] (eL cI q):=by
 refine pM Tryz.func170 Z (by kernel_rfl) Z (jI (oN as' (jA (jI (oN mv (oN mv (oC h (fun _=>jb _ _) Z Z Z Z fun v1 _ h=>oN as' (jA (jK ?_)))))))))
 cases h
 exact aD Z Z Z
theorem sI (x:Int) (y:Int) {q} (h:lI x y=some q):ax Tryz.prog 201 [I x,I y] (I q):=by
 refine pM Tryz.func201 Z (by kernel_rfl) Z (jI (oN as' (jA (jI (oN mv (oN mv (oN (Kz.band Z Z) (oN as' (jA (jK ?_))))))))))
 cases h
 exact aD Z Z Z
theorem ko (a:LI) (b:LI) {q} (h:ez a b=some q):ax Tryz.prog 199 [eL cI a,eL cI b,.fn (.func 201) []] (eL cI q):=by
 refine pM Tryz.func199 Z (by kernel_rfl) Z (jI (oN as' (jA (jH (jI (oN mv (oN mv (oC h (fun _=>iJ _ _) Z Z Z Z fun v1 _ h=>oN (Kz.not Z) (jA ?_)))))))));refine jN Z h (fun q2 h=>?_) (fun q2 h=>?_)
 ·refine jI (oN as' (jA (jK ?_)));obtain rfl:=KD h
  repeat (first|refine jd ?_|refine je ?_)
  exact jQ (vs:=[.nil]) (.cons (.tmp Z) .nil) .nil0
 refine jG (jI (oN mv (oN (Kz.lenL aK Z) (jD h fun g3 h=>oA (EvA.mkN (c:=cI) (default:Int) aK Z Z g3 Z Z Z) (oN (Kz.asg (hS false 0 0 1 ((Qb (a.length:Int).toNat (default:Int)).length)) Z) (jA ?_))))));refine T.jF (G:=Nat) h (fun s4 gh=>True) (fun s4 gh=>[(7,hS false 0 gh 1 s4.length)]) (fun s4 gh=>[bE false gh 1 3 (s4.map cI)]) (fun s4 u17 h hg=>?_) (fun s4 h=>?_)
 ·refine jI (oN mv (oN (Kz.asg (hS false 0 u17 1 s4.length) Z) (jA (jK ?_))));obtain rfl:=KD h
  repeat (first|refine jd ?_|refine je ?_)
  exact jQ (vs:=[hS false 0 u17 1 s4.length]) (.cons (.tmp Z) .nil) (Fz.own (g:=false) (ver:=u17) (l:=s4) Z Z Z nofun qD)
 refine jI (oN mv (oN (Kz.lenL aK Z) (oN mv (jA (jE ?_)))));refine jO (S:=(LI)×Int) (G:=Nat) (cJ a b) (fun s8 gh=>True) (fun s8 gh=>[(18,I s8.2),(17,I (a.length:Int)),(7,hS false 0 gh 1 s8.1.length),(0,eL cI a),(1,eL cI b),(2,.fn (.func 201) [])]) (fun s8 gh=>[bE false gh 1 3 (s8.1.map cI)]) (s0:=((Qb (a.length:Int).toNat (default:Int)),U)) 0 h trivial (kw Z Z) (fun s8 u10 ws8 h hg=>?_);refine jI (oN (Kz.ilt Z Z) (jA (jH ?_)));refine jN Z h (fun q11 h=>?_) (fun q11 h=>?_)
 ·refine jG (jH (jE (jI (oN mv (oN as' (jA (jP (dG [dF,dF,dF,dF,dF,dF,dF,dF,dF,dF,dF,dF,dF,([0],true)]) (by kernel_rfl) (by kernel_rfl) (fN Z mv (fN Z mv (fN Z mv (fN Z mv (fN Z mv (jD h fun g12 h=>fN Z (Kz.ixL aK Z Z g12 qD) (fN Z (lf (I (J a s8.2)) KN Z) ?_))))))))))))));refine fN Z mv (fN Z mv (jD h fun g13 h=>fN Z (Kz.ixL aK Z Z g13 qD) (fN Z (lf (I (J b s8.2)) KN Z) (fC h (fun _=>sI _ _) Z Z Z Z Z fun v14 _ h=>jD h fun g15 h=>fN Z (Kz.ixO (g:=false) aK Z Z nofun g15) (fV 0 [] Z Z (fun G hG=>EvA.stO (g:=false) (l:=s8.1) (cs:=[I v14]) v14 KN Z Z (hG.a0 Z) nofun (aI Z g15) Z Z Z) (jR (T.clean (H0:=[bE false u10 1 3 ((s8.1.set s8.2.toNat v14).map cI)]) (e0:=ak [(18,I s8.2),(17,I (a.length:Int)),(7,hS false 0 u10 1 s8.1.length),(0,eL cI a),(1,eL cI b),(2,.fn (.func 201) [])]) Z (Ky Z (Ky Z (Ky Z (Ky Z (Ky Z (Ky Z Kw)))))) (jC (jW h fun g16 h=>oN (Kz.add Z Z g16) (oN mv (jA ?_)))))))))));obtain rfl:=KD h;exact ⟨((s8.1.set s8.2.toNat v14),(s8.2+(1:Int))),u10,Z,trivial,yV Z (Ky Z (Ky Z (Ky (congrArg (hS false 0 u10 1) (by simp:s8.1.length=(s8.1.set s8.2.toNat v14).length)) (Ky Z (Ky Z (Ky Z Kw))))))⟩
 refine jM (lX h fun h=>?_)
 cases h
 exact ⟨u10,trivial,kw Z Z⟩
theorem vA (a:LI) (b:LI) {q} (h:kY a b=some q):ax Tryz.prog 171 [eL cI a,eL cI b] (eL cI q):=by
 refine pM Tryz.func171 Z (by kernel_rfl) Z (jI (oN as' (jA (jI (oN mv (oN mv (oC h (fun _=>ko _ _) Z Z Z Z fun v1 _ h=>oN as' (jA (jK ?_)))))))))
 cases h
 exact aD Z Z Z
theorem rB (x:Int) (y:Int) {q} (h:kH x y=some q):ax Tryz.prog 202 [I x,I y] (I q):=by
 refine pM Tryz.func202 Z (by kernel_rfl) Z (jI (oN as' (jA (jI (oN mv (oN mv (oN (Kz.bandNot Z Z) (oN as' (jA (jK ?_))))))))))
 cases h
 exact aD Z Z Z
theorem jc (a:LI) (b:LI) {q} (h:dR a b=some q):ax Tryz.prog 199 [eL cI a,eL cI b,.fn (.func 202) []] (eL cI q):=by
 refine pM Tryz.func199 Z (by kernel_rfl) Z (jI (oN as' (jA (jH (jI (oN mv (oN mv (oC h (fun _=>iJ _ _) Z Z Z Z fun v1 _ h=>oN (Kz.not Z) (jA ?_)))))))));refine jN Z h (fun q2 h=>?_) (fun q2 h=>?_)
 ·refine jI (oN as' (jA (jK ?_)));obtain rfl:=KD h
  repeat (first|refine jd ?_|refine je ?_)
  exact jQ (vs:=[.nil]) (.cons (.tmp Z) .nil) .nil0
 refine jG (jI (oN mv (oN (Kz.lenL aK Z) (jD h fun g3 h=>oA (EvA.mkN (c:=cI) (default:Int) aK Z Z g3 Z Z Z) (oN (Kz.asg (hS false 0 0 1 ((Qb (a.length:Int).toNat (default:Int)).length)) Z) (jA ?_))))));refine T.jF (G:=Nat) h (fun s4 gh=>True) (fun s4 gh=>[(7,hS false 0 gh 1 s4.length)]) (fun s4 gh=>[bE false gh 1 3 (s4.map cI)]) (fun s4 u17 h hg=>?_) (fun s4 h=>?_)
 ·refine jI (oN mv (oN (Kz.asg (hS false 0 u17 1 s4.length) Z) (jA (jK ?_))));obtain rfl:=KD h
  repeat (first|refine jd ?_|refine je ?_)
  exact jQ (vs:=[hS false 0 u17 1 s4.length]) (.cons (.tmp Z) .nil) (Fz.own (g:=false) (ver:=u17) (l:=s4) Z Z Z nofun qD)
 refine jI (oN mv (oN (Kz.lenL aK Z) (oN mv (jA (jE ?_)))));refine jO (S:=(LI)×Int) (G:=Nat) (cF a b) (fun s8 gh=>True) (fun s8 gh=>[(18,I s8.2),(17,I (a.length:Int)),(7,hS false 0 gh 1 s8.1.length),(0,eL cI a),(1,eL cI b),(2,.fn (.func 202) [])]) (fun s8 gh=>[bE false gh 1 3 (s8.1.map cI)]) (s0:=((Qb (a.length:Int).toNat (default:Int)),U)) 0 h trivial (kw Z Z) (fun s8 u10 ws8 h hg=>?_);refine jI (oN (Kz.ilt Z Z) (jA (jH ?_)));refine jN Z h (fun q11 h=>?_) (fun q11 h=>?_)
 ·refine jG (jH (jE (jI (oN mv (oN as' (jA (jP (dG [dF,dF,dF,dF,dF,dF,dF,dF,dF,dF,dF,dF,dF,([0],true)]) (by kernel_rfl) (by kernel_rfl) (fN Z mv (fN Z mv (fN Z mv (fN Z mv (fN Z mv (jD h fun g12 h=>fN Z (Kz.ixL aK Z Z g12 qD) (fN Z (lf (I (J a s8.2)) KN Z) ?_))))))))))))));refine fN Z mv (fN Z mv (jD h fun g13 h=>fN Z (Kz.ixL aK Z Z g13 qD) (fN Z (lf (I (J b s8.2)) KN Z) (fC h (fun _=>rB _ _) Z Z Z Z Z fun v14 _ h=>jD h fun g15 h=>fN Z (Kz.ixO (g:=false) aK Z Z nofun g15) (fV 0 [] Z Z (fun G hG=>EvA.stO (g:=false) (l:=s8.1) (cs:=[I v14]) v14 KN Z Z (hG.a0 Z) nofun (aI Z g15) Z Z Z) (jR (T.clean (H0:=[bE false u10 1 3 ((s8.1.set s8.2.toNat v14).map cI)]) (e0:=ak [(18,I s8.2),(17,I (a.length:Int)),(7,hS false 0 u10 1 s8.1.length),(0,eL cI a),(1,eL cI b),(2,.fn (.func 202) [])]) Z (Ky Z (Ky Z (Ky Z (Ky Z (Ky Z (Ky Z Kw)))))) (jC (jW h fun g16 h=>oN (Kz.add Z Z g16) (oN mv (jA ?_)))))))))));obtain rfl:=KD h;exact ⟨((s8.1.set s8.2.toNat v14),(s8.2+(1:Int))),u10,Z,trivial,yV Z (Ky Z (Ky Z (Ky (congrArg (hS false 0 u10 1) (by simp:s8.1.length=(s8.1.set s8.2.toNat v14).length)) (Ky Z (Ky Z (Ky Z Kw))))))⟩
 refine jM (lX h fun h=>?_)
 cases h
 exact ⟨u10,trivial,kw Z Z⟩
theorem ut (a:LI) (b:LI) {q} (h:jy a b=some q):ax Tryz.prog 172 [eL cI a,eL cI b] (eL cI q):=by
 refine pM Tryz.func172 Z (by kernel_rfl) Z (jI (oN as' (jA (jI (oN mv (oN mv (oC h (fun _=>jc _ _) Z Z Z Z fun v1 _ h=>oN as' (jA (jK ?_)))))))))
 cases h
 exact aD Z Z Z
theorem rC (a:LI) (b:LI) {q} (h:gP a b=some q):ax Tryz.prog 173 [eL cI a,eL cI b] (eL cI q):=by
 refine pM Tryz.func173 Z (by kernel_rfl) Z (jI (oN as' (jA (jH (jI (oN mv (oN mv (oC h (fun _=>iJ _ _) Z Z Z Z fun v1 _ h=>oN (Kz.not Z) (jA ?_)))))))));refine jN Z h (fun q2 h=>?_) (fun q2 h=>?_)
 ·refine jI (oN as' (jA (jK ?_)));obtain rfl:=KD h
  repeat (first|refine jd ?_|refine je ?_)
  exact jQ (vs:=[.nil]) (.cons (.tmp Z) .nil) .nil0
 refine jG (jI (oN mv (oN (Kz.lenL aK Z) (jD h fun g3 h=>oA (EvA.mkN (c:=cI) (default:Int) aK Z Z g3 Z Z Z) (oN (Kz.asg (hS false 0 0 1 ((Qb (a.length:Int).toNat (default:Int)).length)) Z) (jA ?_))))));refine T.jF (G:=Nat) h (fun s4 gh=>True) (fun s4 gh=>[(5,hS false 0 gh 1 s4.length)]) (fun s4 gh=>[bE false gh 1 3 (s4.map cI)]) (fun s4 u29 h hg=>?_) (fun s4 h=>?_)
 ·refine jI (oN mv (oN (Kz.asg (hS false 0 u29 1 s4.length) Z) (jA (jK ?_))));obtain rfl:=KD h
  repeat (first|refine jd ?_|refine je ?_)
  exact jQ (vs:=[hS false 0 u29 1 s4.length]) (.cons (.tmp Z) .nil) (Fz.own (g:=false) (ver:=u29) (l:=s4) Z Z Z nofun qD)
 refine jI (oN mv (oN (Kz.lenL aK Z) (oN mv (jA (jE ?_)))));refine jO (S:=(LI)×Int) (G:=Nat) (gX a b) (fun s8 gh=>True) (fun s8 gh=>[(17,I s8.2),(16,I (a.length:Int)),(5,hS false 0 gh 1 s8.1.length),(0,eL cI a),(1,eL cI b)]) (fun s8 gh=>[bE false gh 1 3 (s8.1.map cI)]) (s0:=((Qb (a.length:Int).toNat (default:Int)),U)) 0 h trivial (kw Z Z) (fun s8 u10 ws8 h hg=>?_);refine jI (oN (Kz.ilt Z Z) (jA (jH ?_)));refine jN Z h (fun q11 h=>?_) (fun q11 h=>?_)
 ·refine jG ?_;refine T.jF (G:=Nat) h (fun s12 gh=>True) (fun s12 gh=>[(17,I s8.2),(16,I (a.length:Int)),(5,hS false 0 gh 1 s12.length),(0,eL cI a),(1,eL cI b)]) (fun s12 gh=>[bE false gh 1 3 (s12.map cI)]) (fun s12 u27 h hg=>?_) (fun s12 h=>?_)
  ·refine jC (jW h fun g28 h=>oN (Kz.add Z Z g28) (oN mv (jA ?_)));obtain rfl:=KD h;exact ⟨(s12,(s8.2+V)),u27,Z,trivial,kw Z Z⟩
  refine jE (jI (oN mv (oN as' (jA (jI (oN mv (oN (Kz.lenL aK Z) (oN mv (jA (jE ?_))))))))));refine jO (S:=(LI)×Int) (G:=Nat) (gq a b s8) (fun s16 gh=>True) (fun s16 gh=>[(22,I s16.2),(21,I (b.length:Int)),(6,I s8.2),(17,I s8.2),(16,I (a.length:Int)),(5,hS false 0 gh 1 s16.1.length),(0,eL cI a),(1,eL cI b)]) (fun s16 gh=>[bE false gh 1 3 (s16.1.map cI)]) (s0:=(s8.1,U)) u10 h trivial (kw Z Z) (fun s16 u18 ws16 h hg=>?_);refine jI (oN (Kz.ilt Z Z) (jA (jH ?_)));refine jN Z h (fun q19 h=>?_) (fun q19 h=>?_)
  ·refine jG ?_;refine T.jF (G:=Nat) h (fun s20 gh=>True) (fun s20 gh=>[(22,I s16.2),(21,I (b.length:Int)),(6,I s8.2),(17,I s8.2),(16,I (a.length:Int)),(5,hS false 0 gh 1 s20.length),(0,eL cI a),(1,eL cI b)]) (fun s20 gh=>[bE false gh 1 3 (s20.map cI)]) (fun s20 u25 h hg=>?_) (fun s20 h=>?_)
   ·refine jC (jW h fun g26 h=>oN (Kz.add Z Z g26) (oN mv (jA ?_)));obtain rfl:=KD h;exact ⟨(s20,(s16.2+V)),u25,Z,trivial,kw Z Z⟩
   refine jE (jI (oN mv (oN as' (jA (jI (oN mv (oN mv (oN mv (oC h (fun _=>cZ _ _ _) Z Z Z Z fun v21 _ h=>jA ?_)))))))));refine jN Z h (fun q22 h=>?_) (fun q22 h=>?_)
   ·refine jP (dG [dF,dF,dF,([0],false),dF,dF,dF,dF,dF,dF,([0],true)]) (by kernel_rfl) (by kernel_rfl) (fN Z mv (fN Z mv (jD h fun g23 h=>fN Z (Kz.ixO (g:=false) aK Z Z nofun g23) (fR [0] Z (fun G hG=>EvA.ldO (g:=false) (l:=s16.1) (I (J s16.1 s8.2)) KN Z (hG.a0 Z) nofun (aI Z g23) Z) (fN Z mv (fN Z mv (jD h fun g24 h=>fN Z (Kz.ixL aK Z Z g24 qD) (fN Z (lf (I (J b s16.2)) KN Z) (fN Z (Kz.bor Z Z) (fN Z (Kz.ixO (g:=false) aK Z Z nofun g23) (fV 0 [] Z Z (fun G hG=>EvA.stO (g:=false) (l:=s16.1) (cs:=[I (KA .i64 (J s16.1 s8.2) (J b s16.2))]) (KA .i64 (J s16.1 s8.2) (J b s16.2)) KN Z Z (hG.a0 Z) nofun (aI Z g23) Z Z Z) (jR ?_))))))))))));obtain rfl:=KD h;exact ⟨u18,trivial,yV Z (Ky Z (Ky Z (Ky Z (Ky Z (Ky Z (Ky (congrArg (hS false 0 u18 1) (by simp:s16.1.length=(s16.1.set s8.2.toNat (KA .i64 (J s16.1 s8.2) (J b s16.2))).length)) (Ky Z (Ky Z Kw))))))))⟩
   refine jG ?_
   cases h
   exact ⟨u18,trivial,kw Z Z⟩
  refine jM (lX h fun h=>?_)
  cases h
  exact ⟨u18,trivial,kw Z Z⟩
 refine jM (lX h fun h=>?_)
 cases h
 exact ⟨u10,trivial,kw Z Z⟩
theorem uu:∀ (nf:Nat) (p:List (List KE)) (x:KG) (e_:aa) {q} (h:bD nf p x e_=some q),ax Tryz.prog 118 [eL (cL KE.c) p,.agg (KG.c x),.agg (aa.c e_)] (eL cI q):=by
 intro nf
 induction nf with
 | zero=>intros;rename_i h;cases h
 | succ nf ih=>
  intro p x e_ q h;replace h:bC (bD nf) p x e_=some q:=h;refine pM Tryz.func118 Z (by kernel_rfl) Z (jI (oN (Kz.bxF [eL cI x.From,eL (cL cI) x.Order] Z Z Z) (oN (Kz.bxF [I e_.Op,St e_.Name,eL TXimpl_RelExpr.c e_.Kids] Z Z Z) (oN as' (jA (jH (jI (oN (fa oU Z) (oN (lf (I e_.Op) KN Z) (oN (Kz.ieq Z Z) (jA ?_)))))))))));refine jN Z h (fun q1 h=>?_) (fun q1 h=>?_)
  ·refine jI (oN mv (oN (lf (.agg (KG.c x)) qX Z) (oN (fa oU Z) (oN (lf (St e_.Name) ty9 Z) (oC h (fun _=>xE _ _ _) Z Z Z Z fun v2 _ h=>oN as' (jA (jK ?_)))))))
   cases h
   exact aD Z Z Z
  refine jG (jH (jP (fun _=>([],false)) (by kernel_rfl) (by kernel_rfl) (fN Z mv (fN Z (lf (.agg (KG.c x)) qX Z) (fN Z (fa oU Z) (fN Z (lf (eL TXimpl_RelExpr.c e_.Kids) Bz Z) (jD h fun g3 h=>fN Z (Kz.res (Kz.ixL yT Z Z g3 TXimpl_RelExpr.len) (r' := .fp (aa.c (J e_.Kids U).out) 0) (fun _ _ hr=>mH (TXimpl_RelExpr.out_c _) hr)) (fN Z (lf (.agg (aa.c ((J e_.Kids U).out))) tT Z) (fC h (fun _=>ih _ _ _) Z Z Z Z Z fun v4 _ h=>fN Z as' (jR (jH (jI (oN (fa oU Z) ?_)))))))))))));refine oN (lf (I e_.Op) KN Z) (jA (jE (jI (oN (Kz.ieq Z Z) (oN as' (jA ?_))))));refine jN Z h (fun q5 h=>?_) (fun q5 h=>?_)
  ·refine jH (T.clean (H0:=[]) (e0:=ak [(7,eL cI v4)]) Z (Ky Z Kw) (jC (oN mv (oC h (fun _=>rz _) Z Z Z Z fun v6 _ h=>oN as' (jA (jK ?_))))))
   cases h
   exact aD Z Z Z
  refine jH (T.clean (H0:=[]) (e0:=ak [(25,I e_.Op),(7,eL cI v4),(5,.fp (aa.c e_) 0),(4,.fp (KG.c x) 0),(0,eL (cL KE.c) p)]) Z (Ky Z (Ky Z (Ky Z (Ky Z (Ky Z Kw))))) (jC (oN (Kz.ieq Z Z) (oN as' (jA ?_)))));refine jN Z h (fun q7 h=>?_) (fun q7 h=>?_)
  ·refine jI (oN mv (oC h (fun _=>mP _) Z Z Z Z fun v8 _ h=>oN as' (jA (jK ?_))))
   cases h
   exact aD Z Z Z
  refine jG (jH (jP (fun _=>([],false)) (by kernel_rfl) (by kernel_rfl) (fN Z mv (fN Z (lf (.agg (KG.c x)) qX Z) (fN Z (fa oU Z) (fN Z (lf (eL TXimpl_RelExpr.c e_.Kids) Bz Z) (jD h fun g9 h=>fN Z (Kz.res (Kz.ixL yT Z Z g9 TXimpl_RelExpr.len) (r' := .fp (aa.c (J e_.Kids V).out) 0) (fun _ _ hr=>mH (TXimpl_RelExpr.out_c _) hr)) (fN Z (lf (.agg (aa.c ((J e_.Kids V).out))) tT Z) (fC h (fun _=>ih _ _ _) Z Z Z Z Z fun v10 _ h=>fN Z as' (jR (jH (jI (oN (fa oU Z) ?_)))))))))))));refine oN (lf (I e_.Op) KN Z) (jA (jE (jI (oN (Kz.ieq Z Z) (oN as' (jA ?_))))));refine jN Z h (fun q11 h=>?_) (fun q11 h=>?_)
  ·refine jH (T.clean (H0:=[]) (e0:=ak [(8,eL cI v10),(7,eL cI v4)]) Z (Ky Z (Ky Z Kw)) (jC (oN mv (oN mv (oC h (fun _=>uq _ _) Z Z Z Z fun v12 _ h=>oN as' (jA (jK ?_)))))))
   cases h
   exact aD Z Z Z
  refine jH (T.clean (H0:=[]) (e0:=ak [(42,I e_.Op),(8,eL cI v10),(7,eL cI v4)]) Z (Ky Z (Ky Z (Ky Z Kw))) (jC (oN (Kz.ieq Z Z) (oN as' (jA ?_)))));refine jN Z h (fun q13 h=>?_) (fun q13 h=>?_)
  ·refine jI (oN mv (oN mv (oC h (fun _=>vA _ _) Z Z Z Z fun v14 _ h=>oN as' (jA (jK ?_)))))
   cases h
   exact aD Z Z Z
  refine jI (oN (Kz.ieq Z Z) (oN as' (jA ?_)));refine jN Z h (fun q15 h=>?_) (fun q15 h=>?_)
  ·refine jI (oN mv (oN mv (oC h (fun _=>ut _ _) Z Z Z Z fun v16 _ h=>oN as' (jA (jK ?_)))))
   cases h
   exact aD Z Z Z
  refine jG (jI (oN mv (oN mv (oC h (fun _=>rC _ _) Z Z Z Z fun v17 _ h=>oN as' (jA (jK ?_))))))
  cases h
  exact aD Z Z Z
theorem vB (p:List (List KE)) (x:KG) (e_:aa) {q} (h:nI p x e_=some q):ax Tryz.prog 118 [eL (cL KE.c) p,.agg (KG.c x),.agg (aa.c e_)] (eL cI q):=by
 obtain ⟨nf,h⟩:=nC h;exact uu nf p x e_ h
theorem kv (r_:LI) {q} (h:bX r_=some q):ax Tryz.prog 175 [eL cI r_] (Bo q):=by
 refine pM Tryz.func175 Z (by kernel_rfl) Z (jI (oN as' (jA ?_)));obtain ⟨Ks1,es1,ws1,h,ks1⟩:=mX h;refine T.join (S:=Unit) (G:=Unit) (fun s1=>Ks1 s1=some q) (fun s1 gh=>True) (fun s1 gh=>[]) (fun s1 gh=>[]) (fun s1 gh h hg=>?_) ?_
 ·clear ks1;subst es1;refine jI (oN as' (jA (jK ?_)))
  cases h
  exact aD Z Z Z
 refine jI (oN mv (oN (Kz.lenL aK Z) (oN mv (jA (jE ?_)))));refine T.lU h (fun s4=>[(6,I s4),(5,I (r_.length:Int)),(0,eL cI r_)]) (fun s4=>[]) (kw Z Z) (fun s4 ws4 h=>?_);refine jI (oN (Kz.ilt Z Z) (jA (jH ?_)));refine jN Z h (fun q6 h=>?_) (fun q6 h=>?_)
 ·refine jG (jH (jE (jI (oN mv (oN as' (jA (jI (oN mv (oN mv (oN mv (oC h (fun _=>cZ _ _ _) Z Z Z Z fun v7 _ h=>jA ?_)))))))))));refine jN Z h (fun q8 h=>?_) (fun q8 h=>?_)
  ·refine jI (oN as' (jA (jK (lX h fun h=>?_))));obtain rfl:=KD h;replace h:=congrArg some (show _=_ from ks1)
   cases h
   exact aD Z Z Z
  refine jG (jC (jW h fun g9 h=>oN (Kz.add Z Z g9) (oN mv (jA ?_))));exact lE h (kw Z Z)
 refine jM (lX h fun h=>?_)
 cases h
 exact ⟨(),(),ks1,trivial,kw Z Z⟩
theorem rD (r_:LI) {q} (h:gQ r_=some q):ax Tryz.prog 174 [eL cI r_] (Bo q):=by
 refine pM Tryz.func174 Z (by kernel_rfl) Z (jI (oN as' (jA (jI (oN mv (oC h (fun _=>bJ _) Z Z Z Z fun v1 _ h=>oN mv ?_))))));refine TO.jB h 4 (fun s2=>[(9,Bo s2)]) (fun s2=>[]) (fun s2 q3 h js2=>?_) (fun s2 q3 h js2=>?_) (fun s2 h=>?_)
 ·refine gN Z q3 mv (jB h fun v4 cv4 h=>gN Z q3 (Kz.call Z Z Z (mP r_ cv4) Z) (jB h fun v5 cv5 h=>gN Z q3 (Kz.call Z Z Z (kv v4 cv5) Z) (oN (Kz.pickT Z q3 (Bo v5) Z) ?_)))
  cases h
  exact js2 _ _ (kw Z Z)
 ·refine gS Z q3 (gS Z q3 (gS Z q3 (oN (Kz.pickF Z q3 (Bo false) Z) ?_)))
  cases h
  exact js2 _ _ (kw Z Z)
 refine oN as' (jA (jK ?_))
 cases h
 exact aD Z Z Z
theorem nM (x:Int) {q} (h:eU x=some q):ax Tryz.prog 218 [.v (.int .u64 x)] (I q):=by
 refine pM Tryz.func218 Z (by kernel_rfl) Z (jI (oN as' (jA (jI (oN mv (jD h fun g1 h=>oN (Kz.shr Z Z g1) (oN (Kz.band Z Z) (oN mv (oN (Kz.band Z Z) (jW h fun g2 h=>oN (Kz.add Z Z g2) (oN as' (jA (jI ?_)))))))))))));refine oN mv (jD h fun g3 h=>oN (Kz.shr Z Z g3) (oN (Kz.band Z Z) (oN mv (oN (Kz.band Z Z) (jW h fun g4 h=>oN (Kz.add Z Z g4) (oN as' (jA (jI (oN mv (jD h fun g5 h=>oN (Kz.shr Z Z g5) (oN mv (jW h fun g6 h=>?_))))))))))));refine jB h fun w7 ew7 h=>?_;replace ew7:=osi ew7;refine oN (Kz.res (Kz.add Z Z g6) (r' := .v (.int .u64 w7)) (fun _ _ hr=>by rw [<- ew7];exact hr)) (oN (Kz.band Z Z) (oN as' (jA (jH (T.clean (H0:=[]) (e0:=ak [(0,.v (.int .u64 (cN .u64 w7 (1085102592571150095:Int))))]) Z (Ky Z Kw) (jC (oN mv (oN mv (jD h fun g8 h=>oN (Kz.shr Z Z g8) (jW h fun g9 h=>oN (Kz.add Z Z g9) (oN as' (jA (jI ?_)))))))))))));refine oN mv (oN mv (jD h fun g10 h=>oN (Kz.shr Z Z g10) (jW h fun g11 h=>oN (Kz.add Z Z g11) (oN as' (jA (jI (oN mv (oN mv (jD h fun g12 h=>oN (Kz.shr Z Z g12) (jW h fun g13 h=>oN (Kz.add Z Z g13) (oN as' ?_)))))))))));refine jA (jI (oN mv (jW h fun g14 h=>oN (Kz.iconv JS.und Tryz.underlying3 Z g14) (oN (Kz.band Z Z) (oN as' (jA (jK ?_)))))))
 cases h
 exact aD Z Z Z
theorem oO (x:Int) {q} (h:dw x=some q):ax Tryz.prog 204 [.v (.int .u64 x)] (I q):=by
 refine pM Tryz.func204 Z (by kernel_rfl) Z (jI (oN as' (jA (jH ?_))));refine T.cond Z (fun q=>absurd (q.symm.trans Z) (by decide)) (fun _=>?_);refine jG (jI (oN mv (oC h (fun _=>nM _) Z Z Z Z fun v1 _ h=>oN as' (jA (jK ?_)))))
 cases h
 exact aD Z Z Z
theorem uw (r_:LI) {q} (h:jS r_=some q):ax Tryz.prog 176 [eL cI r_] (I q):=by
 refine pM Tryz.func176 Z (by kernel_rfl) Z (jI (oN as' (jA (jH (jI (oN mv (oC h (fun _=>bJ _) Z Z Z Z fun v1 _ h=>oN (Kz.not Z) (jA ?_))))))));refine jN Z h (fun q2 h=>?_) (fun q2 h=>?_)
 ·refine jI (oN as' (jA (jK ?_)))
  cases h
  exact aD Z Z Z
 refine jG (jI (oN as' (jA ?_)));refine T.jU h (fun s3=>[(3,I s3)]) (fun s3=>[]) (fun s3 h=>?_) (fun s3 h=>?_)
 ·refine jI (oN mv (oN as' (jA (jK ?_))))
  cases h
  exact aD Z Z Z
 refine jI (oN mv (oN (Kz.lenL aK Z) (oN mv (jA (jE ?_)))));refine T.lU h (fun s6=>[(11,I s6.1),(10,I (r_.length:Int)),(9,eL cI r_),(3,I s6.2)]) (fun s6=>[]) (kw Z Z) (fun s6 ws6 h=>?_);refine jI (oN (Kz.ilt Z Z) (jA (jH ?_)));refine jN Z h (fun q8 h=>?_) (fun q8 h=>?_)
 ·refine jG (jH (jE (jI (jD h fun g9 h=>oN (Kz.ixL aK Z Z g9 qD) (oN (lf (I (J r_ s6.1)) KN Z) (oN as' (jA (jC (oN mv (oN mv (jW h fun g10 h=>oN (Kz.iconv KN.und Tryz.underlying131 Z g10) (oC h (fun _=>oO _) Z Z Z Z fun v11 _ h=>jW h fun g12 h=>?_))))))))))));refine oN (Kz.add Z Z g12) (oN as' (jA (jC (jW h fun g13 h=>oN (Kz.add Z Z g13) (oN mv (jA ?_))))));exact lE h (kw Z Z)
 refine jM (lX h fun h=>?_)
 cases h
 exact ⟨(),trivial,kw Z Z⟩
theorem sJ (kind:Int) (r_:LI) {q} (h:iF kind r_=some q):ax Tryz.prog 119 [I kind,eL cI r_] (Bo q):=by
 refine pM Tryz.func119 Z (by kernel_rfl) Z (jI (oN as' (jA (jH (jI (oN mv (jA (jE (jI (oN (Kz.ieq Z Z) (oN as' (jA ?_))))))))))));refine jN Z h (fun q1 h=>?_) (fun q1 h=>?_)
 ·refine jI (oN mv (oC h (fun _=>rD _) Z Z Z Z fun v2 _ h=>oN as' (jA (jK ?_))))
  cases h
  exact aD Z Z Z
 refine jI (oN (Kz.ieq Z Z) (oN as' (jA ?_)));refine jN Z h (fun q3 h=>?_) (fun q3 h=>?_)
 ·refine jI (oN mv (oC h (fun _=>kv _) Z Z Z Z fun v4 _ h=>oN as' (jA (jK ?_))))
  cases h
  exact aD Z Z Z
 refine jG (jI (oN mv (oC h (fun _=>uw _) Z Z Z Z fun v5 _ h=>oN (Kz.ieq Z Z) (oN as' (jA (jK ?_))))))
 cases h
 exact aD Z Z Z
end
end Go.Proofs.YtpkhamajimidnaaGreatDoor
