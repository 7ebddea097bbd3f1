/- Texts joined. No conditions. -/
import Derived.Test.YtpkhamajimidnaaGreatDoorV10
namespace Go.Proofs.YtpkhamajimidnaaGreatDoor
noncomputable section
open _root_.List renaming replicate -> Qa
set_option maxHeartbeats 4000000
open Go.RowKit
set_option maxRecDepth 100000
theorem tX (a:List aj) (left:Int) {q} (h:fZ a left=some q):ax Tryz.prog 20 [eL aj.c a,I left] (I q):=by
 refine pM Tryz.func20 Z (by kernel_rfl) Z (jI (oN as' (jA (jI (oN mv (oN mv (oN (Kz.lenL Jo Z) (jW h fun g1 h=>oN (Kz.sub Z Z g1) (oN as' (jA (jH (jI (oN mv (oN (Kz.ilt Z Z) ?_))))))))))))));refine jA ?_;refine jN Z h (fun q2 h=>?_) (fun q2 h=>?_)
 ·refine jI (oN as' (jA (jK ?_)))
  cases h
  exact aD Z Z Z
 refine jG (jI (oN mv (oN as' (jA (jK ?_)))))
 cases h
 exact aD Z Z Z
theorem rZ (a:List (List aj)) (left:Int) {q} (h:iq a left=some q):ax Tryz.prog 5 [eL (cL aj.c) a,I left] (I q):=by
 refine pM Tryz.func5 Z (by kernel_rfl) Z (jI (oN as' (jA (jI (oN mv (oN mv (oN (Kz.lenL H3 Z) (jW h fun g1 h=>oN (Kz.sub Z Z g1) (oN as' (jA (jH (jI (oN mv (oN (Kz.ilt Z Z) ?_))))))))))))));refine jA ?_;refine jN Z h (fun q2 h=>?_) (fun q2 h=>?_)
 ·refine jI (oN as' (jA (jK ?_)))
  cases h
  exact aD Z Z Z
 refine jG ?_;obtain ⟨Ks3,es3,ws3,h,ks3⟩:=mX h;refine T.join (S:=Int) (G:=Unit) (fun s3=>Ks3 s3=some q) (fun s3 gh=>True) (fun s3 gh=>[(1,I s3)]) (fun s3 gh=>[]) (fun s3 gh h hg=>?_) ?_
 ·clear ks3;subst es3;refine jI (oN mv (oN as' (jA (jK ?_))))
  cases h
  exact aD Z Z Z
 refine jI (oN as' (jA (jE ?_)));refine T.lU h (fun s6=>[(5,I s6.1),(1,I s6.2),(0,eL (cL aj.c) a)]) (fun s6=>[]) (kw Z Z) (fun s6 ws6 h=>?_);refine jH (jI (oN mv (oN mv (oN (Kz.lenL H3 Z) (oN (Kz.ilt Z Z) (jA ?_))))));refine jN Z h (fun q8 h=>?_) (fun q8 h=>?_)
 ·refine jG (jH (jE (jI (oN mv (oN mv (jD h fun g9 h=>oN (Kz.ixL H3 Z Z g9 qD) (oN (lf (eL aj.c (J a s6.1)) JP Z) (oN mv (oC h (fun _=>tX _ _) Z Z Z Z fun v10 _ h=>oN as' (jA (jI (oN mv (oN (Kz.ilt Z Z) ?_)))))))))))));refine jA ?_;refine jN Z h (fun q11 h=>?_) (fun q11 h=>?_)
  ·refine jH (T.clean (H0:=[]) (e0:=ak []) Z Kw (jC (oN as' (jA (jK (lX h fun h=>?_))))));obtain rfl:=KD h;replace h:=congrArg some (show _=_ from ks3)
   cases h
   exact aD Z Z Z
  refine jG (jC (oN mv (jW h fun g12 h=>oN (Kz.add Z Z g12) (oN as' (jA ?_)))));exact lE h (kw Z Z)
 refine jM (lX h fun h=>?_);obtain rfl:=KD h;exact ⟨s6.2,(),ks3,trivial,kw Z Z⟩
theorem pX (a:LI) (left:Int) {q} (h:gB a left=some q):ax Tryz.prog 21 [eL cI a,I left] (I q):=by
 refine pM Tryz.func21 Z (by kernel_rfl) Z (jI (oN as' (jA (jI (oN mv (oN mv (oN (Kz.lenL aK Z) (jW h fun g1 h=>oN (Kz.sub Z Z g1) (oN as' (jA (jH (jI (oN mv (oN (Kz.ilt Z Z) ?_))))))))))))));refine jA ?_;refine jN Z h (fun q2 h=>?_) (fun q2 h=>?_)
 ·refine jI (oN as' (jA (jK ?_)))
  cases h
  exact aD Z Z Z
 refine jG (jI (oN mv (oN as' (jA (jK ?_)))))
 cases h
 exact aD Z Z Z
theorem uO (a:LL) (left:Int) {q} (h:kM a left=some q):ax Tryz.prog 22 [eL (cL cI) a,I left] (I q):=by
 refine pM Tryz.func22 Z (by kernel_rfl) Z (jI (oN as' (jA (jI (oN mv (oN mv (oN (Kz.lenL pU Z) (jW h fun g1 h=>oN (Kz.sub Z Z g1) (oN as' (jA (jH (jI (oN mv (oN (Kz.ilt Z Z) ?_))))))))))))));refine jA ?_;refine jN Z h (fun q2 h=>?_) (fun q2 h=>?_)
 ·refine jI (oN as' (jA (jK ?_)))
  cases h
  exact aD Z Z Z
 refine jG ?_;obtain ⟨Ks3,es3,ws3,h,ks3⟩:=mX h;refine T.join (S:=Int) (G:=Unit) (fun s3=>Ks3 s3=some q) (fun s3 gh=>True) (fun s3 gh=>[(1,I s3)]) (fun s3 gh=>[]) (fun s3 gh h hg=>?_) ?_
 ·clear ks3;subst es3;refine jI (oN mv (oN as' (jA (jK ?_))))
  cases h
  exact aD Z Z Z
 refine jI (oN as' (jA (jE ?_)));refine T.lU h (fun s6=>[(5,I s6.1),(1,I s6.2),(0,eL (cL cI) a)]) (fun s6=>[]) (kw Z Z) (fun s6 ws6 h=>?_);refine jH (jI (oN mv (oN mv (oN (Kz.lenL pU Z) (oN (Kz.ilt Z Z) (jA ?_))))));refine jN Z h (fun q8 h=>?_) (fun q8 h=>?_)
 ·refine jG (jH (jE (jI (oN mv (oN mv (jD h fun g9 h=>oN (Kz.ixL pU Z Z g9 qD) (oN (lf (eL cI (J a s6.1)) nu Z) (oN mv (oC h (fun _=>pX _ _) Z Z Z Z fun v10 _ h=>oN as' (jA (jI (oN mv (oN (Kz.ilt Z Z) ?_)))))))))))));refine jA ?_;refine jN Z h (fun q11 h=>?_) (fun q11 h=>?_)
  ·refine jH (T.clean (H0:=[]) (e0:=ak []) Z Kw (jC (oN as' (jA (jK (lX h fun h=>?_))))));obtain rfl:=KD h;replace h:=congrArg some (show _=_ from ks3)
   cases h
   exact aD Z Z Z
  refine jG (jC (oN mv (jW h fun g12 h=>oN (Kz.add Z Z g12) (oN as' (jA ?_)))));exact lE h (kw Z Z)
 refine jM (lX h fun h=>?_);obtain rfl:=KD h;exact ⟨s6.2,(),ks3,trivial,kw Z Z⟩
theorem wZ (a:aB) (left:Int) {q} (h:l5 a left=some q):ax Tryz.prog 6 [.agg (aB.c a),I left] (I q):=by
 refine pM Tryz.func6 Z (by kernel_rfl) Z (jI (oN (Kz.bxF (aB.c a) Z Z Z) (oN as' (jA (jI (oN (fa Jj Z) (oN (lf (eL cI a.From) nu Z) (oN mv (oC h (fun _=>pX _ _) Z Z Z Z fun v1 _ h=>oN as' (jA (jH (jI (oN mv (oN (Kz.ilt Z Z) ?_))))))))))))));refine jA ?_;refine jN Z h (fun q2 h=>?_) (fun q2 h=>?_)
 ·refine jI (oN as' (jA (jK ?_)))
  cases h
  exact aD Z Z Z
 refine jG (jI (oN (fa Jj Z) (oN (lf (eL (cL cI) a.Order) Cf Z) (oN mv (oC h (fun _=>uO _ _) Z Z Z Z fun v3 _ h=>oN as' (jA (jH (jI (oN mv (oN (Kz.ilt Z Z) (jA ?_)))))))))));refine jN Z h (fun q4 h=>?_) (fun q4 h=>?_)
 ·refine jH (T.clean (H0:=[]) (e0:=ak []) Z Kw (jC (oN as' (jA (jK ?_)))))
  cases h
  exact aD Z Z Z
 refine jG (jH (T.clean (H0:=[]) (e0:=ak [(1,I v3)]) Z (Ky Z Kw) (jC (oN mv (oN as' (jA (jK ?_)))))))
 cases h
 exact aD Z Z Z
theorem ol (rcf42:ai->Int->Option Int) (ih42:∀ (a:ai) (left:Int) {q},rcf42 a left=some q->ax Tryz.prog 42 [.agg (ai.c a),I left] (I q)) (a:List TXlaws_RelExpr) (left:Int) {q:Int} (h:fD rcf42 a left=some q):ax Tryz.prog 89 [eL TXlaws_RelExpr.c a,I left] (I q):=by
 refine pM Tryz.func89 Z (by kernel_rfl) Z (jI (oN as' (jA (jI (oN mv (oN mv (oN (Kz.lenL H5 Z) (jW h fun g1 h=>oN (Kz.sub Z Z g1) (oN as' (jA (jH (jI (oN mv (oN (Kz.ilt Z Z) ?_))))))))))))));refine jA ?_;refine jN Z h (fun q2 h=>?_) (fun q2 h=>?_)
 ·refine jI (oN as' (jA (jK ?_)))
  cases h
  exact aD Z Z Z
 refine jG ?_;obtain ⟨Ks3,es3,ws3,h,ks3⟩:=mX h;refine T.join (S:=Int) (G:=Unit) (fun s3=>Ks3 s3=some q) (fun s3 gh=>True) (fun s3 gh=>[(1,I s3)]) (fun s3 gh=>[]) (fun s3 gh h hg=>?_) ?_
 ·clear ks3;subst es3;refine jI (oN mv (oN as' (jA (jK ?_))))
  cases h
  exact aD Z Z Z
 refine jI (oN as' (jA (jE ?_)));refine T.lU h (fun s6=>[(5,I s6.1),(1,I s6.2),(0,eL TXlaws_RelExpr.c a)]) (fun s6=>[]) (kw Z Z) (fun s6 ws6 h=>?_);refine jH (jI (oN mv (oN mv (oN (Kz.lenL H5 Z) (oN (Kz.ilt Z Z) (jA ?_))))));refine jN Z h (fun q8 h=>?_) (fun q8 h=>?_)
 ·refine jG (jH (jE (jI (oN mv (oN mv (jD h fun g9 h=>oN (Kz.res (Kz.ixL H5 Z Z g9 TXlaws_RelExpr.len) (r' := .fp (ai.c (J a s6.1).out) 0) (fun _ _ hr=>mH (TXlaws_RelExpr.out_c _) hr)) (oN (lf (.agg (ai.c ((J a s6.1).out))) I6 Z) (oN mv (oC h (fun _=>ih42 _ _) Z Z Z Z fun v10 _ h=>oN as' (jA (jI (oN mv (oN (Kz.ilt Z Z) ?_)))))))))))));refine jA ?_;refine jN Z h (fun q11 h=>?_) (fun q11 h=>?_)
  ·refine jH (T.clean (H0:=[]) (e0:=ak []) Z Kw (jC (oN as' (jA (jK (lX h fun h=>?_))))));obtain rfl:=KD h;replace h:=congrArg some (show _=_ from ks3)
   cases h
   exact aD Z Z Z
  refine jG (jC (oN mv (jW h fun g12 h=>oN (Kz.add Z Z g12) (oN as' (jA ?_)))));exact lE h (kw Z Z)
 refine jM (lX h fun h=>?_);obtain rfl:=KD h;exact ⟨s6.2,(),ks3,trivial,kw Z Z⟩
theorem qZ:∀ (nf:Nat) (a:ai) (left:Int) {q} (h:bu nf a left=some q),ax Tryz.prog 42 [.agg (ai.c a),I left] (I q):=by
 intro nf
 induction nf with
 | zero=>intros;rename_i h;cases h
 | succ nf ih=>
  intro a left q h;replace h:fI (bu nf) a left=some q:=h;refine pM Tryz.func42 Z (by kernel_rfl) Z (jI (oN (Kz.bxF [I a.Op,St a.Name,eL TXlaws_RelExpr.c a.Kids] Z Z Z) (oN as' (jA (jI (oN mv (oN (fa I7 Z) (oN (lf (St a.Name) ty9 Z) (oN (Kz.lenst Tryz.underlying9 Z) (jW h fun g1 h=>oN (Kz.sub Z Z g1) (oN as' (jA (jH (jI ?_))))))))))))));refine oN mv (oN (Kz.ilt Z Z) (jA ?_));refine jN Z h (fun q2 h=>?_) (fun q2 h=>?_)
  ·refine jI (oN as' (jA (jK ?_)))
   cases h
   exact aD Z Z Z
  refine jG (jI (oN (fa I7 Z) (oN (lf (eL TXlaws_RelExpr.c a.Kids) J5 Z) (oN mv (oC h (fun _=>ol _ ih _ _) Z Z Z Z fun v3 _ h=>oN as' (jA (jH (jH (T.clean (H0:=[]) (e0:=ak [(1,I v3)]) Z (Ky Z Kw) (jC (oN mv (oN (Kz.ilt Z Z) (jA ?_)))))))))))));refine jN Z h (fun q4 h=>?_) (fun q4 h=>?_)
  ·refine jI (oN as' (jA (jK ?_)))
   cases h
   exact aD Z Z Z
  refine jG (jI (oN mv (oN as' (jA (jK ?_)))))
  cases h
  exact aD Z Z Z
theorem r9 (a:ai) (left:Int) {q} (h:lD a left=some q):ax Tryz.prog 42 [.agg (ai.c a),I left] (I q):=by
 obtain ⟨nf,h⟩:=nC h;exact qZ nf a left h
theorem w9 (a:au) (left:Int) {q} (h:l6 a left=some q):ax Tryz.prog 23 [.agg (au.c a),I left] (I q):=by
 refine pM Tryz.func23 Z (by kernel_rfl) Z (jI (oN (Kz.bxF (au.c (⟨a.Kind,a.Expr⟩:au)) Z Z Z) (oN as' (jA (jI (oN (Kz.fafpS 3 Tryz.underlying55 Z (by kernel_rfl) Z Z (row2:=ai.c a.Expr)) (oN (lf (.agg (ai.c a.Expr)) I6 Z) (oN mv (oC h (fun _=>r9 _ _) Z Z Z Z fun v1 _ h=>oN as' (jA (jH (jI (oN mv (oN (Kz.ilt Z Z) ?_))))))))))))));refine jA ?_;refine jN Z h (fun q2 h=>?_) (fun q2 h=>?_)
 ·refine jI (oN as' (jA (jK ?_)))
  cases h
  exact aD Z Z Z
 refine jG (jI (oN mv (oN as' (jA (jK ?_)))))
 cases h
 exact aD Z Z Z
theorem uP (a:List au) (left:Int) {q} (h:kN a left=some q):ax Tryz.prog 7 [eL au.c a,I left] (I q):=by
 refine pM Tryz.func7 Z (by kernel_rfl) Z (jI (oN as' (jA (jI (oN mv (oN mv (oN (Kz.lenL H4 Z) (jW h fun g1 h=>oN (Kz.sub Z Z g1) (oN as' (jA (jH (jI (oN mv (oN (Kz.ilt Z Z) ?_))))))))))))));refine jA ?_;refine jN Z h (fun q2 h=>?_) (fun q2 h=>?_)
 ·refine jI (oN as' (jA (jK ?_)))
  cases h
  exact aD Z Z Z
 refine jG ?_;obtain ⟨Ks3,es3,ws3,h,ks3⟩:=mX h;refine T.join (S:=Int) (G:=Unit) (fun s3=>Ks3 s3=some q) (fun s3 gh=>True) (fun s3 gh=>[(1,I s3)]) (fun s3 gh=>[]) (fun s3 gh h hg=>?_) ?_
 ·clear ks3;subst es3;refine jI (oN mv (oN as' (jA (jK ?_))))
  cases h
  exact aD Z Z Z
 refine jI (oN as' (jA (jE ?_)));refine T.lU h (fun s6=>[(5,I s6.1),(1,I s6.2),(0,eL au.c a)]) (fun s6=>[]) (kw Z Z) (fun s6 ws6 h=>?_);refine jH (jI (oN mv (oN mv (oN (Kz.lenL H4 Z) (oN (Kz.ilt Z Z) (jA ?_))))));refine jN Z h (fun q8 h=>?_) (fun q8 h=>?_)
 ·refine jG (jH (jE (jI (oN mv (oN mv (jD h fun g9 h=>oN (Kz.ixL H4 Z Z g9 qD) (oN (lf (.agg (au.c (J a s6.1))) JQ Z) (oN mv (oC h (fun _=>w9 _ _) Z Z Z Z fun v10 _ h=>oN as' (jA (jI (oN mv (oN (Kz.ilt Z Z) ?_)))))))))))));refine jA ?_;refine jN Z h (fun q11 h=>?_) (fun q11 h=>?_)
  ·refine jH (T.clean (H0:=[]) (e0:=ak []) Z Kw (jC (oN as' (jA (jK (lX h fun h=>?_))))));obtain rfl:=KD h;replace h:=congrArg some (show _=_ from ks3)
   cases h
   exact aD Z Z Z
  refine jG (jC (oN mv (jW h fun g12 h=>oN (Kz.add Z Z g12) (oN as' (jA ?_)))));exact lE h (kw Z Z)
 refine jM (lX h fun h=>?_);obtain rfl:=KD h;exact ⟨s6.2,(),ks3,trivial,kw Z Z⟩
theorem uQ (a:aj) {q} (h:qJ a=some q):ax Tryz.prog 55 [.agg (aj.c a)] (.agg (KE.c q)):=by
 refine pM Tryz.func55 Z (by kernel_rfl) Z (jI (oN (Kz.bxF [I a.Op,I a.Loc,I a.Reg,I a.Val] Z Z Z) (oA (EvA.al Hu Z Z) (jA (jI (oA (EvA.al Hu Z Z) (jA (jI (oN (fa Jn Z) (oN (lf (I a.Op) KN Z) (oN (fa mq Z) (oV (sr [I a.Op,I U,I U,I U] KN Z Z Z Z) (jA (jI (oN (fa Jn Z) ?_)))))))))))))));refine oN (lf (I a.Loc) KN Z) (oN (fa mq Z) (oV (sr [I a.Op,I a.Loc,I U,I U] KN Z Z Z Z) (jA (jI (oN (fa Jn Z) (oN (lf (I a.Reg) KN Z) (oN (fa mq Z) (oV (sr [I a.Op,I a.Loc,I a.Reg,I U] KN Z Z Z Z) (jA (jI (oN (fa Jn Z) (oN (lf (I a.Val) KN Z) (oN (fa mq Z) (oV (sr [I a.Op,I a.Loc,I a.Reg,I a.Val] KN Z Z Z Z) (jA ?_)))))))))))))));refine jI (oA (lh (.agg [I a.Op,I a.Loc,I a.Reg,I a.Val]) xp Z Z Z) (oV (sr [I a.Op,I a.Loc,I a.Reg,I a.Val] xp Z Z Z Z) (jA (jK ?_))));obtain rfl:=KD h
 repeat (first|refine jd ?_|refine je ?_)
 exact jQ (vs:=[.agg [I a.Op,I a.Loc,I a.Reg,I a.Val]]) (.cons (.cell (.agg [I a.Op,I a.Loc,I a.Reg,I a.Val]) xp Z Z Z Z Z Z) .nil) (qC Z)
theorem tY (a:List aj) {q} (h:jg a=some q):ax Tryz.prog 27 [eL aj.c a] (eL KE.c q):=by
 refine pM Tryz.func27 Z (by kernel_rfl) Z (jI (oN as' (jA (jI (oN mv (oN (Kz.lenL Jo Z) (jD h fun g1 h=>oA (EvA.mkN (c:=KE.c) (default:KE) xB Z Z g1 Z Z Z) (oN (Kz.asg (hS false 0 0 4 ((Qa (a.length:Int).toNat (default:KE)).length)) Z) (jA ?_)))))))));refine T.jF (G:=Nat) h (fun s2 gh=>True) (fun s2 gh=>[(3,hS false 0 gh 4 s2.length)]) (fun s2 gh=>[bE false gh 4 90 (s2.map KE.c)]) (fun s2 u14 h hg=>?_) (fun s2 h=>?_)
 ·refine jI (oN mv (oN (Kz.asg (hS false 0 u14 4 s2.length) Z) (jA (jK ?_))));obtain rfl:=KD h
  repeat (first|refine jd ?_|refine je ?_)
  exact jQ (vs:=[hS false 0 u14 4 s2.length]) (.cons (.tmp Z) .nil) (Fz.own (g:=false) (ver:=u14) (l:=s2) Z Z Z nofun KE.isF)
 refine jI (oN as' (jA (jE ?_)));refine jO (S:=(List KE)×Int) (G:=Nat) (fJ a) (fun s6 gh=>True) (fun s6 gh=>[(4,I s6.2),(3,hS false 0 gh 4 s6.1.length),(0,eL aj.c a)]) (fun s6 gh=>[bE false gh 4 90 (s6.1.map KE.c)]) (s0:=((Qa (a.length:Int).toNat (default:KE)),U)) 0 h trivial (kw Z Z) (fun s6 u8 ws6 h hg=>?_);refine jH (jI (oN mv (oN mv (oN (Kz.lenL Jo Z) (oN (Kz.ilt Z Z) (jA ?_))))));refine jN Z h (fun q9 h=>?_) (fun q9 h=>?_)
 ·refine jG (jH (jE (jC (oN mv (oN mv (oN mv (oN mv (jD h fun g10 h=>oN (Kz.ixL Jo Z Z g10 qD) (oN (lf (.agg (aj.c (J a s6.2))) J6 Z) (oC h (fun _=>uQ _) Z Z Z Z fun v11 _ h=>jD h fun g12 h=>oN (Kz.ixO (g:=false) xB Z Z nofun g12) (oV (EvA.stO (g:=false) (l:=s6.1) (cs:=(KE.c v11)) v11 xp Z Z Z nofun (aI Z g12) Z Z Z) (jA ?_))))))))))));refine jC (oN mv (jW h fun g13 h=>oN (Kz.add Z Z g13) (oN as' (jA ?_))));obtain rfl:=KD h;exact ⟨((s6.1.set s6.2.toNat v11),(s6.2+(1:Int))),u8,Z,trivial,yV Z (Ky Z (Ky (congrArg (hS false 0 u8 4) (by simp:s6.1.length=(s6.1.set s6.2.toNat v11).length)) (Ky Z Kw)))⟩
 refine jM (lX h fun h=>?_)
 cases h
 exact ⟨u8,trivial,kw Z Z⟩
theorem jZ (a:List (List aj)) {q} (h:bU a=some q):ax Tryz.prog 9 [eL (cL aj.c) a] (eL (cL KE.c) q):=by
 refine pM Tryz.func9 Z (by kernel_rfl) Z (jI (oN as' (jA (jI (oN mv (oN (Kz.lenL H3 Z) (jD h fun g1 h=>oA (EvA.mkZ yj Z Z g1 Z Z) (oN (Kz.asg (hS false 0 0 1 ((a.length:Int).toNat)) Z) (jA (T.cut (e0:=ak [(3,hS false 0 0 1 ((Qa (a.length:Int).toNat ([]:List KE)).length)),(0,eL (cL aj.c) a)]) (H0:=[bE false 0 1 58 ((Qa (a.length:Int).toNat ([]:List KE)).map (cL KE.c))]) (rU Z (.cons (.rows (.rep (f:=KE.c) _)) .nil) (ah (.eqv (congrArg (hS false 0 0 1) (by simp:(a.length:Int).toNat=(Qa (a.length:Int).toNat ([]:List KE)).length)) (.hS (g:=false) (b:=0) (ver:=0) (s:=1) (n:=(Qa (a.length:Int).toNat ([]:List KE)).length) Z)) (ah (.fz (qC Z)) bq))) ?_))))))))));refine T.jF (G:=Nat) h (fun s2 gh=>True) (fun s2 gh=>[(3,hS false 0 gh 1 s2.length)]) (fun s2 gh=>[bE false gh 1 58 (s2.map (cL KE.c))]) (fun s2 u14 h hg=>?_) (fun s2 h=>?_)
 ·refine jI (oN mv (oN (Kz.asg (hS false 0 u14 1 s2.length) Z) (jA (jK ?_))));obtain rfl:=KD h
  repeat (first|refine jd ?_|refine je ?_)
  exact jQ (vs:=[hS false 0 u14 1 s2.length]) (.cons (.tmp Z) .nil) (Fz.own (g:=false) (ver:=u14) (l:=s2) Z Z Z nofun qD)
 refine jI (oN as' (jA (jE ?_)));refine jO (S:=(List (List KE))×Int) (G:=Nat) (eG a) (fun s6 gh=>True) (fun s6 gh=>[(4,I s6.2),(3,hS false 0 gh 1 s6.1.length),(0,eL (cL aj.c) a)]) (fun s6 gh=>[bE false gh 1 58 (s6.1.map (cL KE.c))]) (s0:=((Qa (a.length:Int).toNat ([]:List KE)),U)) 0 h trivial (kw Z Z) (fun s6 u8 ws6 h hg=>?_);refine jH (jI (oN mv (oN mv (oN (Kz.lenL H3 Z) (oN (Kz.ilt Z Z) (jA ?_))))));refine jN Z h (fun q9 h=>?_) (fun q9 h=>?_)
 ·refine jG (jH (jE (jC (oN mv (oN mv (oN mv (oN mv (jD h fun g10 h=>oN (Kz.ixL H3 Z Z g10 qD) (oN (lf (eL aj.c (J a s6.2)) JP Z) (oC h (fun _=>tY _) Z Z Z Z fun v11 _ h=>jD h fun g12 h=>oN (Kz.ixO (g:=false) yj Z Z nofun g12) (oV (EvA.stO (g:=false) (l:=s6.1) (cs:=[eL KE.c v11]) v11 AK Z Z Z nofun (aI Z g12) Z Z Z) (jA ?_))))))))))));refine jC (oN mv (jW h fun g13 h=>oN (Kz.add Z Z g13) (oN as' (jA ?_))));obtain rfl:=KD h;exact ⟨((s6.1.set s6.2.toNat v11),(s6.2+(1:Int))),u8,Z,trivial,yV Z (Ky Z (Ky (congrArg (hS false 0 u8 1) (by simp:s6.1.length=(s6.1.set s6.2.toNat v11).length)) (Ky Z Kw)))⟩
 refine jM (lX h fun h=>?_)
 cases h
 exact ⟨u8,trivial,kw Z Z⟩
theorem pY (a:LI) {q} (h:jh a=some q):ax Tryz.prog 17 [eL cI a] (eL cI q):=by
 refine pM Tryz.func17 Z (by kernel_rfl) Z (jI (oN as' (jA (jI (oN mv (oN (Kz.lenL aK Z) (jD h fun g1 h=>oA (EvA.mkN (c:=cI) (default:Int) aK Z Z g1 Z Z Z) (oN (Kz.asg (hS false 0 0 1 ((Qa (a.length:Int).toNat (default:Int)).length)) Z) (jA ?_)))))))));refine T.jF (G:=Nat) h (fun s2 gh=>True) (fun s2 gh=>[(3,hS false 0 gh 1 s2.length)]) (fun s2 gh=>[bE false gh 1 3 (s2.map cI)]) (fun s2 u13 h hg=>?_) (fun s2 h=>?_)
 ·refine jI (oN mv (oN (Kz.asg (hS false 0 u13 1 s2.length) Z) (jA (jK ?_))));obtain rfl:=KD h
  repeat (first|refine jd ?_|refine je ?_)
  exact jQ (vs:=[hS false 0 u13 1 s2.length]) (.cons (.tmp Z) .nil) (Fz.own (g:=false) (ver:=u13) (l:=s2) Z Z Z nofun qD)
 refine jI (oN as' (jA (jE ?_)));refine jO (S:=(LI)×Int) (G:=Nat) (iw a) (fun s6 gh=>True) (fun s6 gh=>[(4,I s6.2),(3,hS false 0 gh 1 s6.1.length),(0,eL cI a)]) (fun s6 gh=>[bE false gh 1 3 (s6.1.map cI)]) (s0:=((Qa (a.length:Int).toNat (default:Int)),U)) 0 h trivial (kw Z Z) (fun s6 u8 ws6 h hg=>?_);refine jH (jI (oN mv (oN mv (oN (Kz.lenL aK Z) (oN (Kz.ilt Z Z) (jA ?_))))));refine jN Z h (fun q9 h=>?_) (fun q9 h=>?_)
 ·refine jG (jH (jE (jC (oN mv (oN mv (oN mv (oN mv (jD h fun g10 h=>oN (Kz.ixL aK Z Z g10 qD) (oN (lf (I (J a s6.2)) KN Z) (jD h fun g11 h=>oN (Kz.ixO (g:=false) aK Z Z nofun g11) (oV (EvA.stO (g:=false) (l:=s6.1) (cs:=[I (J a s6.2)]) (J a s6.2) KN Z Z Z nofun (aI Z g11) Z Z Z) (jA (jC ?_)))))))))))));refine oN mv (jW h fun g12 h=>oN (Kz.add Z Z g12) (oN as' (jA ?_)));obtain rfl:=KD h;exact ⟨((s6.1.set s6.2.toNat (J a s6.2)),(s6.2+(1:Int))),u8,Z,trivial,yV Z (Ky Z (Ky (congrArg (hS false 0 u8 1) (by simp:s6.1.length=(s6.1.set s6.2.toNat (J a s6.2)).length)) (Ky Z Kw)))⟩
 refine jM (lX h fun h=>?_)
 cases h
 exact ⟨u8,trivial,kw Z Z⟩
theorem uR (a:LL) {q} (h:kO a=some q):ax Tryz.prog 28 [eL (cL cI) a] (eL (cL cI) q):=by
 refine pM Tryz.func28 Z (by kernel_rfl) Z (jI (oN as' (jA (jI (oN mv (oN (Kz.lenL pU Z) (jD h fun g1 h=>oA (EvA.mkZ pU Z Z g1 Z Z) (oN (Kz.asg (hS false 0 0 1 ((a.length:Int).toNat)) Z) (jA (T.cut (e0:=ak [(3,hS false 0 0 1 ((Qa (a.length:Int).toNat ([]:LI)).length)),(0,eL (cL cI) a)]) (H0:=[bE false 0 1 23 ((Qa (a.length:Int).toNat ([]:LI)).map (cL cI))]) (rU Z (.cons (.rows (.rep (f:=cI) _)) .nil) (ah (.eqv (congrArg (hS false 0 0 1) (by simp:(a.length:Int).toNat=(Qa (a.length:Int).toNat ([]:LI)).length)) (.hS (g:=false) (b:=0) (ver:=0) (s:=1) (n:=(Qa (a.length:Int).toNat ([]:LI)).length) Z)) (ah (.fz (qC Z)) bq))) ?_))))))))));refine T.jF (G:=Nat) h (fun s2 gh=>True) (fun s2 gh=>[(3,hS false 0 gh 1 s2.length)]) (fun s2 gh=>[bE false gh 1 23 (s2.map (cL cI))]) (fun s2 u14 h hg=>?_) (fun s2 h=>?_)
 ·refine jI (oN mv (oN (Kz.asg (hS false 0 u14 1 s2.length) Z) (jA (jK ?_))));obtain rfl:=KD h
  repeat (first|refine jd ?_|refine je ?_)
  exact jQ (vs:=[hS false 0 u14 1 s2.length]) (.cons (.tmp Z) .nil) (Fz.own (g:=false) (ver:=u14) (l:=s2) Z Z Z nofun qD)
 refine jI (oN as' (jA (jE ?_)));refine jO (S:=(LL)×Int) (G:=Nat) (gD a) (fun s6 gh=>True) (fun s6 gh=>[(4,I s6.2),(3,hS false 0 gh 1 s6.1.length),(0,eL (cL cI) a)]) (fun s6 gh=>[bE false gh 1 23 (s6.1.map (cL cI))]) (s0:=((Qa (a.length:Int).toNat ([]:LI)),U)) 0 h trivial (kw Z Z) (fun s6 u8 ws6 h hg=>?_);refine jH (jI (oN mv (oN mv (oN (Kz.lenL pU Z) (oN (Kz.ilt Z Z) (jA ?_))))));refine jN Z h (fun q9 h=>?_) (fun q9 h=>?_)
 ·refine jG (jH (jE (jC (oN mv (oN mv (oN mv (oN mv (jD h fun g10 h=>oN (Kz.ixL pU Z Z g10 qD) (oN (lf (eL cI (J a s6.2)) nu Z) (oC h (fun _=>pY _) Z Z Z Z fun v11 _ h=>jD h fun g12 h=>oN (Kz.ixO (g:=false) pU Z Z nofun g12) (oV (EvA.stO (g:=false) (l:=s6.1) (cs:=[eL cI v11]) v11 nu Z Z Z nofun (aI Z g12) Z Z Z) (jA ?_))))))))))));refine jC (oN mv (jW h fun g13 h=>oN (Kz.add Z Z g13) (oN as' (jA ?_))));obtain rfl:=KD h;exact ⟨((s6.1.set s6.2.toNat v11),(s6.2+(1:Int))),u8,Z,trivial,yV Z (Ky Z (Ky (congrArg (hS false 0 u8 1) (by simp:s6.1.length=(s6.1.set s6.2.toNat v11).length)) (Ky Z Kw)))⟩
 refine jM (lX h fun h=>?_)
 cases h
 exact ⟨u8,trivial,kw Z Z⟩
theorem mN (a:aB) {q} (h:gF a=some q):ax Tryz.prog 10 [.agg (aB.c a)] (.agg (KG.c q)):=by
 refine pM Tryz.func10 Z (by kernel_rfl) Z (jI (oN (Kz.bxF [eL cI a.From,eL (cL cI) a.Order] Z Z Z) (oA (EvA.al JO Z Z) (jA (jI (oA (EvA.al JO Z Z) (jA (jI (oN (fa Jj Z) (oN (lf (eL cI a.From) nu Z) (oC h (fun _=>pY _) Z Z Z Z fun v1 _ h=>oN (fa uG Z) (oV (sr [eL cI v1,.nil] nu Z Z Z Z) (jA (jI ?_))))))))))))));refine oN (fa Jj Z) (oN (lf (eL (cL cI) a.Order) Cf Z) (oC h (fun _=>uR _) Z Z Z Z fun v2 _ h=>oN (fa uG Z) (oV (sr [eL cI v1,eL (cL cI) v2] Cf Z Z Z Z) (jA (jI (oA (lh (.agg [eL cI v1,eL (cL cI) v2]) qX Z Z Z) (oV (sr [eL cI v1,eL (cL cI) v2] qX Z Z Z Z) (jA (jK ?_)))))))));obtain rfl:=KD h
 repeat (first|refine jd ?_|refine je ?_)
 exact jQ (vs:=[.agg [eL cI v1,eL (cL cI) v2]]) (.cons (.cell (.agg [eL cI v1,eL (cL cI) v2]) qX Z Z Z Z Z Z) .nil) (qC Z)
theorem om (rcf56:ai->Option aa) (ih56:∀ (a:ai) {q},rcf56 a=some q->ax Tryz.prog 56 [.agg (ai.c a)] (.agg (aa.c q))) (a:List TXlaws_RelExpr) {q:(List TXimpl_RelExpr)} (h:fE rcf56 a=some q):ax Tryz.prog 107 [eL TXlaws_RelExpr.c a] (eL TXimpl_RelExpr.c q):=by
 refine pM Tryz.func107 Z (by kernel_rfl) Z (jI (oN as' (jA (jI (oN mv (oN (Kz.lenL H5 Z) (jD h fun g1 h=>oA (EvA.mkZ yT Z Z g1 Z Z) (oN (Kz.asg (hS false 0 0 3 ((a.length:Int).toNat)) Z) (jA (T.cut (e0:=ak [(3,hS false 0 0 3 ((Qa (a.length:Int).toNat (default:aa)).length)),(0,eL TXlaws_RelExpr.c a)]) (H0:=[bE false 0 3 63 ((Qa (a.length:Int).toNat (default:aa)).map aa.c)]) (rU Z (.cons (.rows (.repG (f:=aa.c) (.cons (.fz .v) (.cons (.fz .v) (.cons (.fz .nil0) .nil))) _)) .nil) (ah (.eqv (congrArg (hS false 0 0 3) (by simp:(a.length:Int).toNat=(Qa (a.length:Int).toNat (default:aa)).length)) (.hS (g:=false) (b:=0) (ver:=0) (s:=3) (n:=(Qa (a.length:Int).toNat (default:aa)).length) Z)) (ah (.fz (qC Z)) bq))) ?_))))))))));refine T.jF (G:=Nat) h (fun s2 gh=>True) (fun s2 gh=>[(3,hS false 0 gh 3 s2.length)]) (fun s2 gh=>[bE false gh 3 63 (s2.map aa.c)]) (fun s2 u14 h hg=>?_) (fun s2 h=>?_)
 ·refine jI (oN mv (oN (Kz.asg (hS false 0 u14 3 s2.length) Z) (jA (jK ?_))));obtain rfl:=KD h
  repeat (first|refine jd ?_|refine je ?_)
  exact jQ (vs:=[hS false 0 u14 3 s2.length]) (.cons (.tmp Z) .nil) (Fz.eqv (Fz.own (g:=false) (ver:=u14) (l:=s2) Z Z Z nofun aa.isF) (EqS.eL aa.inn_c _))
 refine jI (oN as' (jA (jE ?_)));refine jO (S:=(List aa)×Int) (G:=Nat) (bL rcf56 a) (fun s6 gh=>True) (fun s6 gh=>[(4,I s6.2),(3,hS false 0 gh 3 s6.1.length),(0,eL TXlaws_RelExpr.c a)]) (fun s6 gh=>[bE false gh 3 63 (s6.1.map aa.c)]) (s0:=((Qa (a.length:Int).toNat (default:aa)),U)) 0 h trivial (kw Z Z) (fun s6 u8 ws6 h hg=>?_);refine jH (jI (oN mv (oN mv (oN (Kz.lenL H5 Z) (oN (Kz.ilt Z Z) (jA ?_))))));refine jN Z h (fun q9 h=>?_) (fun q9 h=>?_)
 ·refine jG (jH (jE (jC (oN mv (oN mv (oN mv (oN mv (jD h fun g10 h=>oN (Kz.res (Kz.ixL H5 Z Z g10 TXlaws_RelExpr.len) (r' := .fp (ai.c (J a s6.2).out) 0) (fun _ _ hr=>mH (TXlaws_RelExpr.out_c _) hr)) (oN (lf (.agg (ai.c ((J a s6.2).out))) I6 Z) (oC h (fun _=>ih56 _) Z Z Z Z fun v11 _ h=>jD h fun g12 h=>oN (Kz.ixO (g:=false) yT Z Z nofun g12) (oV (EvA.stO (g:=false) (l:=s6.1) (cs:=[I v11.Op,St v11.Name,eL TXimpl_RelExpr.c v11.Kids]) v11 tT Z Z Z nofun (aI Z g12) Z Z Z) (jA ?_))))))))))));refine jC (oN mv (jW h fun g13 h=>oN (Kz.add Z Z g13) (oN as' (jA ?_))));obtain rfl:=KD h;exact ⟨((s6.1.set s6.2.toNat v11),(s6.2+(1:Int))),u8,Z,trivial,yV Z (Ky Z (Ky (congrArg (hS false 0 u8 3) (by simp:s6.1.length=(s6.1.set s6.2.toNat v11).length)) (Ky Z Kw)))⟩
 refine jM (lX h fun h=>?_)
 cases h
 exact ⟨u8,trivial,kw Z Z⟩
theorem rf:∀ (nf:Nat) (a:ai) {q} (h:bv nf a=some q),ax Tryz.prog 56 [.agg (ai.c a)] (.agg (aa.c q)):=by
 intro nf
 induction nf with
 | zero=>intros;rename_i h;cases h
 | succ nf ih=>
  intro a q h;replace h:fK (bv nf) a=some q:=h;refine pM Tryz.func56 Z (by kernel_rfl) Z (jI (oN (Kz.bxF [I a.Op,St a.Name,eL TXlaws_RelExpr.c a.Kids] Z Z Z) (oA (EvA.al Jl Z Z) (jA (jI (oA (EvA.al Jl Z Z) (jA (jI (oN (fa I7 Z) (oN (lf (I a.Op) KN Z) (oN (fa oU Z) (oV (sr [I a.Op,St (⟨#[]⟩:ByteArray),.nil] KN Z Z Z Z) (jA (jI (oN (fa I7 Z) ?_)))))))))))))));refine oN (lf (St a.Name) ty9 Z) (oN (fa oU Z) (oV (sr [I a.Op,St a.Name,.nil] ty9 Z Z Z Z) (jA (jI (oN (fa I7 Z) (oN (lf (eL TXlaws_RelExpr.c a.Kids) J5 Z) (oC h (fun _=>om _ ih _) Z Z Z Z fun v1 _ h=>oN (fa oU Z) (oV (sr [I a.Op,St a.Name,eL TXimpl_RelExpr.c v1] Bz Z Z Z Z) (jA (jI (oA (lh (.agg [I a.Op,St a.Name,eL TXimpl_RelExpr.c v1]) tT Z Z Z) (oV (sr [I a.Op,St a.Name,eL TXimpl_RelExpr.c v1] tT Z Z Z Z) (jA (jK ?_))))))))))))));obtain rfl:=KD h
  repeat (first|refine jd ?_|refine je ?_)
  exact jQ (vs:=[.agg [I a.Op,St a.Name,eL TXimpl_RelExpr.c v1]]) (.cons (.cell (.agg [I a.Op,St a.Name,eL TXimpl_RelExpr.c v1]) tT Z Z Z Z Z Z) .nil) (qC Z)
theorem sj (a:ai) {q} (h:lF a=some q):ax Tryz.prog 56 [.agg (ai.c a)] (.agg (aa.c q)):=by
 obtain ⟨nf,h⟩:=nC h;exact rf nf a h
theorem xa (a:au) {q} (h:l7 a=some q):ax Tryz.prog 29 [.agg (au.c a)] (.agg (ae.c q)):=by
 refine pM Tryz.func29 Z (by kernel_rfl) Z (jI (oN (Kz.bxF (au.c (⟨a.Kind,a.Expr⟩:au)) Z Z Z) (oA (EvA.al Jm Z Z) (jA (jI (oA (EvA.al Jm Z Z) (jA (jI (oN (fa Kr Z) (oN (lf (I a.Kind) KN Z) (oN (fa Ci Z) (oV (sr [I a.Kind,I U,St (⟨#[]⟩:ByteArray),.nil] KN Z Z Z Z) (jA (jI (oN (Kz.fafpS 3 Tryz.underlying55 Z (by kernel_rfl) Z Z (row2:=ai.c a.Expr)) ?_)))))))))))))));refine oN (lf (.agg (ai.c a.Expr)) I6 Z) (oC h (fun _=>sj _) Z Z Z Z fun v1 _ h=>oN (fa Ci Z) (oV (sr (ae.c (⟨a.Kind,v1⟩:ae)) tT Z Z Z Z) (jA (jI (oA (lh (.agg (ae.c (⟨a.Kind,v1⟩:ae))) EG Z Z Z) (oV (sr (ae.c (⟨a.Kind,v1⟩:ae)) EG Z Z Z Z) (jA (jK ?_))))))));obtain rfl:=KD h
 repeat (first|refine jd ?_|refine je ?_)
 exact jQ (vs:=[.agg (ae.c (⟨a.Kind,v1⟩:ae))]) (.cons (.cell (.agg (ae.c (⟨a.Kind,v1⟩:ae))) EG Z Z Z Z Z Z) .nil) (qC Z)
theorem lM (a:List au) {q} (h:fA a=some q):ax Tryz.prog 11 [eL au.c a] (eL ae.c q):=by
 refine pM Tryz.func11 Z (by kernel_rfl) Z (jI (oN as' (jA (jI (oN mv (oN (Kz.lenL H4 Z) (jD h fun g1 h=>oA (EvA.mkZ vS Z Z g1 Z Z) (oN (Kz.asg (hS false 0 0 4 ((a.length:Int).toNat)) Z) (jA (T.cut (e0:=ak [(3,hS false 0 0 4 ((Qa (a.length:Int).toNat (default:ae)).length)),(0,eL au.c a)]) (H0:=[bE false 0 4 65 ((Qa (a.length:Int).toNat (default:ae)).map ae.c)]) (rU Z (.cons (.rows (.repG (f:=ae.c) (.cons (.fz .v) (.cons (.fz .v) (.cons (.fz .v) (.cons (.fz .nil0) .nil)))) _)) .nil) (ah (.eqv (congrArg (hS false 0 0 4) (by simp:(a.length:Int).toNat=(Qa (a.length:Int).toNat (default:ae)).length)) (.hS (g:=false) (b:=0) (ver:=0) (s:=4) (n:=(Qa (a.length:Int).toNat (default:ae)).length) Z)) (ah (.fz (qC Z)) bq))) ?_))))))))));refine T.jF (G:=Nat) h (fun s2 gh=>True) (fun s2 gh=>[(3,hS false 0 gh 4 s2.length)]) (fun s2 gh=>[bE false gh 4 65 (s2.map ae.c)]) (fun s2 u14 h hg=>?_) (fun s2 h=>?_)
 ·refine jI (oN mv (oN (Kz.asg (hS false 0 u14 4 s2.length) Z) (jA (jK ?_))));obtain rfl:=KD h
  repeat (first|refine jd ?_|refine je ?_)
  exact jQ (vs:=[hS false 0 u14 4 s2.length]) (.cons (.tmp Z) .nil) (Fz.own (g:=false) (ver:=u14) (l:=s2) Z Z Z nofun ae.isF)
 refine jI (oN as' (jA (jE ?_)));refine jO (S:=(List ae)×Int) (G:=Nat) (gG a) (fun s6 gh=>True) (fun s6 gh=>[(4,I s6.2),(3,hS false 0 gh 4 s6.1.length),(0,eL au.c a)]) (fun s6 gh=>[bE false gh 4 65 (s6.1.map ae.c)]) (s0:=((Qa (a.length:Int).toNat (default:ae)),U)) 0 h trivial (kw Z Z) (fun s6 u8 ws6 h hg=>?_);refine jH (jI (oN mv (oN mv (oN (Kz.lenL H4 Z) (oN (Kz.ilt Z Z) (jA ?_))))));refine jN Z h (fun q9 h=>?_) (fun q9 h=>?_)
 ·refine jG (jH (jE (jC (oN mv (oN mv (oN mv (oN mv (jD h fun g10 h=>oN (Kz.ixL H4 Z Z g10 qD) (oN (lf (.agg (au.c (J a s6.2))) JQ Z) (oC h (fun _=>xa _) Z Z Z Z fun v11 _ h=>jD h fun g12 h=>oN (Kz.ixO (g:=false) vS Z Z nofun g12) (oV (EvA.stO (g:=false) (l:=s6.1) (cs:=(ae.c (⟨v11.Kind,v11.Expr⟩:ae))) v11 EG Z Z Z nofun (aI Z g12) Z Z Z) (jA ?_))))))))))));refine jC (oN mv (jW h fun g13 h=>oN (Kz.add Z Z g13) (oN as' (jA ?_))));obtain rfl:=KD h;exact ⟨((s6.1.set s6.2.toNat v11),(s6.2+(1:Int))),u8,Z,trivial,yV Z (Ky Z (Ky (congrArg (hS false 0 u8 4) (by simp:s6.1.length=(s6.1.set s6.2.toNat v11).length)) (Ky Z Kw)))⟩
 refine jM (lX h fun h=>?_)
 cases h
 exact ⟨u8,trivial,kw Z Z⟩
theorem uS (x:KE) {q} (h:kP x=some q):ax Tryz.prog 92 [.agg (KE.c x)] (Bo q):=by
 refine pM Tryz.func92 Z (by kernel_rfl) Z (jI (oN (Kz.bxF [I x.Op,I x.Loc,I x.Reg,I x.Val] Z Z Z) (oN as' (jA (jI (oN (fa mq Z) (oN (lf (I x.Op) KN Z) (oN (Kz.ieq Z Z) (oN mv ?_)))))))));refine TO.jB h 4 (fun s1=>[(10,Bo s1)]) (fun s1=>[]) (fun s1 q2 h js1=>?_) (fun s1 q2 h js1=>?_) (fun s1 h=>?_)
 ·refine gS Z q2 (gS Z q2 (gS Z q2 (oN (Kz.pickT Z q2 (Bo true) Z) ?_)))
  cases h
  exact js1 _ _ (kw Z Z)
 ·refine gN Z q2 (fa mq Z) (gN Z q2 (lf (I x.Op) KN Z) (gN Z q2 (Kz.ieq Z Z) (oN (Kz.pickF Z q2 (Bo (x.Op==(5:Int))) Z) ?_)))
  cases h
  exact js1 _ _ (kw Z Z)
 refine oN as' (jA (jK ?_))
 cases h
 exact aD Z Z Z
theorem tZ (x:KE) {q} (h:ji x=some q):ax Tryz.prog 93 [.agg (KE.c x)] (Bo q):=by
 refine pM Tryz.func93 Z (by kernel_rfl) Z (jI (oN (Kz.bxF [I x.Op,I x.Loc,I x.Reg,I x.Val] Z Z Z) (oN as' (jA (jI (oN (fa mq Z) (oN (lf (I x.Op) KN Z) (oN (Kz.ieq Z Z) (oN mv ?_)))))))));refine TO.jB h 4 (fun s1=>[(10,Bo s1),(1,.fp (KE.c x) 0)]) (fun s1=>[]) (fun s1 q2 h js1=>?_) (fun s1 q2 h js1=>?_) (fun s1 h=>?_)
 ·refine gS Z q2 (gS Z q2 (gS Z q2 (oN (Kz.pickT Z q2 (Bo true) Z) ?_)))
  cases h
  exact js1 _ _ (kw Z Z)
 ·refine gN Z q2 (fa mq Z) (gN Z q2 (lf (I x.Op) KN Z) (gN Z q2 (Kz.ieq Z Z) (oN (Kz.pickF Z q2 (Bo (x.Op==(3:Int))) Z) ?_)))
  cases h
  exact js1 _ _ (kw Z Z)
 refine oN mv ?_;refine TO.jB h 4 (fun s3=>[(15,Bo s3)]) (fun s3=>[]) (fun s3 q4 h js3=>?_) (fun s3 q4 h js3=>?_) (fun s3 h=>?_)
 ·refine gS Z q4 (gS Z q4 (gS Z q4 (oN (Kz.pickT Z q4 (Bo true) Z) ?_)))
  cases h
  exact js3 _ _ (kw Z Z)
 ·refine gN Z q4 (fa mq Z) (gN Z q4 (lf (I x.Op) KN Z) (gN Z q4 (Kz.ieq Z Z) (oN (Kz.pickF Z q4 (Bo (x.Op==(5:Int))) Z) ?_)))
  cases h
  exact js3 _ _ (kw Z Z)
 refine oN as' (jA (jK ?_))
 cases h
 exact aD Z Z Z
theorem gV (p:List (List KE)) {q} (h:cu p=some q):ax Tryz.prog 44 [eL (cL KE.c) p] (eL KH.c q):=by
 refine pM Tryz.func44 Z (by kernel_rfl) Z (jI (oN as' (jA (jI (oA (EvA.mkO (c:=KH.c) ([]:List KH) [] mR Z Z Z qD Z Z) (oN (Kz.asg (hS false 0 0 5 (([]:List KH).length)) Z) (jA ?_)))))));refine T.jF (G:=Nat) h (fun s1 gh=>True) (fun s1 gh=>[(3,hS false 0 gh 5 s1.length),(0,eL (cL KE.c) p)]) (fun s1 gh=>[bE false gh 5 80 (s1.map KH.c)]) (fun s1 u11 h hg=>?_) (fun s1 h=>?_)
 ·refine T.jF (G:=Nat) h (fun s12 gh=>True) (fun s12 gh=>[(3,hS false 0 gh 5 s12.length)]) (fun s12 gh=>[bE false gh 5 80 (s12.map KH.c)]) (fun s12 u39 h hg=>?_) (fun s12 h=>?_)
  ·refine jI (oN mv (oN (Kz.asg (hS false 0 u39 5 s12.length) Z) (jA (jK ?_))));obtain rfl:=KD h
   repeat (first|refine jd ?_|refine je ?_)
   exact jQ (vs:=[hS false 0 u39 5 s12.length]) (.cons (.tmp Z) .nil) (Fz.own (g:=false) (ver:=u39) (l:=s12) Z Z Z nofun KH.isF)
  refine jI (oN as' (jA (jE ?_)));refine jO (S:=(List KH)×Int) (G:=Nat) (iL p) (fun s16 gh=>True) (fun s16 gh=>[(5,I s16.2),(3,hS false 0 gh 5 s16.1.length),(0,eL (cL KE.c) p)]) (fun s16 gh=>[bE false gh 5 80 (s16.1.map KH.c)]) (s0:=(s1,U)) u11 h trivial (kw Z Z) (fun s16 u18 ws16 h hg=>?_);refine jH (jI (oN mv (oN mv (oN (Kz.lenL yj Z) (oN (Kz.ilt Z Z) (jA ?_))))));refine jN Z h (fun q19 h=>?_) (fun q19 h=>?_)
  ·refine jG ?_;refine T.jF (G:=Nat) h (fun s20 gh=>True) (fun s20 gh=>[(5,I s16.2),(3,hS false 0 gh 5 s20.length),(0,eL (cL KE.c) p)]) (fun s20 gh=>[bE false gh 5 80 (s20.map KH.c)]) (fun s20 u37 h hg=>?_) (fun s20 h=>?_)
   ·refine jC (oN mv (jW h fun g38 h=>oN (Kz.add Z Z g38) (oN as' (jA ?_))));obtain rfl:=KD h;exact ⟨(s20,(s16.2+V)),u37,Z,trivial,kw Z Z⟩
   refine jE (jI (oN as' (jA (jE ?_))));refine jO (S:=(List KH)×Int) (G:=Nat) (iK p s16) (fun s24 gh=>True) (fun s24 gh=>[(6,I s24.2),(5,I s16.2),(3,hS false 0 gh 5 s24.1.length),(0,eL (cL KE.c) p)]) (fun s24 gh=>[bE false gh 5 80 (s24.1.map KH.c)]) (s0:=(s16.1,U)) u18 h trivial (kw Z Z) (fun s24 u26 ws24 h hg=>?_);refine jH (jI (oN mv (oN mv (oN mv (jD h fun g27 h=>oN (Kz.ixL yj Z Z g27 qD) (oN (lf (eL KE.c (J p s16.2)) AK Z) (oN (Kz.lenL xB Z) (oN (Kz.ilt Z Z) (jA ?_)))))))));refine jN Z h (fun q28 h=>?_) (fun q28 h=>?_)
   ·refine jG ?_;refine T.jF (G:=Nat) h (fun s29 gh=>True) (fun s29 gh=>[(3,hS false 0 gh 5 s29.length),(6,I s24.2),(5,I s16.2),(0,eL (cL KE.c) p)]) (fun s29 gh=>[bE false gh 5 80 (s29.map KH.c)]) (fun s29 u35 h hg=>?_) (fun s29 h=>?_)
    ·refine jC (oN mv (jW h fun g36 h=>oN (Kz.add Z Z g36) (oN as' (jA ?_))));obtain rfl:=KD h;exact ⟨(s29,(s24.2+V)),u35,Z,trivial,kw Z Z⟩
    refine jE (jI (oN mv (oN mv (oN (Kz.ixL yj Z Z g27 qD) (oN (lf (eL KE.c (J p s16.2)) AK Z) (oN mv (jD h fun g30 h=>oN (Kz.ixL xB Z Z g30 qD) (oN (lf (.agg (KE.c (J (J p s16.2) s24.2))) xp Z) (oA (EvA.al Hu Z Z) (oV (sr (KE.c (J (J p s16.2) s24.2)) xp Z Z Z Z) (jA (jI (oN (fa mq Z) (oA (lh (I ((J (J p s16.2) s24.2).Op)) KN Z Z Z) ?_))))))))))))));refine oN (Kz.ine Z Z) (jA ?_);refine jN Z h (fun q31 h=>?_) (fun q31 h=>?_)
    ·refine T.clean (H0:=[bE false u26 5 80 (s24.1.map KH.c),some ⟨0,4,90,[(KE.c (J (J p s16.2) s24.2))]⟩]) (e0:=ak [(7,.hp 1 0 4 0 0),(6,I s24.2),(5,I s16.2),(3,hS false 0 u26 5 s24.1.length),(0,eL (cL KE.c) p)]) Z (Ky Z (Ky Z (Ky Z (Ky Z (Ky Z Kw))))) (jP (dG [dF,dF,dF,dF,([1],false),([1],false),dF,([1],false),dF,dF,dF,([0],true),dF]) (by kernel_rfl) (by kernel_rfl) (fN Z mv (fN Z mv (fN Z mv (fN Z (fa mq Z) (fR [1] Z (fun G hG=>EvA.loadhp (I ((J (J p s16.2) s24.2).Loc)) KN Z (hG.a0 Z) Z Z Z Z) (fR [1] Z (fun G hG=>EvA.loadhp (.agg (KE.c (J (J p s16.2) s24.2))) xp Z (hG.a0 Z) Z Z Z Z) (fC h (fun _=>uS _) Z Z Z Z Z fun v32 _ h=>fR [1] Z (fun G hG=>EvA.loadhp (.agg (KE.c (J (J p s16.2) s24.2))) xp Z (hG.a0 Z) Z Z Z Z) (fC h (fun _=>tZ _) Z Z Z Z Z fun v33 _ h=>fN Z (Kz.build [I s16.2,I s24.2,I ((J (J p s16.2) s24.2).Loc),Bo v32,Bo v33] Tryz.underlying80 zU cg Z Z) (fN Z (Kz.mkF (c:=KH.c) ([(⟨s16.2,s24.2,(J (J p s16.2) s24.2).Loc,v32,v33⟩:KH)]:List KH) [[I s16.2,I s24.2,I ((J (J p s16.2) s24.2).Loc),Bo v32,Bo v33]] mR Z Z Z qD KH.isF Z) (jL h fun g34 h=>fW 0 [] Z Z (fun G hG=>EvA.app1 (g:=false) (l:=s24.1) (⟨s16.2,s24.2,(J (J p s16.2) s24.2).Loc,v32,v33⟩:KH) mR (by kernel_rfl) Z Z (hG.a0 Z) nofun (bK.fz (l:=([(⟨s16.2,s24.2,(J (J p s16.2) s24.2).Loc,v32,v33⟩:KH)]:List KH)) Z qD) g34) (fN Z (Kz.asg (hS false 0 (u26+1) 5 ((s24.1++[(⟨s16.2,s24.2,(J (J p s16.2) s24.2).Loc,v32,v33⟩:KH)]).length)) Z) ?_))))))))))));refine jR ?_;obtain rfl:=KD h;exact ⟨u26+1,trivial,rU Z (.cons (.list (g:=false) (ver:=u26+1) (l:=(s24.1++[(⟨s16.2,s24.2,(J (J p s16.2) s24.2).Loc,v32,v33⟩:KH)])) KH.isF) .nil) (ah (.hS (g:=false) (b:=0) (ver:=u26+1) (s:=5) (n:=(s24.1++[(⟨s16.2,s24.2,(J (J p s16.2) s24.2).Loc,v32,v33⟩:KH)]).length) Z) (ah (.fz (qC Z)) (ah (.fz (qC Z)) (ah (.fz (qC Z)) bq))))⟩
    refine jG ?_;obtain rfl:=KD h;exact ⟨u26,trivial,rU Z (.cons (.list (g:=false) (ver:=u26) (l:=s24.1) KH.isF) .nil) (ah (.hS (g:=false) (b:=0) (ver:=u26) (s:=5) (n:=s24.1.length) Z) (ah (.fz (qC Z)) (ah (.fz (qC Z)) (ah (.fz (qC Z)) bq))))⟩
   refine jM (lX h fun h=>?_)
   cases h
   exact ⟨u26,trivial,kw Z Z⟩
  refine jM (lX h fun h=>?_)
  cases h
  exact ⟨u18,trivial,kw Z Z⟩
 refine jI (oN as' (jA (jE ?_)));refine jO (S:=(List KH)×Int) (G:=Nat) jk (fun s5 gh=>True) (fun s5 gh=>[(4,I s5.2),(3,hS false 0 gh 5 s5.1.length),(0,eL (cL KE.c) p)]) (fun s5 gh=>[bE false gh 5 80 (s5.1.map KH.c)]) (s0:=(([]:List KH),U)) 0 h trivial (kw Z Z) (fun s5 u7 ws5 h hg=>?_);let d0:=(⟨(-1:Int),s5.2,s5.2,false,true⟩:KH);refine jH (jI (oN mv (oN (Kz.ile Z Z) (jA ?_))));refine jN Z h (fun q8 h=>?_) (fun q8 h=>?_)
 ·refine jG (jH (jE (jC (oN mv (oN mv (oN mv (oN (Kz.build [I (-1:Int),I s5.2,I s5.2,Bo false,Bo true] Tryz.underlying80 zU cg Z Z) (oN (Kz.mkF (c:=KH.c) ([d0]:List KH) [[I (-1:Int),I s5.2,I s5.2,Bo false,Bo true]] mR Z Z Z qD KH.isF Z) (jL h fun g9 h=>oA (EvA.app1 (g:=false) (l:=s5.1) d0 mR (by kernel_rfl) Z Z Z nofun (bK.fz (l:=([d0]:List KH)) Z qD) g9) (oN (Kz.asg (hS false 0 (u7+1) 5 ((s5.1++[d0]).length)) Z) (jA (jC (oN mv (jW h fun g10 h=>?_))))))))))))));refine oN (Kz.add Z Z g10) (oN as' (jA ?_));obtain rfl:=KD h;exact ⟨((s5.1++[d0]),(s5.2+V)),u7+1,Z,trivial,kw Z Z⟩
 refine jM (lX h fun h=>?_)
 cases h
 exact ⟨u7,trivial,kw Z Z⟩
theorem ny (events:List KH) (loc:Int) {q} (h:eY events loc=some q):ax Tryz.prog 46 [eL KH.c events,I loc] (eL cI q):=by
 refine pM Tryz.func46 Z (by kernel_rfl) Z (jI (oN as' (jA (jI (oA (EvA.mkO (c:=cI) ([]:LI) [] aK Z Z Z qD Z Z) (oN (Kz.asg (hS false 0 0 1 (([]:LI).length)) Z) (jA ?_)))))));refine T.jF (G:=Nat) h (fun s1 gh=>True) (fun s1 gh=>[(5,hS false 0 gh 1 s1.length)]) (fun s1 gh=>[bE false gh 1 3 (s1.map cI)]) (fun s1 u17 h hg=>?_) (fun s1 h=>?_)
 ·refine jI (oN mv (oN (Kz.asg (hS false 0 u17 1 s1.length) Z) (jA (jK ?_))));obtain rfl:=KD h
  repeat (first|refine jd ?_|refine je ?_)
  exact jQ (vs:=[hS false 0 u17 1 s1.length]) (.cons (.tmp Z) .nil) (Fz.own (g:=false) (ver:=u17) (l:=s1) Z Z Z nofun qD)
 refine jI (oN as' (jA (jE ?_)));refine jO (S:=(LI)×Int) (G:=Nat) (iM events loc) (fun s5 gh=>True) (fun s5 gh=>[(6,I s5.2),(5,hS false 0 gh 1 s5.1.length),(0,eL KH.c events),(1,I loc)]) (fun s5 gh=>[bE false gh 1 3 (s5.1.map cI)]) (s0:=(([]:LI),U)) 0 h trivial (kw Z Z) (fun s5 u7 ws5 h hg=>?_);refine jH (jI (oN mv (oN mv (oN (Kz.lenL mR Z) (oN (Kz.ilt Z Z) (jA ?_))))));refine jN Z h (fun q8 h=>?_) (fun q8 h=>?_)
 ·refine jG ?_;refine T.jF (G:=Nat) h (fun s9 gh=>True) (fun s9 gh=>[(5,hS false 0 gh 1 s9.length),(6,I s5.2),(0,eL KH.c events),(1,I loc)]) (fun s9 gh=>[bE false gh 1 3 (s9.map cI)]) (fun s9 u15 h hg=>?_) (fun s9 h=>?_)
  ·refine jC (oN mv (jW h fun g16 h=>oN (Kz.add Z Z g16) (oN as' (jA ?_))));obtain rfl:=KD h;exact ⟨(s9,(s5.2+V)),u15,Z,trivial,kw Z Z⟩
  refine jE (jI (oN mv (oN mv (jD h fun g10 h=>oN (Kz.ixL mR Z Z g10 qD) (oN (fa cg Z) (oN (lf (Bo ((J events s5.2).aC)) ty4 Z) (oN mv ?_)))))));refine TO.jB h 8 (fun s11=>[(27,Bo s11),(6,I s5.2),(5,hS false 0 u7 1 s5.1.length),(0,eL KH.c events),(1,I loc)]) (fun s11=>[bE false u7 1 3 (s5.1.map cI)]) (fun s11 q12 h js11=>?_) (fun s11 q12 h js11=>?_) (fun s11 h=>?_)
  ·refine gN Z q12 mv (gN Z q12 mv (gN Z q12 (Kz.ixL mR Z Z g10 qD) (gN Z q12 (fa cg Z) (gN Z q12 (lf (I ((J events s5.2).Loc)) KN Z) (gN Z q12 mv (gN Z q12 (Kz.ieq Z Z) (oN (Kz.pickT Z q12 (Bo (((J events s5.2).Loc)==loc)) Z) ?_)))))))
   cases h
   exact js11 _ _ (kw Z Z)
  ·refine gS Z q12 (gS Z q12 (gS Z q12 (gS Z q12 (gS Z q12 (gS Z q12 (gS Z q12 (oN (Kz.pickF Z q12 (Bo false) Z) ?_)))))))
   cases h
   exact js11 _ _ (kw Z Z)
  refine jA ?_;refine jN Z h (fun q13 h=>?_) (fun q13 h=>?_)
  ·refine jC (oN mv (oN mv (oN (Kz.mkF (c:=cI) ([s5.2]:LI) [[I s5.2]] aK Z Z Z qD qD Z) (jL h fun g14 h=>oA (EvA.app1 (g:=false) (l:=s5.1) s5.2 aK (by kernel_rfl) Z Z Z nofun (bK.fz (l:=([s5.2]:LI)) Z qD) g14) (oN (Kz.asg (hS false 0 (u7+1) 1 ((s5.1++[s5.2]).length)) Z) (jA ?_))))))
   cases h
   exact ⟨u7+1,trivial,kw Z Z⟩
  refine jG ?_
  cases h
  exact ⟨u7,trivial,kw Z Z⟩
 refine jM (lX h fun h=>?_)
 cases h
 exact ⟨u7,trivial,kw Z Z⟩
theorem iI (list:LI) (n:Int) {q} (h:dE list n=some q):ax Tryz.prog 45 [eL cI list,I n] (I q):=by
 refine pM Tryz.func45 Z (by kernel_rfl) Z (jI (oN as' (jA ?_)));obtain ⟨Ks1,es1,ws1,h,ks1⟩:=mX h;refine T.join (S:=Unit) (G:=Unit) (fun s1=>Ks1 s1=some q) (fun s1 gh=>True) (fun s1 gh=>[]) (fun s1 gh=>[]) (fun s1 gh h hg=>?_) ?_
 ·clear ks1;subst es1;refine jI (oN as' (jA (jK ?_)))
  cases h
  exact aD Z Z Z
 refine jI (oN as' (jA (jE ?_)));refine T.lU h (fun s4=>[(5,I s4),(0,eL cI list),(1,I n)]) (fun s4=>[]) (kw Z Z) (fun s4 ws4 h=>?_);refine jH (jI (oN mv (oN mv (oN (Kz.lenL aK Z) (oN (Kz.ilt Z Z) (jA ?_))))));refine jN Z h (fun q6 h=>?_) (fun q6 h=>?_)
 ·refine jG (jH (jE (jI (oN mv (oN mv (jD h fun g7 h=>oN (Kz.ixL aK Z Z g7 qD) (oN (lf (I (J list s4)) KN Z) (oN mv (oN (Kz.ieq Z Z) (jA ?_))))))))));refine jN Z h (fun q8 h=>?_) (fun q8 h=>?_)
  ·refine jI (oN mv (oN as' (jA (jK (lX h fun h=>?_)))));obtain rfl:=KD h;replace h:=congrArg some (show _=_ from ks1)
   cases h
   exact aD Z Z Z
  refine jG (jC (oN mv (jW h fun g9 h=>oN (Kz.add Z Z g9) (oN as' (jA ?_)))));exact lE h (kw Z Z)
 refine jM (lX h fun h=>?_)
 cases h
 exact ⟨(),(),ks1,trivial,kw Z Z⟩
theorem uT (list:LI) (writers:LI) {q} (h:kQ list writers=some q):ax Tryz.prog 47 [eL cI list,eL cI writers] (Bo q):=by
 refine pM Tryz.func47 Z (by kernel_rfl) Z (jI (oN as' (jA ?_)));obtain ⟨Ks1,es1,ws1,h,ks1⟩:=mX h;refine T.join (S:=Unit) (G:=Unit) (fun s1=>Ks1 s1=some q) (fun s1 gh=>True) (fun s1 gh=>[(0,eL cI list),(1,eL cI writers)]) (fun s1 gh=>[]) (fun s1 gh h hg=>?_) ?_
 ·clear ks1;subst es1;obtain ⟨Ks7,es7,ws7,h,ks7⟩:=mX h;refine T.join (S:=Unit) (G:=Unit) (fun s7=>Ks7 s7=some q) (fun s7 gh=>True) (fun s7 gh=>[]) (fun s7 gh=>[]) (fun s7 gh h hg=>?_) ?_
  ·clear ks7;subst es7;refine jI (oN as' (jA (jK ?_)))
   cases h
   exact aD Z Z Z
  refine jI (oN as' (jA (jE ?_)));refine T.lU h (fun s10=>[(5,I s10),(0,eL cI list),(1,eL cI writers)]) (fun s10=>[]) (kw Z Z) (fun s10 ws10 h=>?_);refine jH (jI (oN mv (oN mv (oN (Kz.lenL aK Z) (oN (Kz.ilt Z Z) (jA ?_))))));refine jN Z h (fun q12 h=>?_) (fun q12 h=>?_)
  ·refine jG (jH (jE (jI (oN mv (oN mv (oN mv (jD h fun g13 h=>oN (Kz.ixL aK Z Z g13 qD) (oN (lf (I (J writers s10)) KN Z) (oC h (fun _=>iI _ _) Z Z Z Z fun v14 _ h=>oN (Kz.ilt Z Z) (jA ?_))))))))));refine jN Z h (fun q15 h=>?_) (fun q15 h=>?_)
   ·refine jI (oN as' (jA (jK (lX h fun h=>?_))));obtain rfl:=KD h;replace h:=congrArg some (show _=_ from ks7)
    cases h
    exact aD Z Z Z
   refine jG (jC (oN mv (jW h fun g16 h=>oN (Kz.add Z Z g16) (oN as' (jA ?_)))));exact lE h (kw Z Z)
  refine jM (lX h fun h=>?_)
  cases h
  exact ⟨(),(),ks7,trivial,kw Z Z⟩
 refine T.jU h (fun s2=>[(19,Bo s2),(0,eL cI list),(1,eL cI writers)]) (fun s2=>[]) (fun s2 h=>?_) (fun s2 h=>?_)
 ·refine jN Z h (fun q6 h=>?_) (fun q6 h=>?_)
  ·refine jI (oN as' (jA (jK ?_)));obtain rfl:=KD h;replace h:=congrArg some (show _=_ from ks1)
   cases h
   exact aD Z Z Z
  refine jG ?_
  cases h
  exact ⟨(),(),ks1,trivial,kw Z Z⟩
 refine T.drawG (fun _=>([],false)) (by kernel_rfl) (by kernel_rfl) (tN Z mv (tN Z (Kz.lenL aK Z) (tN Z mv (tN Z (Kz.lenL aK Z) (tN Z (Kz.ine Z Z) (tN Z mv ?_))))));rcases uB h with ⟨q3,h⟩ | ⟨q3,h⟩
 ·refine KP Z q3 (KP Z q3 (KP Z q3 (KP Z q3 (KP Z q3 (KP Z q3 (KP Z q3 (tN Z (Kz.pickT Z q3 (Bo true) Z) (TG.nil ?_))))))))
  cases h
  exact ⟨(),trivial,kw Z Z⟩
 refine KO Z q3 Z mv (jD h fun g4 h=>KO Z q3 Z (Kz.ixL aK Z Z g4 qD) (KO Z q3 Z (lf (I (J list U)) KN Z) (KO Z q3 Z mv (jD h fun g5 h=>KO Z q3 Z (Kz.ixL aK Z Z g5 qD) (KO Z q3 Z (lf (I (J writers U)) KN Z) (KO Z q3 Z (Kz.ine Z Z) (tN Z (Kz.pickF Z q3 (Bo ((J list U) != (J writers U))) Z) (TG.nil ?_))))))))
 cases h
 exact ⟨(),trivial,kw Z Z⟩
theorem su (p:List (List KE)) (x:KG) {q} (h:eZ p x=some q):ax Tryz.prog 24 [eL (cL KE.c) p,.agg (KG.c x)] (Bo q):=by
 refine pM Tryz.func24 Z (by kernel_rfl) Z (jI (oN (Kz.bxF (KG.c x) Z Z Z) (oN as' (jA (jH (jI (oN mv (oC h (fun _=>pW _) Z Z Z Z fun v1 _ h=>oN (Kz.not Z) (jA ?_)))))))));refine jN Z h (fun q2 h=>?_) (fun q2 h=>?_)
 ·refine jI (oN as' (jA (jK ?_)))
  cases h
  exact aD Z Z Z
 refine jG (jI (oN mv (oC h (fun _=>gV _) Z Z Z Z fun v3 _ h=>oN as' (jA (jH (jI (oN (fa uG Z) (oN (lf (eL cI x.From) nu Z) (oN (Kz.lenL aK Z) (oN mv (oN (Kz.lenL mR Z) (oN (Kz.ine Z Z) (oN mv ?_)))))))))))));refine TO.jB h 5 (fun s4=>[(24,Bo s4),(5,eL KH.c v3),(3,.fp (KG.c x) 0)]) (fun s4=>[]) (fun s4 q5 h js4=>?_) (fun s4 q5 h js4=>?_) (fun s4 h=>?_)
 ·refine gS Z q5 (gS Z q5 (gS Z q5 (gS Z q5 (oN (Kz.pickT Z q5 (Bo true) Z) ?_))))
  cases h
  exact js4 _ _ (kw Z Z)
 ·refine gN Z q5 (fa uG Z) (gN Z q5 (lf (eL (cL cI) x.Order) Cf Z) (gN Z q5 (Kz.lenL pU Z) (gN Z q5 (Kz.ine Z Z) (oN (Kz.pickF Z q5 (Bo ((x.Order.length:Int) != (3:Int))) Z) ?_))))
  cases h
  exact js4 _ _ (kw Z Z)
 refine jA ?_;refine jN Z h (fun q6 h=>?_) (fun q6 h=>?_)
 ·refine jI (oN as' (jA (jK ?_)))
  cases h
  exact aD Z Z Z
 refine jG ?_;obtain ⟨Ks7,es7,ws7,h,ks7⟩:=mX h;refine T.join (S:=Unit) (G:=Unit) (fun s7=>Ks7 s7=some q) (fun s7 gh=>True) (fun s7 gh=>[(5,eL KH.c v3),(3,.fp (KG.c x) 0)]) (fun s7 gh=>[]) (fun s7 gh h hg=>?_) ?_
 ·clear ks7;subst es7;obtain ⟨Ks31,es31,ws31,h,ks31⟩:=mX h;refine T.join (S:=Unit) (G:=Unit) (fun s31=>Ks31 s31=some q) (fun s31 gh=>True) (fun s31 gh=>[]) (fun s31 gh=>[]) (fun s31 gh h hg=>?_) ?_
  ·clear ks31;subst es31;refine jI (oN as' (jA (jK ?_)))
   cases h
   exact aD Z Z Z
  refine jI (oN as' (jA (jE ?_)));refine T.lU h (fun s34=>[(7,I s34),(5,eL KH.c v3),(3,.fp (KG.c x) 0)]) (fun s34=>[]) (kw Z Z) (fun s34 ws34 h=>?_);refine jH (jI (oN mv (oN (Kz.ile Z Z) (jA ?_))));refine jN Z h (fun q36 h=>?_) (fun q36 h=>?_)
  ·refine jG (jH (jE (jH (jP (fun _=>([],false)) (by kernel_rfl) (by kernel_rfl) (fN Z (fa uG Z) (fN Z (lf (eL (cL cI) x.Order) Cf Z) (fN Z mv (jD h fun g37 h=>fN Z (Kz.ixL pU Z Z g37 qD) (fN Z (lf (eL cI (J x.Order s34)) nu Z) (fN Z mv (fN Z mv (fC h (fun _=>ny _ _) Z Z Z Z Z fun v38 _ h=>fC h (fun _=>uT _ _) Z Z Z Z Z fun v39 _ h=>fN Z (Kz.not Z) ?_))))))))))));refine jR ?_;refine jN Z h (fun q40 h=>?_) (fun q40 h=>?_)
   ·refine jI (oN as' (jA (jK (lX h fun h=>?_))));obtain rfl:=KD h;replace h:=congrArg some (show _=_ from ks31)
    cases h
    exact aD Z Z Z
   refine jG (jC (oN mv (jW h fun g41 h=>oN (Kz.add Z Z g41) (oN as' (jA ?_)))));exact lE h (kw Z Z)
  refine jM (lX h fun h=>?_)
  cases h
  exact ⟨(),(),ks31,trivial,kw Z Z⟩
 refine jI (oN as' (jA (jE ?_)));refine T.lU h (fun s10=>[(6,I s10),(5,eL KH.c v3),(3,.fp (KG.c x) 0)]) (fun s10=>[]) (kw Z Z) (fun s10 ws10 h=>?_);let d0:=x.From.getD s10.toNat default;refine jH (jI (oN mv (oN mv (oN (Kz.lenL mR Z) (oN (Kz.ilt Z Z) (jA ?_))))));refine jN Z h (fun q12 h=>?_) (fun q12 h=>?_)
 ·refine jG ?_;obtain ⟨Ks13,es13,ws13,h,ks13⟩:=mX h;refine T.join (S:=Unit) (G:=Unit) (fun s13=>Ks13 s13=some ws10) (fun s13 gh=>True) (fun s13 gh=>[(6,I s10),(5,eL KH.c v3),(3,.fp (KG.c x) 0)]) (fun s13 gh=>[]) (fun s13 gh h hg=>?_) ?_
  ·clear ks13;subst es13;refine jC (oN mv (jW h fun g30 h=>oN (Kz.add Z Z g30) (oN as' (jA ?_))));exact lE h (kw Z Z)
  refine jE ?_;obtain ⟨Ks14,es14,ws14,h,ks14⟩:=mX h;refine T.join (S:=Unit) (G:=Unit) (fun s14=>Ks14 s14=some ws13) (fun s14 gh=>True) (fun s14 gh=>[(6,I s10),(5,eL KH.c v3),(3,.fp (KG.c x) 0)]) (fun s14 gh=>[]) (fun s14 gh h hg=>?_) ?_
  ·clear ks14;subst es14;refine jI (oN mv (oN mv (jD h fun g22 h=>oN (Kz.ixL mR Z Z g22 qD) (oN (fa cg Z) (oN (lf (Bo ((J v3 s10).Reads)) ty4 Z) (oN (Kz.not Z) (oN mv ?_)))))));refine TO.jB h 7 (fun s23=>[(65,Bo s23),(6,I s10),(5,eL KH.c v3),(3,.fp (KG.c x) 0)]) (fun s23=>[]) (fun s23 q24 h js23=>?_) (fun s23 q24 h js23=>?_) (fun s23 h=>?_)
   ·refine gN Z q24 (fa uG Z) (gN Z q24 (lf (eL cI x.From) nu Z) (gN Z q24 mv (jD h fun g25 h=>gN Z q24 (Kz.ixL aK Z Z g25 qD) (gN Z q24 (lf (I d0) KN Z) (gN Z q24 (Kz.ine Z Z) (oN (Kz.pickT Z q24 (Bo (d0 != (-1:Int))) Z) ?_))))))
    cases h
    exact js23 _ _ (kw Z Z)
   ·refine gS Z q24 (gS Z q24 (gS Z q24 (gS Z q24 (gS Z q24 (gS Z q24 (oN (Kz.pickF Z q24 (Bo false) Z) ?_))))))
    cases h
    exact js23 _ _ (kw Z Z)
   refine oN mv ?_;refine TO.jB h 8 (fun s26=>[(74,Bo s26),(6,I s10),(5,eL KH.c v3),(3,.fp (KG.c x) 0)]) (fun s26=>[]) (fun s26 q27 h js26=>?_) (fun s26 q27 h js26=>?_) (fun s26 h=>?_)
   ·refine gS Z q27 (gS Z q27 (gS Z q27 (gS Z q27 (gS Z q27 (gS Z q27 (gS Z q27 (oN (Kz.pickT Z q27 (Bo true) Z) ?_)))))))
    cases h
    exact js26 _ _ (kw Z Z)
   ·refine gN Z q27 (fa uG Z) (gN Z q27 (lf (eL cI x.From) nu Z) (gN Z q27 mv (jD h fun g28 h=>gN Z q27 (Kz.ixL aK Z Z g28 qD) (gN Z q27 (lf (I d0) KN Z) (gN Z q27 mv (gN Z q27 (Kz.ieq Z Z) (oN (Kz.pickF Z q27 (Bo (d0==s10)) Z) ?_)))))))
    cases h
    exact js26 _ _ (kw Z Z)
   refine jA ?_;refine jN Z h (fun q29 h=>?_) (fun q29 h=>?_)
   ·refine jI (oN as' (jA (jK ?_)));obtain rfl:=KD h;replace h:=congrArg some (show _=_ from ks13);refine lX h fun h=>?_;obtain rfl:=KD h;replace h:=congrArg some (show _=_ from ks7)
    cases h
    exact aD Z Z Z
   refine jG ?_
   cases h
   exact ⟨(),(),ks13,trivial,kw Z Z⟩
  refine T.jU h (fun s15=>[(51,Bo s15),(6,I s10),(5,eL KH.c v3),(3,.fp (KG.c x) 0)]) (fun s15=>[]) (fun s15 h=>?_) (fun s15 h=>?_)
  ·refine jN Z h (fun q21 h=>?_) (fun q21 h=>?_)
   ·refine jI (oN as' (jA (jK ?_)));obtain rfl:=KD h;replace h:=congrArg some (show _=_ from ks14);obtain rfl:=KD h;replace h:=congrArg some (show _=_ from ks13);refine lX h fun h=>?_;obtain rfl:=KD h;replace h:=congrArg some (show _=_ from ks7)
    cases h
    exact aD Z Z Z
   refine jG ?_
   cases h
   exact ⟨(),(),ks14,trivial,kw Z Z⟩
  refine T.drawG (fun _=>([],false)) (by kernel_rfl) (by kernel_rfl) (tN Z mv (tN Z mv (jD h fun g16 h=>tN Z (Kz.ixL mR Z Z g16 qD) (tN Z (fa cg Z) (tN Z (lf (Bo ((J v3 s10).Reads)) ty4 Z) (tN Z mv ?_))))));rcases uB h with ⟨q17,h⟩ | ⟨q17,h⟩
  ·refine KO Z q17 Z mv (KO Z q17 Z mv (KO Z q17 Z mv (KO Z q17 Z (Kz.ixL mR Z Z g16 qD) (KO Z q17 Z (fa cg Z) (KO Z q17 Z (lf (I ((J v3 s10).Loc)) KN Z) (jB h fun v18 cv18 h=>KO Z q17 Z (Kz.call Z Z Z (ny v3 ((J v3 s10).Loc) cv18) Z) (KO Z q17 Z (fa uG Z) (KO Z q17 Z (lf (eL cI x.From) nu Z) (KO Z q17 Z mv (jD h fun g19 h=>KO Z q17 Z (Kz.ixL aK Z Z g19 qD) (KO Z q17 Z (lf (I d0) KN Z) (jB h fun v20 cv20 h=>KO Z q17 Z (Kz.call Z Z Z (iI v18 d0 cv20) Z) ?_))))))))))));refine KO Z q17 Z (Kz.ilt Z Z) (tN Z (Kz.pickT Z q17 (Bo (decide (v20<U))) Z) (TG.nil ?_))
   cases h
   exact ⟨(),trivial,kw Z Z⟩
  refine KP Z q17 (KP Z q17 (KP Z q17 (KP Z q17 (KP Z q17 (KP Z q17 (KP Z q17 (KP Z q17 (KP Z q17 (KP Z q17 (KP Z q17 (KP Z q17 (KP Z q17 (KP Z q17 (tN Z (Kz.pickF Z q17 (Bo false) Z) (TG.nil ?_)))))))))))))))
  cases h
  exact ⟨(),trivial,kw Z Z⟩
 refine jM (lX h fun h=>?_)
 cases h
 exact ⟨(),(),ks7,trivial,kw Z Z⟩
theorem xb (op:Int) {q} (h:jl op=some q):ax Tryz.prog 143 [I op] (I q):=by
 refine pM Tryz.func143 Z (by kernel_rfl) Z (jI (oN as' (jA (jH (jI (oN mv (jA (jE (jI (oN (Kz.ieq Z Z) (oN as' (jA ?_))))))))))));refine jN Z h (fun q1 h=>?_) (fun q1 h=>?_)
 ·refine jI (oN as' (jA (jK ?_)))
  cases h
  exact aD Z Z Z
 refine T.jU h (fun s2=>[(6,Bo s2),(3,I op)]) (fun s2=>[]) (fun s2 h=>?_) (fun s2 h=>?_)
 ·refine jN Z h (fun q6 h=>?_) (fun q6 h=>?_)
  ·refine jI (oN as' (jA (jK ?_)))
   cases h
   exact aD Z Z Z
  refine T.jU h (fun s7=>[(11,Bo s7)]) (fun s7=>[]) (fun s7 h=>?_) (fun s7 h=>?_)
  ·refine jN Z h (fun q9 h=>?_) (fun q9 h=>?_)
   ·refine jI (oN as' (jA (jK ?_)))
    cases h
    exact aD Z Z Z
   refine jG (jI (oN as' (jA (jK ?_))))
   cases h
   exact aD Z Z Z
  refine jI (oN (Kz.ieq Z Z) (oN as' (jA ?_)));refine jN Z h (fun q8 h=>?_) (fun q8 h=>?_)
  ·refine jG ?_
   cases h
   exact ⟨(),trivial,kw Z Z⟩
  refine jC (oN (Kz.ieq Z Z) (oN as' (jA ?_)))
  cases h
  exact ⟨(),trivial,kw Z Z⟩
 refine jI (oN (Kz.ieq Z Z) (oN as' (jA ?_)));refine jN Z h (fun q3 h=>?_) (fun q3 h=>?_)
 ·refine jG ?_
  cases h
  exact ⟨(),trivial,kw Z Z⟩
 refine jI (oN (Kz.ieq Z Z) (oN as' (jA ?_)));refine jN Z h (fun q4 h=>?_) (fun q4 h=>?_)
 ·refine jG ?_
  cases h
  exact ⟨(),trivial,kw Z Z⟩
 refine jI (oN (Kz.ieq Z Z) (oN as' (jA ?_)));refine jN Z h (fun q5 h=>?_) (fun q5 h=>?_)
 ·refine jG ?_
  cases h
  exact ⟨(),trivial,kw Z Z⟩
 refine jC (oN (Kz.ieq Z Z) (oN as' (jA ?_)))
 cases h
 exact ⟨(),trivial,kw Z Z⟩
theorem uU {q} (h:nG=some q):ax Tryz.prog 185 [] (eL cS q):=by
 refine ax.mkT Tryz.func185 Z (by kernel_rfl) Z (by kernel_rfl) (e0:=ak []) Kw (jI (oN as' (jA (jI (oN (Kz.mkF (c:=cS) ([(⟨#[112,111]⟩:ByteArray),(⟨#[108,111,99]⟩:ByteArray),(⟨#[101,120,116]⟩:ByteArray),(⟨#[114,102]⟩:ByteArray),(⟨#[99,111]⟩:ByteArray),(⟨#[102,114]⟩:ByteArray),(⟨#[102,101,110,99,101]⟩:ByteArray),(⟨#[119,114]⟩:ByteArray),(⟨#[119,119]⟩:ByteArray),(⟨#[105,100]⟩:ByteArray)]:List ByteArray) [[St (⟨#[112,111]⟩:ByteArray)],[St (⟨#[108,111,99]⟩:ByteArray)],[St (⟨#[101,120,116]⟩:ByteArray)],[St (⟨#[114,102]⟩:ByteArray)],[St (⟨#[99,111]⟩:ByteArray)],[St (⟨#[102,114]⟩:ByteArray)],[St (⟨#[102,101,110,99,101]⟩:ByteArray)],[St (⟨#[119,114]⟩:ByteArray)],[St (⟨#[119,119]⟩:ByteArray)],[St (⟨#[105,100]⟩:ByteArray)]] AL Z Z Z qD qD Z) (oN as' (jA (jK ?_))))))))
 cases h
 exact aD Z Z Z
theorem uV (s:ByteArray) {q} (h:ic s=some q):ax Tryz.prog 144 [St s] (Bo q):=by
 refine pM Tryz.func144 Z (by kernel_rfl) Z (jI (oN as' (jA (jI (oC h (fun _=>uU) Z Z Z Z fun v1 _ h=>oN as' (jA ?_))))));obtain ⟨Ks2,es2,ws2,h,ks2⟩:=mX h;refine T.join (S:=Unit) (G:=Unit) (fun s2=>Ks2 s2=some q) (fun s2 gh=>True) (fun s2 gh=>[]) (fun s2 gh=>[]) (fun s2 gh h hg=>?_) ?_
 ·clear ks2;subst es2;refine jI (oN as' (jA (jK ?_)))
  cases h
  exact aD Z Z Z
 refine jI (oN as' (jA (jE ?_)));refine T.lU h (fun s5=>[(4,I s5),(3,eL cS v1),(0,St s)]) (fun s5=>[]) (kw Z Z) (fun s5 ws5 h=>?_);refine jH (jI (oN mv (oN mv (oN (Kz.lenL AL Z) (oN (Kz.ilt Z Z) (jA ?_))))));refine jN Z h (fun q7 h=>?_) (fun q7 h=>?_)
 ·refine jG (jH (jE (jI (oN mv (oN mv (jD h fun g8 h=>oN (Kz.ixL AL Z Z g8 qD) (oN (lf (St (J v1 s5)) ty9 Z) (oN mv (oN (Kz.seq Z Z) (jA ?_))))))))));refine jN Z h (fun q9 h=>?_) (fun q9 h=>?_)
  ·refine jI (oN as' (jA (jK (lX h fun h=>?_))));obtain rfl:=KD h;replace h:=congrArg some (show _=_ from ks2)
   cases h
   exact aD Z Z Z
  refine jG (jC (oN mv (jW h fun g10 h=>oN (Kz.add Z Z g10) (oN as' (jA ?_)))));exact lE h (kw Z Z)
 refine jM (lX h fun h=>?_)
 cases h
 exact ⟨(),(),ks2,trivial,kw Z Z⟩
theorem ub:∀ (nf:Nat) (e_:aa) (depth:Int) {q} (h:cQ nf e_ depth=some q),ax Tryz.prog 94 [.agg (aa.c e_),I depth] (Bo q):=by
 intro nf
 induction nf with
 | zero=>intros;rename_i h;cases h
 | succ nf ih=>
  intro e_ depth q h;replace h:iy (cQ nf) e_ depth=some q:=h;refine pM Tryz.func94 Z (by kernel_rfl) Z (jI (oN (Kz.bxF (aa.c e_) Z Z Z) (oN as' (jA ?_))));obtain ⟨Ks1,es1,ws1,h,ks1⟩:=mX h;refine T.join (S:=Unit) (G:=Unit) (fun s1=>Ks1 s1=some q) (fun s1 gh=>True) (fun s1 gh=>[(2,.fp (aa.c e_) 0),(1,I depth)]) (fun s1 gh=>[]) (fun s1 gh h hg=>?_) ?_
  ·clear ks1;subst es1;obtain ⟨Ks10,es10,ws10,h,ks10⟩:=mX h;refine T.join (S:=Unit) (G:=Unit) (fun s10=>Ks10 s10=some q) (fun s10 gh=>True) (fun s10 gh=>[]) (fun s10 gh=>[]) (fun s10 gh h hg=>?_) ?_
   ·clear ks10;subst es10;refine jI (oN as' (jA (jK ?_)))
    cases h
    exact aD Z Z Z
   refine jI (oN as' (jA (jE ?_)));refine T.lU h (fun s13=>[(5,I s13),(2,.fp (aa.c e_) 0),(1,I depth)]) (fun s13=>[]) (kw Z Z) (fun s13 ws13 h=>?_);refine jH (jI (oN mv (oN (fa oU Z) (oN (lf (eL TXimpl_RelExpr.c e_.Kids) Bz Z) (oN (Kz.lenL yT Z) (oN (Kz.ilt Z Z) (jA ?_)))))));refine jN Z h (fun q15 h=>?_) (fun q15 h=>?_)
   ·refine jG (jH (jE (jI (oN (fa oU Z) (oN (lf (eL TXimpl_RelExpr.c e_.Kids) Bz Z) (oN mv (jD h fun g16 h=>oN (Kz.res (Kz.ixL yT Z Z g16 TXimpl_RelExpr.len) (r' := .fp (aa.c (J e_.Kids s13).out) 0) (fun _ _ hr=>mH (TXimpl_RelExpr.out_c _) hr)) (oN (lf (.agg (aa.c ((J e_.Kids s13).out))) tT Z) (oN mv (jW h fun g17 h=>oN (Kz.sub Z Z g17) (oC h (fun _=>ih _ _) Z Z Z Z fun v18 _ h=>oN (Kz.not Z) (jA ?_))))))))))));refine jN Z h (fun q19 h=>?_) (fun q19 h=>?_)
    ·refine jH (T.clean (H0:=[]) (e0:=ak []) Z Kw (jC (oN as' (jA (jK (lX h fun h=>?_))))));obtain rfl:=KD h;replace h:=congrArg some (show _=_ from ks10)
     cases h
     exact aD Z Z Z
    refine jG (jC (oN mv (jW h fun g20 h=>oN (Kz.add Z Z g20) (oN as' (jA ?_)))));exact lE h (kw Z Z)
   refine jM (lX h fun h=>?_)
   cases h
   exact ⟨(),(),ks10,trivial,kw Z Z⟩
  refine T.jU h (fun s2=>[(35,Bo s2),(2,.fp (aa.c e_) 0),(1,I depth)]) (fun s2=>[]) (fun s2 h=>?_) (fun s2 h=>?_)
  ·refine jN Z h (fun q9 h=>?_) (fun q9 h=>?_)
   ·refine jI (oN as' (jA (jK ?_)));obtain rfl:=KD h;replace h:=congrArg some (show _=_ from ks1)
    cases h
    exact aD Z Z Z
   refine jG ?_
   cases h
   exact ⟨(),(),ks1,trivial,kw Z Z⟩
  refine T.drawG (fun _=>([],false)) (by kernel_rfl) (by kernel_rfl) (tN Z mv (tN Z (Kz.ilt Z Z) (tN Z mv ?_)));rcases uB h with ⟨q3,h⟩ | ⟨q3,h⟩
  ·refine KP Z q3 (KP Z q3 (KP Z q3 (KP Z q3 (KP Z q3 (KP Z q3 (KP Z q3 (tN Z (Kz.pickT Z q3 (Bo true) Z) (tN Z mv (KP Z Z (KP Z Z (KP Z Z (KP Z Z (KP Z Z (KP Z Z (KP Z Z ?_)))))))))))))));refine tN Z (Kz.pickT Z Z (Bo true) Z) (tN Z mv (KP Z Z (KP Z Z (KP Z Z (KP Z Z (tgU Z (tgU Z (tgU Z (KP Z Z (tN Z (Kz.pickT Z Z (Bo true) Z) (TG.nil ?_)))))))))))
   cases h
   exact ⟨(),trivial,kw Z Z⟩
  refine KO Z q3 Z (fa oU Z) (KO Z q3 Z (lf (eL TXimpl_RelExpr.c e_.Kids) Bz Z) (KO Z q3 Z (Kz.lenL yT Z) (KO Z q3 Z (fa oU Z) (KO Z q3 Z (lf (I e_.Op) KN Z) (jB h fun v4 cv4 h=>KO Z q3 Z (Kz.call Z Z Z (xb e_.Op cv4) Z) (KO Z q3 Z (Kz.ine Z Z) (tN Z (Kz.pickF Z q3 (Bo ((e_.Kids.length:Int) != v4)) Z) (tN Z mv ?_))))))));rcases uB h with ⟨q5,h⟩ | ⟨q5,h⟩
  ·refine KP Z q5 (KP Z q5 (KP Z q5 (KP Z q5 (KP Z q5 (KP Z q5 (KP Z q5 (tN Z (Kz.pickT Z q5 (Bo true) Z) (tN Z mv (KP Z Z (KP Z Z (KP Z Z (KP Z Z (tgU Z (tgU Z (tgU Z ?_)))))))))))))));refine KP Z Z (tN Z (Kz.pickT Z Z (Bo true) Z) (TG.nil ?_))
   cases h
   exact ⟨(),trivial,kw Z Z⟩
  refine KO Z q5 Z (fa oU Z) (KO Z q5 Z (lf (I e_.Op) KN Z) (KO Z q5 Z (Kz.ieq Z Z) (KO Z q5 Z (fa oU Z) (KO Z q5 Z (lf (St e_.Name) ty9 Z) (jB h fun v6 cv6 h=>KO Z q5 Z (Kz.call Z Z Z (uV e_.Name cv6) Z) (KO Z q5 Z (Kz.bne bt4 Z Z) (tN Z (Kz.pickF Z q5 (Bo (!((e_.Op==V)==v6))) Z) (tN Z mv ?_))))))));rcases uB h with ⟨q7,h⟩ | ⟨q7,h⟩
  ·refine KP Z q7 (KP Z q7 (KP Z q7 (KP Z q7 (tgU Z (tgU Z (tgU Z (KP Z q7 (tN Z (Kz.pickT Z q7 (Bo true) Z) (TG.nil ?_)))))))))
   cases h
   exact ⟨(),trivial,kw Z Z⟩
  refine KO Z q7 Z (fa oU Z) (KO Z q7 Z (lf (I e_.Op) KN Z) (KO Z q7 Z (Kz.ine Z Z) (KO Z q7 Z mv ?_)));rcases uB h with ⟨q8,h⟩ | ⟨q8,h⟩
  ·refine KO Z q8 Z (fa oU Z) (KO Z q8 Z (lf (St e_.Name) ty9 Z) (KO Z q8 Z (Kz.sne Z Z) (KO Z q7 Z (Kz.pickT Z q8 (Bo (!decide (e_.Name=(⟨#[]⟩:ByteArray)))) Z) (tN Z (Kz.pickF Z q7 (Bo (!decide (e_.Name=(⟨#[]⟩:ByteArray)))) Z) (TG.nil ?_)))))
   cases h
   exact ⟨(),trivial,kw Z Z⟩
  refine KP Z q8 (KP Z q8 (KP Z q8 (KO Z q7 Z (Kz.pickF Z q8 (Bo false) Z) (tN Z (Kz.pickF Z q7 (Bo false) Z) (TG.nil ?_)))))
  cases h
  exact ⟨(),trivial,kw Z Z⟩
theorem uW (e_:aa) (depth:Int) {q} (h:qK e_ depth=some q):ax Tryz.prog 94 [.agg (aa.c e_),I depth] (Bo q):=by
 obtain ⟨nf,h⟩:=nC h;exact ub nf e_ depth h
theorem uf:∀ (nf:Nat) (e_:aa) (most:Int) {q} (h:cT nf e_ most=some q),ax Tryz.prog 95 [.agg (aa.c e_),I most] (I q):=by
 intro nf
 induction nf with
 | zero=>intros;rename_i h;cases h
 | succ nf ih=>
  intro e_ most q h;replace h:iz (cT nf) e_ most=some q:=h;refine pM Tryz.func95 Z (by kernel_rfl) Z (jI (oN (Kz.bxF (aa.c e_) Z Z Z) (oN as' (jA (jI (oN as' (jA ?_)))))));refine T.jU h (fun s1=>[(5,I s1)]) (fun s1=>[]) (fun s1 h=>?_) (fun s1 h=>?_)
  ·refine jI (oN mv (oN as' (jA (jK ?_))))
   cases h
   exact aD Z Z Z
  refine jI (oN as' (jA (jE ?_)));refine T.lU h (fun s4=>[(6,I s4.1),(5,I s4.2),(2,.fp (aa.c e_) 0),(1,I most)]) (fun s4=>[]) (kw Z Z) (fun s4 ws4 h=>?_);refine jH (jI (oN mv (oN (fa oU Z) (oN (lf (eL TXimpl_RelExpr.c e_.Kids) Bz Z) (oN (Kz.lenL yT Z) (oN (Kz.ilt Z Z) (oN mv ?_)))))));refine TO.jB h 4 (fun s6=>[(16,Bo s6),(6,I s4.1),(5,I s4.2),(2,.fp (aa.c e_) 0),(1,I most)]) (fun s6=>[]) (fun s6 q7 h js6=>?_) (fun s6 q7 h js6=>?_) (fun s6 h=>?_)
  ·refine gN Z q7 mv (gN Z q7 mv (gN Z q7 (Kz.ile Z Z) (oN (Kz.pickT Z q7 (Bo (decide (s4.2<=most))) Z) ?_)))
   cases h
   exact js6 _ _ (kw Z Z)
  ·refine gS Z q7 (gS Z q7 (gS Z q7 (oN (Kz.pickF Z q7 (Bo false) Z) ?_)))
   cases h
   exact js6 _ _ (kw Z Z)
  refine jA ?_;refine jN Z h (fun q8 h=>?_) (fun q8 h=>?_)
  ·refine jG (jH (jE (jC (oN mv (oN (fa oU Z) (oN (lf (eL TXimpl_RelExpr.c e_.Kids) Bz Z) (oN mv (jD h fun g9 h=>oN (Kz.res (Kz.ixL yT Z Z g9 TXimpl_RelExpr.len) (r' := .fp (aa.c (J e_.Kids s4.1).out) 0) (fun _ _ hr=>mH (TXimpl_RelExpr.out_c _) hr)) (oN (lf (.agg (aa.c ((J e_.Kids s4.1).out))) tT Z) (oN mv (oN mv (jW h fun g10 h=>oN (Kz.sub Z Z g10) (oC h (fun _=>ih _ _) Z Z Z Z fun v11 _ h=>?_)))))))))))));refine jW h fun g12 h=>oN (Kz.add Z Z g12) (oN as' (jA (jC (oN mv (jW h fun g13 h=>oN (Kz.add Z Z g13) (oN as' (jA ?_)))))));exact lE h (kw Z Z)
  refine jM (lX h fun h=>?_)
  cases h
  exact ⟨(),trivial,kw Z Z⟩
theorem uX (e_:aa) (most:Int) {q} (h:qL e_ most=some q):ax Tryz.prog 95 [.agg (aa.c e_),I most] (I q):=by
 obtain ⟨nf,h⟩:=nC h;exact uf nf e_ most h
theorem p5 (e_:aa) {q} (h:eH e_=some q):ax Tryz.prog 48 [.agg (aa.c e_)] (Bo q):=by
 refine pM Tryz.func48 Z (by kernel_rfl) Z (jI (oN (Kz.bxF (aa.c e_) Z Z Z) (oN as' (jA (jI (oN (lf (.agg (aa.c e_)) tT Z) (oC h (fun _=>uW _ _) Z Z Z Z fun v1 _ h=>oN mv ?_)))))));refine TO.jB h 4 (fun s2=>[(9,Bo s2)]) (fun s2=>[]) (fun s2 q3 h js2=>?_) (fun s2 q3 h js2=>?_) (fun s2 h=>?_)
 ·refine gN Z q3 (lf (.agg (aa.c e_)) tT Z) (jB h fun v4 cv4 h=>gN Z q3 (Kz.call Z Z Z (uX e_ (40:Int) cv4) Z) (gN Z q3 (Kz.ile Z Z) (oN (Kz.pickT Z q3 (Bo (decide (v4<=(40:Int)))) Z) ?_)))
  cases h
  exact js2 _ _ (kw Z Z)
 ·refine gS Z q3 (gS Z q3 (gS Z q3 (oN (Kz.pickF Z q3 (Bo false) Z) ?_)))
  cases h
  exact js2 _ _ (kw Z Z)
 refine oN as' (jA (jK ?_))
 cases h
 exact aD Z Z Z
theorem rq (m:List ae) {q} (h:gH m=some q):ax Tryz.prog 25 [eL ae.c m] (Bo q):=by
 refine pM Tryz.func25 Z (by kernel_rfl) Z (jI (oN as' (jA ?_)));obtain ⟨Ks1,es1,ws1,h,ks1⟩:=mX h;refine T.join (S:=Unit) (G:=Unit) (fun s1=>Ks1 s1=some q) (fun s1 gh=>True) (fun s1 gh=>[(0,eL ae.c m)]) (fun s1 gh=>[]) (fun s1 gh h hg=>?_) ?_
 ·clear ks1;subst es1;refine jI (oN mv (oN (Kz.lenL vS Z) (oN (Kz.igt Z Z) (oN mv ?_))));refine TO.jB h 4 (fun s17=>[(44,Bo s17)]) (fun s17=>[]) (fun s17 q18 h js17=>?_) (fun s17 q18 h js17=>?_) (fun s17 h=>?_)
  ·refine gN Z q18 mv (gN Z q18 (Kz.lenL vS Z) (gN Z q18 (Kz.ile Z Z) (oN (Kz.pickT Z q18 (Bo (decide ((m.length:Int)<=(5:Int)))) Z) ?_)))
   cases h
   exact js17 _ _ (kw Z Z)
  ·refine gS Z q18 (gS Z q18 (gS Z q18 (oN (Kz.pickF Z q18 (Bo false) Z) ?_)))
   cases h
   exact js17 _ _ (kw Z Z)
  refine oN as' (jA (jK ?_))
  cases h
  exact aD Z Z Z
 refine jI (oN as' (jA (jE ?_)));refine T.lU h (fun s4=>[(3,I s4),(0,eL ae.c m)]) (fun s4=>[]) (kw Z Z) (fun s4 ws4 h=>?_);refine jH (jI (oN mv (oN mv (oN (Kz.lenL vS Z) (oN (Kz.ilt Z Z) (oN mv ?_))))));refine TO.jB h 3 (fun s6=>[(11,Bo s6),(3,I s4),(0,eL ae.c m)]) (fun s6=>[]) (fun s6 q7 h js6=>?_) (fun s6 q7 h js6=>?_) (fun s6 h=>?_)
 ·refine gN Z q7 mv (gN Z q7 (Kz.ile Z Z) (oN (Kz.pickT Z q7 (Bo (decide (s4<=(5:Int)))) Z) ?_))
  cases h
  exact js6 _ _ (kw Z Z)
 ·refine gS Z q7 (gS Z q7 (oN (Kz.pickF Z q7 (Bo false) Z) ?_))
  cases h
  exact js6 _ _ (kw Z Z)
 refine jA ?_;refine jN Z h (fun q8 h=>?_) (fun q8 h=>?_)
 ·refine jG (jH (jE (jI (oN mv (oN mv (jD h fun g9 h=>oN (Kz.ixL vS Z Z g9 qD) (oN (fa Ci Z) (oN (lf (I ((J m s4).Kind)) KN Z) (oN (Kz.ilt Z Z) (oN mv ?_))))))))));refine TO.jB h 7 (fun s10=>[(27,Bo s10),(3,I s4),(0,eL ae.c m)]) (fun s10=>[]) (fun s10 q11 h js10=>?_) (fun s10 q11 h js10=>?_) (fun s10 h=>?_)
  ·refine gS Z q11 (gS Z q11 (gS Z q11 (gS Z q11 (gS Z q11 (gS Z q11 (oN (Kz.pickT Z q11 (Bo true) Z) ?_))))))
   cases h
   exact js10 _ _ (kw Z Z)
  ·refine gN Z q11 mv (gN Z q11 mv (gN Z q11 (Kz.ixL vS Z Z g9 qD) (gN Z q11 (fa Ci Z) (gN Z q11 (lf (I ((J m s4).Kind)) KN Z) (gN Z q11 (Kz.igt Z Z) (oN (Kz.pickF Z q11 (Bo (decide ((3:Int)<((J m s4).Kind)))) Z) ?_))))))
   cases h
   exact js10 _ _ (kw Z Z)
  refine oN mv ?_;refine TO.jB h 8 (fun s12=>[(36,Bo s12),(3,I s4),(0,eL ae.c m)]) (fun s12=>[]) (fun s12 q13 h js12=>?_) (fun s12 q13 h js12=>?_) (fun s12 h=>?_)
  ·refine gS Z q13 (gS Z q13 (gS Z q13 (gS Z q13 (gS Z q13 (gS Z q13 (gS Z q13 (oN (Kz.pickT Z q13 (Bo true) Z) ?_)))))))
   cases h
   exact js12 _ _ (kw Z Z)
  ·refine gN Z q13 mv (gN Z q13 mv (gN Z q13 (Kz.ixL vS Z Z g9 qD) (gN Z q13 (Kz.fafpS 3 Tryz.underlying65 Z (by kernel_rfl) Z Z (row2:=aa.c ((J m s4).Expr))) (gN Z q13 (lf (.agg (aa.c ((J m s4).Expr))) tT Z) (jB h fun v14 cv14 h=>gN Z q13 (Kz.call Z Z Z (p5 ((J m s4).Expr) cv14) Z) (gN Z q13 (Kz.not Z) (oN (Kz.pickF Z q13 (Bo (!v14)) Z) ?_)))))))
   cases h
   exact js12 _ _ (kw Z Z)
  refine jA ?_;refine jN Z h (fun q15 h=>?_) (fun q15 h=>?_)
  ·refine jI (oN as' (jA (jK (lX h fun h=>?_))));obtain rfl:=KD h;replace h:=congrArg some (show _=_ from ks1)
   cases h
   exact aD Z Z Z
  refine jG (jC (oN mv (jW h fun g16 h=>oN (Kz.add Z Z g16) (oN as' (jA ?_)))));exact lE h (kw Z Z)
 refine jM (lX h fun h=>?_)
 cases h
 exact ⟨(),(),ks1,trivial,kw Z Z⟩
theorem xC (p:List (List KE)) (events:List KH) (t:Int) (index:Int) (reg:Int) {q} (h:m5 p events t index reg=some q):ax Tryz.prog 131 [eL (cL KE.c) p,eL KH.c events,I t,I index,I reg] (I q):=by
 refine pM Tryz.func131 Z (by kernel_rfl) Z (jI (oN as' (jA (jI (oN as' (jA ?_))))));refine T.jU h (fun s1=>[(11,I s1)]) (fun s1=>[]) (fun s1 h=>?_) (fun s1 h=>?_)
 ·refine jI (oN mv (oN as' (jA (jK ?_))))
  cases h
  exact aD Z Z Z
 refine jI (oN as' (jA (jE ?_)));refine T.lU h (fun s4=>[(12,I s4.1),(11,I s4.2),(0,eL (cL KE.c) p),(1,eL KH.c events),(2,I t),(3,I index),(4,I reg)]) (fun s4=>[]) (kw Z Z) (fun s4 ws4 h=>?_);let d0:=events.getD s4.1.toNat default;refine jH (jI (oN mv (oN mv (oN (Kz.lenL mR Z) (oN (Kz.ilt Z Z) (jA ?_))))));refine jN Z h (fun q6 h=>?_) (fun q6 h=>?_)
 ·refine jG ?_;refine T.jU h (fun s7=>[(11,I s7),(12,I s4.1),(0,eL (cL KE.c) p),(1,eL KH.c events),(2,I t),(3,I index),(4,I reg)]) (fun s7=>[]) (fun s7 h=>?_) (fun s7 h=>?_)
  ·refine jC (oN mv (jW h fun g16 h=>oN (Kz.add Z Z g16) (oN as' (jA ?_))));exact lE h (kw Z Z)
  refine jE (jI (oN mv (oN mv (jD h fun g8 h=>oN (Kz.ixL mR Z Z g8 qD) (oN (lf (.agg (KH.c d0)) rY Z) (oA (EvA.al zU Z Z) (oV (sr (KH.c d0) rY Z Z Z Z) (jA ?_))))))));refine T.jU h (fun s9=>[(50,Bo s9),(12,I s4.1),(11,I s4.2),(0,eL (cL KE.c) p),(1,eL KH.c events),(2,I t),(3,I index),(4,I reg)]) (fun s9=>[some ⟨0,5,80,[(KH.c d0)]⟩]) (fun s9 h=>?_) (fun s9 h=>?_)
  ·refine jN Z h (fun q15 h=>?_) (fun q15 h=>?_)
   ·refine jC (oN mv (oN as' (jA ?_)))
    cases h
    exact ⟨(),trivial,rU Z .nil (ah (.fz (qC Z)) (ah (.fz (qC Z)) (ah (.fz (qC Z)) (ah (.fz (qC Z)) (ah (.fz (qC Z)) (ah (.fz (qC Z)) (ah (.fz (qC Z)) bq)))))))⟩
   refine jG ?_
   cases h
   exact ⟨(),trivial,rU Z .nil (ah (.fz (qC Z)) (ah (.fz (qC Z)) (ah (.fz (qC Z)) (ah (.fz (qC Z)) (ah (.fz (qC Z)) (ah (.fz (qC Z)) (ah (.fz (qC Z)) bq)))))))⟩
  refine T.drawG (dG [dF,([0],false),dF,dF,dF,dF,([0],false),dF,dF,dF,dF,dF,([0],false),dF,dF,dF,dF,dF,dF,dF,([0],false),dF,dF,dF,dF,dF,dF]) (by kernel_rfl) (by kernel_rfl) (tN Z (fa cg Z) (tR [0] Z (fun G hG=>EvA.loadhp (I (d0.Thread)) KN Z (hG.a0 Z) Z Z Z Z) (tN Z mv (tN Z (Kz.ieq Z Z) (tN Z mv ?_)))));rcases uB h with ⟨q10,h⟩ | ⟨q10,h⟩
  ·refine KO Z q10 Z (fa cg Z) (tgR Z q10 [0] Z (fun G hG=>EvA.loadhp (I (d0.Index)) KN Z (hG.a0 Z) Z Z Z Z) (KO Z q10 Z mv (KO Z q10 Z (Kz.ilt Z Z) (tN Z (Kz.pickT Z q10 (Bo (decide ((d0.Index)<index))) Z) (tN Z mv ?_)))));rcases uB h with ⟨q11,h⟩ | ⟨q11,h⟩
   ·refine KO Z q11 Z (fa cg Z) (tgR Z q11 [0] Z (fun G hG=>EvA.loadhp (Bo (d0.Reads)) ty4 Z (hG.a0 Z) Z Z Z Z) (tN Z (Kz.pickT Z q11 (Bo (d0.Reads)) Z) (tN Z mv ?_)));rcases uB h with ⟨q12,h⟩ | ⟨q12,h⟩
    ·refine KO Z q12 Z mv (KO Z q12 Z mv (jD h fun g13 h=>KO Z q12 Z (Kz.ixL yj Z Z g13 qD) (KO Z q12 Z (lf (eL KE.c (J p t)) AK Z) (KO Z q12 Z (fa cg Z) (tgR Z q12 [0] Z (fun G hG=>EvA.loadhp (I (d0.Index)) KN Z (hG.a0 Z) Z Z Z Z) (jD h fun g14 h=>KO Z q12 Z (Kz.ixL xB Z Z g14 qD) (KO Z q12 Z (fa mq Z) (KO Z q12 Z (lf (I ((J (J p t) (d0.Index)).Reg)) KN Z) (KO Z q12 Z mv (KO Z q12 Z (Kz.ieq Z Z) (tN Z (Kz.pickT Z q12 (Bo (((J (J p t) (d0.Index)).Reg)==reg)) Z) (TG.nil ?_))))))))))))
     cases h
     exact ⟨(),trivial,kw Z Z⟩
    refine KP Z q12 (KP Z q12 (KP Z q12 (KP Z q12 (KP Z q12 (KP Z q12 (KP Z q12 (KP Z q12 (KP Z q12 (KP Z q12 (KP Z q12 (tN Z (Kz.pickF Z q12 (Bo false) Z) (TG.nil ?_))))))))))))
    cases h
    exact ⟨(),trivial,kw Z Z⟩
   refine KP Z q11 (KP Z q11 (tN Z (Kz.pickF Z q11 (Bo false) Z) (tN Z mv (KP Z Z (KP Z Z (KP Z Z (KP Z Z (KP Z Z (KP Z Z (KP Z Z (KP Z Z (KP Z Z (KP Z Z (KP Z Z (tN Z (Kz.pickF Z Z (Bo false) Z) ?_)))))))))))))));refine TG.nil ?_
   cases h
   exact ⟨(),trivial,kw Z Z⟩
  refine KP Z q10 (KP Z q10 (KP Z q10 (KP Z q10 (tN Z (Kz.pickF Z q10 (Bo false) Z) (tN Z mv (KP Z Z (KP Z Z (tN Z (Kz.pickF Z Z (Bo false) Z) (tN Z mv (KP Z Z (KP Z Z (KP Z Z (KP Z Z (KP Z Z (KP Z Z ?_)))))))))))))));refine KP Z Z (KP Z Z (KP Z Z (KP Z Z (KP Z Z (tN Z (Kz.pickF Z Z (Bo false) Z) (TG.nil ?_))))))
  cases h
  exact ⟨(),trivial,kw Z Z⟩
 refine jM (lX h fun h=>?_)
 cases h
 exact ⟨(),trivial,kw Z Z⟩
theorem uY (p:List (List KE)) (events:List KH) (x:KG) (i:Int) (known:LI) {q} (h:kR p events x i known=some q):ax Tryz.prog 96 [eL (cL KE.c) p,eL KH.c events,.agg (KG.c x),I i,eL cI known] (I q):=by
 let d0:=events.getD i.toNat default;refine pM Tryz.func96 Z (by kernel_rfl) Z (jI (oN (Kz.bxF [eL cI x.From,eL (cL cI) x.Order] Z Z Z) (oN as' (jA (jI (oN mv (oN mv (jD h fun g1 h=>oN (Kz.ixL mR Z Z g1 qD) (oN (lf (.agg (KH.c d0)) rY Z) (oA (EvA.al zU Z Z) (oV (sr (KH.c d0) rY Z Z Z Z) (jA (jH (jI ?_))))))))))))));refine oN (fa cg Z) (oA (lh (I (d0.Thread)) KN Z Z Z) (oN (Kz.ilt Z Z) (jA ?_)));refine jN Z h (fun q2 h=>?_) (fun q2 h=>?_)
 ·refine jI (oN as' (jA (jK ?_)))
  cases h
  exact aD Z Z Z
 refine jG (jH (T.reserve (jP (dG [dF,dF,([0],false),dF,dF,dF,([0],false),dF,dF,([1],true),([1],true)]) (by kernel_rfl) (by kernel_rfl) (fN Z mv (fN Z (fa cg Z) (fR [0] Z (fun G hG=>EvA.loadhp (I (d0.Thread)) KN Z (hG.a0 Z) Z Z Z Z) (jD h fun g3 h=>fN Z (Kz.ixL yj Z Z g3 qD) (fN Z (lf (eL KE.c (J p (d0.Thread))) AK Z) (fN Z (fa cg Z) (fR [0] Z (fun G hG=>EvA.loadhp (I (d0.Index)) KN Z (hG.a0 Z) Z Z Z Z) (jD h fun g4 h=>fN Z (Kz.ixL xB Z Z g4 qD) (fN Z (lf (.agg (KE.c (J (J p (d0.Thread)) (d0.Index)))) xp Z) (fW 1 [] Z Z (fun G hG=>EvA.alR 1 Hu Z Z (hG.a0 Z)) ?_)))))))))))));refine fV 1 [] Z Z (fun G hG=>EvA.st (cs:=(KE.c (J (J p (d0.Thread)) (d0.Index)))) ⟨0,4,90,[(KE.c (J (J p (d0.Thread)) (d0.Index)))]⟩ xp Z Z (hG.a0 Z) Z Z Z Z Z Z) (jR (jH (jH (T.clean (H0:=[some ⟨0,5,80,[(KH.c d0)]⟩,some ⟨0,4,90,[(KE.c (J (J p (d0.Thread)) (d0.Index)))]⟩]) (e0:=ak [(12,.hp 1 0 4 0 0),(11,.hp 0 0 5 0 0),(7,.fp (KG.c x) 0),(0,eL (cL KE.c) p),(1,eL KH.c events),(4,eL cI known)]) Z (Ky Z (Ky Z (Ky Z (Ky Z (Ky Z (Ky Z Kw)))))) (jC (oN (fa mq Z) (oA (lh (I ((J (J p (d0.Thread)) (d0.Index)).Op)) KN Z Z Z) (oN (Kz.ine Z Z) (jA ?_)))))))));refine jN Z h (fun q5 h=>?_) (fun q5 h=>?_)
 ·refine jI (oN (fa mq Z) (oA (lh (I ((J (J p (d0.Thread)) (d0.Index)).Val)) KN Z Z Z) (oN as' (jA (jK ?_)))))
  cases h
  exact aD Z Z Z
 refine jG (jI (oN mv (oN mv (oN (fa cg Z) (oA (lh (I (d0.Thread)) KN Z Z Z) (oN (fa cg Z) (oA (lh (I (d0.Index)) KN Z Z Z) (oN (fa mq Z) (oA (lh (I ((J (J p (d0.Thread)) (d0.Index)).Reg)) KN Z Z Z) (oC h (fun _=>xC _ _ _ _ _) Z Z Z Z fun v6 _ h=>oN as' (jA (jH (jH (T.clean (H0:=[some ⟨0,5,80,[(KH.c d0)]⟩,some ⟨0,4,90,[(KE.c (J (J p (d0.Thread)) (d0.Index)))]⟩]) (e0:=ak [(13,I v6),(7,.fp (KG.c x) 0),(4,eL cI known)]) Z (Ky Z (Ky Z (Ky Z Kw))) ?_))))))))))))));refine jC (oN mv (oN (Kz.ilt Z Z) (jA ?_)));refine jN Z h (fun q7 h=>?_) (fun q7 h=>?_)
 ·refine jI (oN as' (jA (jK ?_)))
  cases h
  exact aD Z Z Z
 refine jG (jI (oN mv (oN (fa uG Z) (oN (lf (eL cI x.From) nu Z) (oN mv (jD h fun g8 h=>oN (Kz.ixL aK Z Z g8 qD) (oN (lf (I (J x.From v6)) KN Z) (jD h fun g9 h=>oN (Kz.ixL aK Z Z g9 qD) (oN (lf (I (J known (J x.From v6))) KN Z) (oN as' (jA (jK ?_))))))))))))
 cases h
 exact aD Z Z Z
theorem ug (p:List (List KE)) (x:KG) {q} (h:f9 p x=some q):ax Tryz.prog 49 [eL (cL KE.c) p,.agg (KG.c x)] (.tup [eL cI q.1,Bo q.2]):=by
 refine pM Tryz.func49 Z (by kernel_rfl) Z (jI (oN (Kz.bxF [eL cI x.From,eL (cL cI) x.Order] Z Z Z) (oN as' (oN as' (jA (jI (oN mv (oC h (fun _=>gV _) Z Z Z Z fun v1 _ h=>oN as' (jA (jI (oA (EvA.mkO (c:=cI) ([]:LI) [] aK Z Z Z qD Z Z) (oN (Kz.asg (hS false 0 0 1 (([]:LI).length)) Z) (jA ?_)))))))))))));refine T.jF (G:=Nat) h (fun s2 gh=>True) (fun s2 gh=>[(7,hS false 0 gh 1 s2.length),(6,eL KH.c v1),(3,.fp (KG.c x) 0),(0,eL (cL KE.c) p)]) (fun s2 gh=>[bE false gh 1 3 (s2.map cI)]) (fun s2 u12 h hg=>?_) (fun s2 h=>?_)
 ·refine T.jF (G:=Nat) h (fun s13 gh=>True) (fun s13 gh=>[(7,hS false 0 gh 1 s13.length),(6,eL KH.c v1)]) (fun s13 gh=>[bE false gh 1 3 (s13.map cI)]) (fun s13 u38 h hg=>?_) (fun s13 h=>?_)
  ·obtain ⟨Ks39,es39,ws39,h,ks39⟩:=mX h;refine T.join (S:=Unit) (G:=Unit) (fun s39=>Ks39 s39=some q) (fun s39 gh=>True) (fun s39 gh=>[(7,hS false 0 u38 1 s13.length)]) (fun s39 gh=>[bE false u38 1 3 (s13.map cI)]) (fun s39 gh h hg=>?_) ?_
   ·clear ks39;subst es39;refine jI (oN mv (oN (Kz.asg (hS false 0 u38 1 s13.length) Z) (oN as' (jA (jK ?_)))));obtain rfl:=KD h
    repeat (first|refine jd ?_|refine je ?_)
    exact jQ (vs:=[hS false 0 u38 1 s13.length,Bo true]) (.cons (.tmp Z) (.cons (.tmp Z) .nil)) (.tupL (.cons (Fz.own (g:=false) (ver:=u38) (l:=s13) Z Z Z nofun qD) (.cons (qC Z) .nil)))
   refine jI (oN as' (jA (jE ?_)));refine T.lU h (fun s42=>[(11,I s42),(7,hS false 0 u38 1 s13.length),(6,eL KH.c v1)]) (fun s42=>[bE false u38 1 3 (s13.map cI)]) (kw Z Z) (fun s42 ws42 h=>?_);refine jH (jI (oN mv (oN mv (oN (Kz.lenL mR Z) (oN (Kz.ilt Z Z) (jA ?_))))));refine jN Z h (fun q44 h=>?_) (fun q44 h=>?_)
   ·refine jG (jH (jE (jI (oN mv (oN mv (jD h fun g45 h=>oN (Kz.ixL mR Z Z g45 qD) (oN (fa cg Z) (oN (lf (Bo ((J v1 s42).aC)) ty4 Z) (oN mv ?_)))))))));refine TO.jB h 6 (fun s46=>[(67,Bo s46),(11,I s42),(7,hS false 0 u38 1 s13.length),(6,eL KH.c v1)]) (fun s46=>[bE false u38 1 3 (s13.map cI)]) (fun s46 q47 h js46=>?_) (fun s46 q47 h js46=>?_) (fun s46 h=>?_)
    ·refine gN Z q47 mv (gN Z q47 mv (jD h fun g48 h=>gN Z q47 (Kz.ixO (g:=false) aK Z Z nofun g48) (gA Z q47 (EvA.ldO (g:=false) (l:=s13) (I (J s13 s42)) KN Z Z nofun (aI Z g48) Z) (gN Z q47 (Kz.ilt Z Z) (oN (Kz.pickT Z q47 (Bo (decide ((J s13 s42)<U))) Z) ?_)))))
     cases h
     exact js46 _ _ (kw Z Z)
    ·refine gS Z q47 (gS Z q47 (gS Z q47 (gS Z q47 (gS Z q47 (oN (Kz.pickF Z q47 (Bo false) Z) ?_)))))
     cases h
     exact js46 _ _ (kw Z Z)
    refine jA ?_;refine jN Z h (fun q49 h=>?_) (fun q49 h=>?_)
    ·refine jI (oN mv (oN (Kz.asg (hS false 0 u38 1 s13.length) Z) (oN as' (jA (jK (lX h fun h=>?_))))));obtain rfl:=KD h;replace h:=congrArg some (show _=_ from ks39);obtain rfl:=KD h
     repeat (first|refine jd ?_|refine je ?_)
     exact jQ (vs:=[hS false 0 u38 1 s13.length,Bo false]) (.cons (.tmp Z) (.cons (.tmp Z) .nil)) (.tupL (.cons (Fz.own (g:=false) (ver:=u38) (l:=s13) Z Z Z nofun qD) (.cons (qC Z) .nil)))
    refine jG (jC (oN mv (jW h fun g50 h=>oN (Kz.add Z Z g50) (oN as' (jA ?_)))));exact lE h (kw Z Z)
   refine jM (lX h fun h=>?_)
   cases h
   exact ⟨(),(),ks39,trivial,kw Z Z⟩
  refine jI (oN as' (jA (jE ?_)));refine jO (S:=(LI)×Int) (G:=Nat) (iN p x v1) (fun s17 gh=>True) (fun s17 gh=>[(9,I s17.2),(7,hS false 0 gh 1 s17.1.length),(6,eL KH.c v1),(3,.fp (KG.c x) 0),(0,eL (cL KE.c) p)]) (fun s17 gh=>[bE false gh 1 3 (s17.1.map cI)]) (s0:=(s2,U)) u12 h trivial (kw Z Z) (fun s17 u19 ws17 h hg=>?_);refine jH (jI (oN mv (oN mv (oN (Kz.lenL mR Z) (oN (Kz.ilt Z Z) (jA ?_))))));refine jN Z h (fun q20 h=>?_) (fun q20 h=>?_)
  ·refine jG ?_;refine T.jF (G:=Nat) h (fun s21 gh=>True) (fun s21 gh=>[(9,I s17.2),(7,hS false 0 gh 1 s21.length),(6,eL KH.c v1),(3,.fp (KG.c x) 0),(0,eL (cL KE.c) p)]) (fun s21 gh=>[bE false gh 1 3 (s21.map cI)]) (fun s21 u36 h hg=>?_) (fun s21 h=>?_)
   ·refine jC (oN mv (jW h fun g37 h=>oN (Kz.add Z Z g37) (oN as' (jA ?_))));obtain rfl:=KD h;exact ⟨(s21,(s17.2+V)),u36,Z,trivial,kw Z Z⟩
   refine jE (jI (oN as' (jA (jE ?_))));refine jO (S:=(LI)×Int) (G:=Nat) (eM p x v1) (fun s25 gh=>True) (fun s25 gh=>[(10,I s25.2),(9,I s17.2),(7,hS false 0 gh 1 s25.1.length),(6,eL KH.c v1),(3,.fp (KG.c x) 0),(0,eL (cL KE.c) p)]) (fun s25 gh=>[bE false gh 1 3 (s25.1.map cI)]) (s0:=(s17.1,U)) u19 h trivial (kw Z Z) (fun s25 u27 ws25 h hg=>?_);refine jH (jI (oN mv (oN mv (oN (Kz.lenL mR Z) (oN (Kz.ilt Z Z) (jA ?_))))));refine jN Z h (fun q28 h=>?_) (fun q28 h=>?_)
   ·refine jG ?_;refine T.jF (G:=Nat) h (fun s29 gh=>True) (fun s29 gh=>[(10,I s25.2),(9,I s17.2),(7,hS false 0 gh 1 s29.length),(6,eL KH.c v1),(3,.fp (KG.c x) 0),(0,eL (cL KE.c) p)]) (fun s29 gh=>[bE false gh 1 3 (s29.map cI)]) (fun s29 u34 h hg=>?_) (fun s29 h=>?_)
    ·refine jC (oN mv (jW h fun g35 h=>oN (Kz.add Z Z g35) (oN as' (jA ?_))));obtain rfl:=KD h;exact ⟨(s29,(s25.2+V)),u34,Z,trivial,kw Z Z⟩
    refine jE (jI (oN mv (oN mv (jD h fun g30 h=>oN (Kz.ixL mR Z Z g30 qD) (oN (fa cg Z) (oN (lf (Bo ((J v1 s25.2).aC)) ty4 Z) (jA ?_)))))));refine jN Z h (fun q31 h=>?_) (fun q31 h=>?_)
    ·refine jC (oN mv (oN mv (oN mv (oN mv (oN (lf (.agg (KG.c x)) qX Z) (oN mv (oN mv (jB h fun v32 cv32 h=>oA (EvA.callT Z Z (uY p v1 x s25.2 s25.1 cv32) (.cons (qC Z) (.cons (qC Z) (.cons (qC Z) (.cons (qC Z) (.cons (Fz.own (g:=false) (ver:=u27) (l:=s25.1) Z Z Z nofun qD) .nil))))) Z) (jD h fun g33 h=>oN (Kz.ixO (g:=false) aK Z Z nofun g33) (oV (EvA.stO (g:=false) (l:=s25.1) (cs:=[I v32]) v32 KN Z Z Z nofun (aI Z g33) Z Z Z) (jA ?_)))))))))));obtain rfl:=KD h;exact ⟨u27,trivial,yV Z (Ky Z (Ky Z (Ky (congrArg (hS false 0 u27 1) (by simp:s25.1.length=(s25.1.set s25.2.toNat v32).length)) (Ky Z (Ky Z (Ky Z Kw))))))⟩
    refine jG ?_
    cases h
    exact ⟨u27,trivial,kw Z Z⟩
   refine jM (lX h fun h=>?_)
   cases h
   exact ⟨u27,trivial,kw Z Z⟩
  refine jM (lX h fun h=>?_)
  cases h
  exact ⟨u19,trivial,kw Z Z⟩
 refine jI (oN as' (jA (jE ?_)));refine jO (S:=(LI)×Int) (G:=Nat) (jm v1) (fun s6 gh=>True) (fun s6 gh=>[(8,I s6.2),(7,hS false 0 gh 1 s6.1.length),(6,eL KH.c v1),(3,.fp (KG.c x) 0),(0,eL (cL KE.c) p)]) (fun s6 gh=>[bE false gh 1 3 (s6.1.map cI)]) (s0:=(([]:LI),U)) 0 h trivial (kw Z Z) (fun s6 u8 ws6 h hg=>?_);refine jH (jI (oN mv (oN mv (oN (Kz.lenL mR Z) (oN (Kz.ilt Z Z) (jA ?_))))));refine jN Z h (fun q9 h=>?_) (fun q9 h=>?_)
 ·refine jG (jH (jE (jC (oN mv (oN (Kz.mkF (c:=cI) ([(-1:Int)]:LI) [[I (-1:Int)]] aK Z Z Z qD qD Z) (jL h fun g10 h=>oA (EvA.app1 (g:=false) (l:=s6.1) (-1:Int) aK (by kernel_rfl) Z Z Z nofun (bK.fz (l:=([(-1:Int)]:LI)) Z qD) g10) (oN (Kz.asg (hS false 0 (u8+1) 1 ((s6.1++[(-1:Int)]).length)) Z) (jA (jC (oN mv (jW h fun g11 h=>oN (Kz.add Z Z g11) (oN as' (jA ?_)))))))))))));obtain rfl:=KD h;exact ⟨((s6.1++[(-1:Int)]),(s6.2+V)),u8+1,Z,trivial,kw Z Z⟩
 refine jM (lX h fun h=>?_)
 cases h
 exact ⟨u8,trivial,kw Z Z⟩
theorem oq (x:KG) (loc:Int) (i:Int) (k_:Int) {q} (h:cz x loc i k_=some q):ax Tryz.prog 186 [.agg (KG.c x),I loc,I i,I k_] (Bo q):=by
 refine pM Tryz.func186 Z (by kernel_rfl) Z (jI (oN (Kz.bxF [eL cI x.From,eL (cL cI) x.Order] Z Z Z) (oN as' (jA (jH (jP (fun _=>([],false)) (by kernel_rfl) (by kernel_rfl) (fN Z (fa uG Z) (fN Z (lf (eL (cL cI) x.Order) Cf Z) (fN Z mv (jD h fun g1 h=>fN Z (Kz.ixL pU Z Z g1 qD) (fN Z (lf (eL cI (J x.Order loc)) nu Z) (fN Z mv (fC h (fun _=>iI _ _) Z Z Z Z Z fun v2 _ h=>fN Z (fa uG Z) ?_)))))))))))));refine fN Z (lf (eL (cL cI) x.Order) Cf Z) (fN Z mv (fN Z (Kz.ixL pU Z Z g1 qD) (fN Z (lf (eL cI (J x.Order loc)) nu Z) (fN Z mv (fC h (fun _=>iI _ _) Z Z Z Z Z fun v3 _ h=>fN Z (Kz.ilt Z Z) (fN Z as' (jR (jK ?_))))))))
 cases h
 exact aD Z Z Z
theorem uZ (list:List KE) (from_:Int) (to:Int) {q} (h:ig list from_ to=some q):ax Tryz.prog 187 [eL KE.c list,I from_,I to] (Bo q):=by
 refine pM Tryz.func187 Z (by kernel_rfl) Z (jI (oN as' (jA ?_)));obtain ⟨Ks1,es1,ws1,h,ks1⟩:=mX h;refine T.join (S:=Unit) (G:=Unit) (fun s1=>Ks1 s1=some q) (fun s1 gh=>True) (fun s1 gh=>[]) (fun s1 gh=>[]) (fun s1 gh h hg=>?_) ?_
 ·clear ks1;subst es1;refine jI (oN as' (jA (jK ?_)))
  cases h
  exact aD Z Z Z
 refine jI (oN mv (jW h fun g2 h=>oN (Kz.add Z Z g2) (oN as' (jA (jE ?_)))));refine T.lU h (fun s5=>[(7,I s5),(0,eL KE.c list),(2,I to)]) (fun s5=>[]) (kw Z Z) (fun s5 ws5 h=>?_);refine jH (jI (oN mv (oN mv (oN (Kz.ilt Z Z) (jA ?_)))));refine jN Z h (fun q7 h=>?_) (fun q7 h=>?_)
 ·refine jG (jH (jE (jI (oN mv (oN mv (jD h fun g8 h=>oN (Kz.ixL xB Z Z g8 qD) (oN (fa mq Z) (oN (lf (I ((J list s5).Op)) KN Z) (oN (Kz.ieq Z Z) (jA ?_))))))))));refine jN Z h (fun q9 h=>?_) (fun q9 h=>?_)
  ·refine jI (oN as' (jA (jK (lX h fun h=>?_))));obtain rfl:=KD h;replace h:=congrArg some (show _=_ from ks1)
   cases h
   exact aD Z Z Z
  refine jG (jC (oN mv (jW h fun g10 h=>oN (Kz.add Z Z g10) (oN as' (jA ?_)))));exact lE h (kw Z Z)
 refine jM (lX h fun h=>?_)
 cases h
 exact ⟨(),(),ks1,trivial,kw Z Z⟩
theorem xc (p:List (List KE)) (x:KG) (events:List KH) (name:ByteArray) (i:Int) (k_:Int) {q} (h:bY p x events name i k_=some q):ax Tryz.prog 151 [eL (cL KE.c) p,.agg (KG.c x),eL KH.c events,St name,I i,I k_] (Bo q):=by
 let d1:=events.getD k_.toNat default;let d0:=events.getD i.toNat default;refine pM Tryz.func151 Z (by kernel_rfl) Z (jI (oN (Kz.bxF [eL cI x.From,eL (cL cI) x.Order] Z Z Z) (oN as' (jA (jI (oN mv (oN mv (jD h fun g1 h=>oN (Kz.ixL mR Z Z g1 qD) (oN (lf (.agg (KH.c d0)) rY Z) (oA (EvA.al zU Z Z) (oV (sr (KH.c d0) rY Z Z Z Z) (jA (jI (oN mv ?_))))))))))))));refine oN mv (jD h fun g2 h=>oN (Kz.ixL mR Z Z g2 qD) (oN (lf (.agg (KH.c d1)) rY Z) (oA (EvA.al zU Z Z) (oV (sr (KH.c d1) rY Z Z Z Z) (jA (jI (oN (fa cg Z) (oA (lh (I (d0.Thread)) KN Z Z Z) (oN (fa cg Z) (oA (lh (I (d1.Thread)) KN Z Z Z) (oN (Kz.ieq Z Z) (oN mv ?_))))))))))));refine TO.jB h 4 (fun s3=>[(33,Bo s3),(14,.hp 1 0 5 0 0),(13,.hp 0 0 5 0 0),(7,.fp (KG.c x) 0),(0,eL (cL KE.c) p),(3,St name),(4,I i),(5,I k_)]) (fun s3=>[some ⟨0,5,80,[(KH.c d0)]⟩,some ⟨0,5,80,[(KH.c d1)]⟩]) (fun s3 q4 h js3=>?_) (fun s3 q4 h js3=>?_) (fun s3 h=>?_)
 ·refine gN Z q4 (fa cg Z) (gA Z q4 (lh (I (d0.Thread)) KN Z Z Z) (gN Z q4 (Kz.ige Z Z) (oN (Kz.pickT Z q4 (Bo (decide (U<=(d0.Thread)))) Z) ?_)))
  cases h
  exact js3 _ _ (kw Z Z)
 ·refine gS Z q4 (gS Z q4 (gS Z q4 (oN (Kz.pickF Z q4 (Bo false) Z) ?_)))
  cases h
  exact js3 _ _ (kw Z Z)
 refine oN as' (jA ?_);obtain ⟨Ks5,es5,ws5,h,ks5⟩:=mX h;refine T.join (S:=Unit) (G:=Unit) (fun s5=>Ks5 s5=some q) (fun s5 gh=>True) (fun s5 gh=>[(3,St name),(4,I i),(5,I k_)]) (fun s5 gh=>[some ⟨0,5,80,[(KH.c d0)]⟩,some ⟨0,5,80,[(KH.c d1)]⟩]) (fun s5 gh h hg=>?_) ?_
 ·clear ks5;subst es5;refine jI (oN mv (oN (Kz.seq Z Z) (oN mv ?_)));refine TO.jB h 4 (fun s51=>[(188,Bo s51)]) (fun s51=>[some ⟨0,5,80,[(KH.c d0)]⟩,some ⟨0,5,80,[(KH.c d1)]⟩]) (fun s51 q52 h js51=>?_) (fun s51 q52 h js51=>?_) (fun s51 h=>?_)
  ·refine gN Z q52 mv (gN Z q52 mv (gN Z q52 (Kz.ieq Z Z) (oN (Kz.pickT Z q52 (Bo (i==k_)) Z) ?_)))
   cases h
   exact js51 _ _ (kw Z Z)
  ·refine gS Z q52 (gS Z q52 (gS Z q52 (oN (Kz.pickF Z q52 (Bo false) Z) ?_)))
   cases h
   exact js51 _ _ (kw Z Z)
  refine oN as' (jA (jK ?_))
  cases h
  exact aD Z Z Z
 refine jI (oN mv (jA (jE (jI (oN (Kz.seq Z Z) (oN as' (jA ?_)))))));refine jN Z h (fun q6 h=>?_) (fun q6 h=>?_)
 ·refine jI (oN mv (oN mv ?_));refine TO.jB h 6 (fun s7=>[(44,Bo s7)]) (fun s7=>[some ⟨0,5,80,[(KH.c d0)]⟩,some ⟨0,5,80,[(KH.c d1)]⟩]) (fun s7 q8 h js7=>?_) (fun s7 q8 h js7=>?_) (fun s7 h=>?_)
  ·refine gN Z q8 (fa cg Z) (gA Z q8 (lh (I (d0.Index)) KN Z Z Z) (gN Z q8 (fa cg Z) (gA Z q8 (lh (I (d1.Index)) KN Z Z Z) (gN Z q8 (Kz.ilt Z Z) (oN (Kz.pickT Z q8 (Bo (decide ((d0.Index)<(d1.Index)))) Z) ?_)))))
   cases h
   exact js7 _ _ (kw Z Z)
  ·refine gS Z q8 (gS Z q8 (gS Z q8 (gS Z q8 (gS Z q8 (oN (Kz.pickF Z q8 (Bo false) Z) ?_)))))
   cases h
   exact js7 _ _ (kw Z Z)
  refine oN as' (jA (jK ?_));obtain rfl:=KD h;replace h:=congrArg some (show _=_ from ks5)
  cases h
  exact aD Z Z Z
 refine jI (oN (Kz.seq Z Z) (oN as' (jA ?_)));refine jN Z h (fun q9 h=>?_) (fun q9 h=>?_)
 ·refine jI (oN (fa cg Z) (oA (lh (I (d0.Loc)) KN Z Z Z) (oN (fa cg Z) (oA (lh (I (d1.Loc)) KN Z Z Z) (oN (Kz.ieq Z Z) (oN as' (jA (jK ?_))))))));obtain rfl:=KD h;replace h:=congrArg some (show _=_ from ks5)
  cases h
  exact aD Z Z Z
 refine jI (oN (Kz.seq Z Z) (oN as' (jA ?_)));refine jN Z h (fun q10 h=>?_) (fun q10 h=>?_)
 ·refine jI (oN mv (oN (Kz.not Z) (oN as' (jA (jK ?_)))));obtain rfl:=KD h;replace h:=congrArg some (show _=_ from ks5)
  cases h
  exact aD Z Z Z
 refine jI (oN (Kz.seq Z Z) (oN as' (jA ?_)));refine jN Z h (fun q11 h=>?_) (fun q11 h=>?_)
 ·refine jI (oN (fa cg Z) (oA (lh (Bo (d1.Reads)) ty4 Z Z Z) (oN mv ?_)));refine TO.jB h 8 (fun s12=>[(68,Bo s12)]) (fun s12=>[some ⟨0,5,80,[(KH.c d0)]⟩,some ⟨0,5,80,[(KH.c d1)]⟩]) (fun s12 q13 h js12=>?_) (fun s12 q13 h js12=>?_) (fun s12 h=>?_)
  ·refine gN Z q13 (fa uG Z) (gN Z q13 (lf (eL cI x.From) nu Z) (gN Z q13 mv (jD h fun g14 h=>gN Z q13 (Kz.ixL aK Z Z g14 qD) (gN Z q13 (lf (I (J x.From k_)) KN Z) (gN Z q13 mv (gN Z q13 (Kz.ieq Z Z) (oN (Kz.pickT Z q13 (Bo ((J x.From k_)==i)) Z) ?_)))))))
   cases h
   exact js12 _ _ (kw Z Z)
  ·refine gS Z q13 (gS Z q13 (gS Z q13 (gS Z q13 (gS Z q13 (gS Z q13 (gS Z q13 (oN (Kz.pickF Z q13 (Bo false) Z) ?_)))))))
   cases h
   exact js12 _ _ (kw Z Z)
  refine oN as' (jA (jK ?_));obtain rfl:=KD h;replace h:=congrArg some (show _=_ from ks5)
  cases h
  exact aD Z Z Z
 refine jI (oN (Kz.seq Z Z) (oN as' (jA ?_)));refine jN Z h (fun q15 h=>?_) (fun q15 h=>?_)
 ·refine jI (oN (fa cg Z) (oA (lh (Bo (d0.aC)) ty4 Z Z Z) (oN mv ?_)));refine TO.jB h 3 (fun s16=>[(76,Bo s16),(14,.hp 1 0 5 0 0),(13,.hp 0 0 5 0 0),(7,.fp (KG.c x) 0),(4,I i),(5,I k_)]) (fun s16=>[some ⟨0,5,80,[(KH.c d0)]⟩,some ⟨0,5,80,[(KH.c d1)]⟩]) (fun s16 q17 h js16=>?_) (fun s16 q17 h js16=>?_) (fun s16 h=>?_)
  ·refine gN Z q17 (fa cg Z) (gA Z q17 (lh (Bo (d1.aC)) ty4 Z Z Z) (oN (Kz.pickT Z q17 (Bo (d1.aC)) Z) ?_))
   cases h
   exact js16 _ _ (kw Z Z)
  ·refine gS Z q17 (gS Z q17 (oN (Kz.pickF Z q17 (Bo false) Z) ?_))
   cases h
   exact js16 _ _ (kw Z Z)
  refine oN mv ?_;refine TO.jB h 6 (fun s18=>[(83,Bo s18),(13,.hp 0 0 5 0 0),(7,.fp (KG.c x) 0),(4,I i),(5,I k_)]) (fun s18=>[some ⟨0,5,80,[(KH.c d0)]⟩,some ⟨0,5,80,[(KH.c d1)]⟩]) (fun s18 q19 h js18=>?_) (fun s18 q19 h js18=>?_) (fun s18 h=>?_)
  ·refine gN Z q19 (fa cg Z) (gA Z q19 (lh (I (d0.Loc)) KN Z Z Z) (gN Z q19 (fa cg Z) (gA Z q19 (lh (I (d1.Loc)) KN Z Z Z) (gN Z q19 (Kz.ieq Z Z) (oN (Kz.pickT Z q19 (Bo ((d0.Loc)==(d1.Loc))) Z) ?_)))))
   cases h
   exact js18 _ _ (kw Z Z)
  ·refine gS Z q19 (gS Z q19 (gS Z q19 (gS Z q19 (gS Z q19 (oN (Kz.pickF Z q19 (Bo false) Z) ?_)))))
   cases h
   exact js18 _ _ (kw Z Z)
  refine oN mv ?_;refine TO.jB h 7 (fun s20=>[(91,Bo s20)]) (fun s20=>[some ⟨0,5,80,[(KH.c d0)]⟩,some ⟨0,5,80,[(KH.c d1)]⟩]) (fun s20 q21 h js20=>?_) (fun s20 q21 h js20=>?_) (fun s20 h=>?_)
  ·refine gN Z q21 (lf (.agg (KG.c x)) qX Z) (gN Z q21 (fa cg Z) (gA Z q21 (lh (I (d0.Loc)) KN Z Z Z) (gN Z q21 mv (gN Z q21 mv (jB h fun v22 cv22 h=>gN Z q21 (Kz.call Z Z Z (oq x (d0.Loc) i k_ cv22) Z) (oN (Kz.pickT Z q21 (Bo v22) Z) ?_))))))
   cases h
   exact js20 _ _ (kw Z Z)
  ·refine gS Z q21 (gS Z q21 (gS Z q21 (gS Z q21 (gS Z q21 (gS Z q21 (oN (Kz.pickF Z q21 (Bo false) Z) ?_))))))
   cases h
   exact js20 _ _ (kw Z Z)
  refine oN as' (jA (jK ?_));obtain rfl:=KD h;replace h:=congrArg some (show _=_ from ks5)
  cases h
  exact aD Z Z Z
 refine jI (oN (Kz.seq Z Z) (oN as' (jA ?_)));refine jN Z h (fun q23 h=>?_) (fun q23 h=>?_)
 ·refine T.jU h (fun s24=>[(12,Bo s24)]) (fun s24=>[some ⟨0,5,80,[(KH.c d0)]⟩,some ⟨0,5,80,[(KH.c d1)]⟩]) (fun s24 h=>?_) (fun s24 h=>?_)
  ·refine jK ?_;obtain rfl:=KD h;replace h:=congrArg some (show _=_ from ks5)
   cases h
   exact aD Z Z Z
  refine T.clean (H0:=[some ⟨0,5,80,[(KH.c d0)]⟩,some ⟨0,5,80,[(KH.c d1)]⟩]) (e0:=ak [(14,.hp 1 0 5 0 0),(13,.hp 0 0 5 0 0),(7,.fp (KG.c x) 0),(4,I i),(5,I k_)]) Z (Ky Z (Ky Z (Ky Z (Ky Z (Ky Z Kw))))) (T.drawG (dG [dF,([0],false),dF,dF,([1],false),dF,dF,dF,([0],false),dF,([1],false),dF,dF,dF,dF,dF,dF,dF,dF,dF,dF,([0],false),dF,dF,dF,dF,dF,dF,dF,dF,dF]) (by kernel_rfl) (by kernel_rfl) (tN Z (fa cg Z) (tR [0] Z (fun G hG=>EvA.loadhp (Bo (d0.Reads)) ty4 Z (hG.a0 Z) Z Z Z Z) (tN Z mv ?_))));rcases uB h with ⟨q25,h⟩ | ⟨q25,h⟩
  ·refine KO Z q25 Z (fa cg Z) (tgR Z q25 [1] Z (fun G hG=>EvA.loadhp (Bo (d1.aC)) ty4 Z (hG.a0 Z) Z Z Z Z) (tN Z (Kz.pickT Z q25 (Bo (d1.aC)) Z) (tN Z mv ?_)));rcases uB h with ⟨q26,h⟩ | ⟨q26,h⟩
   ·refine KO Z q26 Z (fa cg Z) (tgR Z q26 [0] Z (fun G hG=>EvA.loadhp (I (d0.Loc)) KN Z (hG.a0 Z) Z Z Z Z) (KO Z q26 Z (fa cg Z) (tgR Z q26 [1] Z (fun G hG=>EvA.loadhp (I (d1.Loc)) KN Z (hG.a0 Z) Z Z Z Z) (KO Z q26 Z (Kz.ieq Z Z) (tN Z (Kz.pickT Z q26 (Bo ((d0.Loc)==(d1.Loc))) Z) (tN Z mv ?_))))));rcases uB h with ⟨q27,h⟩ | ⟨q27,h⟩
    ·refine KO Z q27 Z mv (KO Z q27 Z mv (KO Z q27 Z (Kz.ine Z Z) (tN Z (Kz.pickT Z q27 (Bo (i != k_)) Z) (tN Z mv ?_))));rcases uB h with ⟨q28,h⟩ | ⟨q28,h⟩
     ·refine KO Z q28 Z (lf (.agg (KG.c x)) qX Z) (KO Z q28 Z (fa cg Z) (tgR Z q28 [0] Z (fun G hG=>EvA.loadhp (I (d0.Loc)) KN Z (hG.a0 Z) Z Z Z Z) (KO Z q28 Z (fa uG Z) (KO Z q28 Z (lf (eL cI x.From) nu Z) (KO Z q28 Z mv (jD h fun g29 h=>KO Z q28 Z (Kz.ixL aK Z Z g29 qD) (KO Z q28 Z (lf (I (J x.From i)) KN Z) (KO Z q28 Z mv (jB h fun v30 cv30 h=>KO Z q28 Z (Kz.call Z Z Z (oq x (d0.Loc) (J x.From i) k_ cv30) Z) (tN Z (Kz.pickT Z q28 (Bo v30) Z) (tN Z as' (TG.nil ?_))))))))))))
      cases h
      exact ⟨(),trivial,kw Z Z⟩
     refine KP Z q28 (KP Z q28 (KP Z q28 (KP Z q28 (KP Z q28 (KP Z q28 (KP Z q28 (KP Z q28 (KP Z q28 (KP Z q28 (tN Z (Kz.pickF Z q28 (Bo false) Z) (tN Z as' (TG.nil ?_))))))))))))
     cases h
     exact ⟨(),trivial,kw Z Z⟩
    refine KP Z q27 (KP Z q27 (KP Z q27 (tN Z (Kz.pickF Z q27 (Bo false) Z) (tN Z mv (KP Z Z (KP Z Z (KP Z Z (KP Z Z (KP Z Z (KP Z Z (KP Z Z (KP Z Z (KP Z Z (KP Z Z (tN Z (Kz.pickF Z Z (Bo false) Z) ?_)))))))))))))));refine tN Z as' (TG.nil ?_)
    cases h
    exact ⟨(),trivial,kw Z Z⟩
   refine KP Z q26 (KP Z q26 (KP Z q26 (KP Z q26 (KP Z q26 (tN Z (Kz.pickF Z q26 (Bo false) Z) (tN Z mv (KP Z Z (KP Z Z (KP Z Z (tN Z (Kz.pickF Z Z (Bo false) Z) (tN Z mv (KP Z Z (KP Z Z (KP Z Z (KP Z Z ?_)))))))))))))));refine KP Z Z (KP Z Z (KP Z Z (KP Z Z (KP Z Z (KP Z Z (tN Z (Kz.pickF Z Z (Bo false) Z) (tN Z as' (TG.nil ?_))))))))
   cases h
   exact ⟨(),trivial,kw Z Z⟩
  refine KP Z q25 (KP Z q25 (tN Z (Kz.pickF Z q25 (Bo false) Z) (tN Z mv (KP Z Z (KP Z Z (KP Z Z (KP Z Z (KP Z Z (tN Z (Kz.pickF Z Z (Bo false) Z) (tN Z mv (KP Z Z (KP Z Z (KP Z Z (tN Z (Kz.pickF Z Z (Bo false) Z) (tN Z mv ?_)))))))))))))));refine KP Z Z (KP Z Z (KP Z Z (KP Z Z (KP Z Z (KP Z Z (KP Z Z (KP Z Z (KP Z Z (KP Z Z (tN Z (Kz.pickF Z Z (Bo false) Z) (tN Z as' (TG.nil ?_))))))))))))
  cases h
  exact ⟨(),trivial,kw Z Z⟩
 refine jI (oN (Kz.seq Z Z) (oN as' (jA ?_)));refine jN Z h (fun q31 h=>?_) (fun q31 h=>?_)
 ·refine T.jU h (fun s32=>[(12,Bo s32)]) (fun s32=>[some ⟨0,5,80,[(KH.c d0)]⟩,some ⟨0,5,80,[(KH.c d1)]⟩]) (fun s32 h=>?_) (fun s32 h=>?_)
  ·refine jK ?_;obtain rfl:=KD h;replace h:=congrArg some (show _=_ from ks5)
   cases h
   exact aD Z Z Z
  refine T.clean (H0:=[some ⟨0,5,80,[(KH.c d0)]⟩,some ⟨0,5,80,[(KH.c d1)]⟩]) (e0:=ak [(15,Bo s3),(14,.hp 1 0 5 0 0),(13,.hp 0 0 5 0 0),(0,eL (cL KE.c) p)]) Z (Ky Z (Ky Z (Ky Z (Ky Z Kw)))) (T.drawG (dG [dF,dF,dF,([0],false),dF,([1],false),dF,dF,dF,dF,dF,([0],false),dF,dF,dF,([0],false),dF,([1],false),dF,dF,dF]) (by kernel_rfl) (by kernel_rfl) (tN Z mv (tN Z mv ?_)));rcases uB h with ⟨q33,h⟩ | ⟨q33,h⟩
  ·refine KO Z q33 Z (fa cg Z) (tgR Z q33 [0] Z (fun G hG=>EvA.loadhp (I (d0.Index)) KN Z (hG.a0 Z) Z Z Z Z) (KO Z q33 Z (fa cg Z) (tgR Z q33 [1] Z (fun G hG=>EvA.loadhp (I (d1.Index)) KN Z (hG.a0 Z) Z Z Z Z) (KO Z q33 Z (Kz.ilt Z Z) (tN Z (Kz.pickT Z q33 (Bo (decide ((d0.Index)<(d1.Index)))) Z) (tN Z mv ?_))))));rcases uB h with ⟨q34,h⟩ | ⟨q34,h⟩
   ·refine KO Z q34 Z mv (KO Z q34 Z (fa cg Z) (tgR Z q34 [0] Z (fun G hG=>EvA.loadhp (I (d0.Thread)) KN Z (hG.a0 Z) Z Z Z Z) (jD h fun g35 h=>KO Z q34 Z (Kz.ixL yj Z Z g35 qD) (KO Z q34 Z (lf (eL KE.c (J p (d0.Thread))) AK Z) (KO Z q34 Z (fa cg Z) (tgR Z q34 [0] Z (fun G hG=>EvA.loadhp (I (d0.Index)) KN Z (hG.a0 Z) Z Z Z Z) (KO Z q34 Z (fa cg Z) (tgR Z q34 [1] Z (fun G hG=>EvA.loadhp (I (d1.Index)) KN Z (hG.a0 Z) Z Z Z Z) (jB h fun v36 cv36 h=>KO Z q34 Z (Kz.call Z Z Z (uZ (J p (d0.Thread)) (d0.Index) (d1.Index) cv36) Z) (tN Z (Kz.pickT Z q34 (Bo v36) Z) (tN Z as' (TG.nil ?_))))))))))))
    cases h
    exact ⟨(),trivial,kw Z Z⟩
   refine KP Z q34 (KP Z q34 (KP Z q34 (KP Z q34 (KP Z q34 (KP Z q34 (KP Z q34 (KP Z q34 (KP Z q34 (KP Z q34 (tN Z (Kz.pickF Z q34 (Bo false) Z) (tN Z as' (TG.nil ?_))))))))))))
   cases h
   exact ⟨(),trivial,kw Z Z⟩
  refine KP Z q33 (KP Z q33 (KP Z q33 (KP Z q33 (KP Z q33 (tN Z (Kz.pickF Z q33 (Bo false) Z) (tN Z mv (KP Z Z (KP Z Z (KP Z Z (KP Z Z (KP Z Z (KP Z Z (KP Z Z (KP Z Z (KP Z Z ?_)))))))))))))));refine KP Z Z (tN Z (Kz.pickF Z Z (Bo false) Z) (tN Z as' (TG.nil ?_)))
  cases h
  exact ⟨(),trivial,kw Z Z⟩
 refine jH (T.clean (H0:=[some ⟨0,5,80,[(KH.c d0)]⟩,some ⟨0,5,80,[(KH.c d1)]⟩]) (e0:=ak [(34,St name),(14,.hp 1 0 5 0 0),(13,.hp 0 0 5 0 0),(3,St name),(4,I i),(5,I k_)]) Z (Ky Z (Ky Z (Ky Z (Ky Z (Ky Z (Ky Z Kw)))))) (jC (oN (Kz.seq Z Z) (oN as' (jA ?_)))));refine jN Z h (fun q37 h=>?_) (fun q37 h=>?_)
 ·refine jI (oN (fa cg Z) (oA (lh (Bo (d0.aC)) ty4 Z Z Z) (oN mv ?_)));refine TO.jB h 4 (fun s38=>[(154,Bo s38),(14,.hp 1 0 5 0 0)]) (fun s38=>[some ⟨0,5,80,[(KH.c d0)]⟩,some ⟨0,5,80,[(KH.c d1)]⟩]) (fun s38 q39 h js38=>?_) (fun s38 q39 h js38=>?_) (fun s38 h=>?_)
  ·refine gN Z q39 (fa cg Z) (gA Z q39 (lh (Bo (d0.Reads)) ty4 Z Z Z) (gN Z q39 (Kz.not Z) (oN (Kz.pickT Z q39 (Bo (!(d0.Reads))) Z) ?_)))
   cases h
   exact js38 _ _ (kw Z Z)
  ·refine gS Z q39 (gS Z q39 (gS Z q39 (oN (Kz.pickF Z q39 (Bo false) Z) ?_)))
   cases h
   exact js38 _ _ (kw Z Z)
  refine oN mv ?_;refine TO.jB h 3 (fun s40=>[(158,Bo s40),(14,.hp 1 0 5 0 0)]) (fun s40=>[some ⟨0,5,80,[(KH.c d0)]⟩,some ⟨0,5,80,[(KH.c d1)]⟩]) (fun s40 q41 h js40=>?_) (fun s40 q41 h js40=>?_) (fun s40 h=>?_)
  ·refine gN Z q41 (fa cg Z) (gA Z q41 (lh (Bo (d1.Reads)) ty4 Z Z Z) (oN (Kz.pickT Z q41 (Bo (d1.Reads)) Z) ?_))
   cases h
   exact js40 _ _ (kw Z Z)
  ·refine gS Z q41 (gS Z q41 (oN (Kz.pickF Z q41 (Bo false) Z) ?_))
   cases h
   exact js40 _ _ (kw Z Z)
  refine oN mv ?_;refine TO.jB h 4 (fun s42=>[(163,Bo s42)]) (fun s42=>[some ⟨0,5,80,[(KH.c d0)]⟩,some ⟨0,5,80,[(KH.c d1)]⟩]) (fun s42 q43 h js42=>?_) (fun s42 q43 h js42=>?_) (fun s42 h=>?_)
  ·refine gN Z q43 (fa cg Z) (gA Z q43 (lh (Bo (d1.aC)) ty4 Z Z Z) (gN Z q43 (Kz.not Z) (oN (Kz.pickT Z q43 (Bo (!(d1.aC))) Z) ?_)))
   cases h
   exact js42 _ _ (kw Z Z)
  ·refine gS Z q43 (gS Z q43 (gS Z q43 (oN (Kz.pickF Z q43 (Bo false) Z) ?_)))
   cases h
   exact js42 _ _ (kw Z Z)
  refine oN as' (jA (jK ?_));obtain rfl:=KD h;replace h:=congrArg some (show _=_ from ks5)
  cases h
  exact aD Z Z Z
 refine jI (oN (Kz.seq Z Z) (oN as' (jA ?_)));refine jN Z h (fun q44 h=>?_) (fun q44 h=>?_)
 ·refine jI (oN (fa cg Z) (oA (lh (Bo (d0.aC)) ty4 Z Z Z) (oN mv ?_)));refine TO.jB h 4 (fun s45=>[(172,Bo s45),(14,.hp 1 0 5 0 0)]) (fun s45=>[some ⟨0,5,80,[(KH.c d0)]⟩,some ⟨0,5,80,[(KH.c d1)]⟩]) (fun s45 q46 h js45=>?_) (fun s45 q46 h js45=>?_) (fun s45 h=>?_)
  ·refine gN Z q46 (fa cg Z) (gA Z q46 (lh (Bo (d0.Reads)) ty4 Z Z Z) (gN Z q46 (Kz.not Z) (oN (Kz.pickT Z q46 (Bo (!(d0.Reads))) Z) ?_)))
   cases h
   exact js45 _ _ (kw Z Z)
  ·refine gS Z q46 (gS Z q46 (gS Z q46 (oN (Kz.pickF Z q46 (Bo false) Z) ?_)))
   cases h
   exact js45 _ _ (kw Z Z)
  refine oN mv ?_;refine TO.jB h 3 (fun s47=>[(176,Bo s47),(14,.hp 1 0 5 0 0)]) (fun s47=>[some ⟨0,5,80,[(KH.c d0)]⟩,some ⟨0,5,80,[(KH.c d1)]⟩]) (fun s47 q48 h js47=>?_) (fun s47 q48 h js47=>?_) (fun s47 h=>?_)
  ·refine gN Z q48 (fa cg Z) (gA Z q48 (lh (Bo (d1.aC)) ty4 Z Z Z) (oN (Kz.pickT Z q48 (Bo (d1.aC)) Z) ?_))
   cases h
   exact js47 _ _ (kw Z Z)
  ·refine gS Z q48 (gS Z q48 (oN (Kz.pickF Z q48 (Bo false) Z) ?_))
   cases h
   exact js47 _ _ (kw Z Z)
  refine oN mv ?_;refine TO.jB h 4 (fun s49=>[(181,Bo s49)]) (fun s49=>[some ⟨0,5,80,[(KH.c d0)]⟩,some ⟨0,5,80,[(KH.c d1)]⟩]) (fun s49 q50 h js49=>?_) (fun s49 q50 h js49=>?_) (fun s49 h=>?_)
  ·refine gN Z q50 (fa cg Z) (gA Z q50 (lh (Bo (d1.Reads)) ty4 Z Z Z) (gN Z q50 (Kz.not Z) (oN (Kz.pickT Z q50 (Bo (!(d1.Reads))) Z) ?_)))
   cases h
   exact js49 _ _ (kw Z Z)
  ·refine gS Z q50 (gS Z q50 (gS Z q50 (oN (Kz.pickF Z q50 (Bo false) Z) ?_)))
   cases h
   exact js49 _ _ (kw Z Z)
  refine oN as' (jA (jK ?_));obtain rfl:=KD h;replace h:=congrArg some (show _=_ from ks5)
  cases h
  exact aD Z Z Z
 refine jG ?_
 cases h
 exact ⟨(),(),ks5,trivial,kw Z Z⟩
theorem xD (p:List (List KE)) (x:KG) (name:ByteArray) {q} (h:db p x name=some q):ax Tryz.prog 100 [eL (cL KE.c) p,.agg (KG.c x),St name] (eL cI q):=by
 refine pM Tryz.func100 Z (by kernel_rfl) Z (jI (oN (Kz.bxF [eL cI x.From,eL (cL cI) x.Order] Z Z Z) (oN as' (jA (jI (oN mv (oC h (fun _=>gV _) Z Z Z Z fun v1 _ h=>oN as' (jA (jI (oA (EvA.mkO (c:=cI) ([]:LI) [] aK Z Z Z qD Z Z) (oN (Kz.asg (hS false 0 0 1 (([]:LI).length)) Z) (jA ?_))))))))))));refine T.jF (G:=Nat) h (fun s2 gh=>True) (fun s2 gh=>[(8,hS false 0 gh 1 s2.length)]) (fun s2 gh=>[bE false gh 1 3 (s2.map cI)]) (fun s2 u25 h hg=>?_) (fun s2 h=>?_)
 ·refine jI (oN mv (oN (Kz.asg (hS false 0 u25 1 s2.length) Z) (jA (jK ?_))));obtain rfl:=KD h
  repeat (first|refine jd ?_|refine je ?_)
  exact jQ (vs:=[hS false 0 u25 1 s2.length]) (.cons (.tmp Z) .nil) (Fz.own (g:=false) (ver:=u25) (l:=s2) Z Z Z nofun qD)
 refine jI (oN as' (jA (jE ?_)));refine jO (S:=(LI)×Int) (G:=Nat) (mK p x name v1) (fun s6 gh=>True) (fun s6 gh=>[(9,I s6.2),(8,hS false 0 gh 1 s6.1.length),(7,eL KH.c v1),(4,.fp (KG.c x) 0),(0,eL (cL KE.c) p),(2,St name)]) (fun s6 gh=>[bE false gh 1 3 (s6.1.map cI)]) (s0:=(([]:LI),U)) 0 h trivial (kw Z Z) (fun s6 u8 ws6 h hg=>?_);refine jH (jI (oN mv (oN mv (oN (Kz.lenL mR Z) (oN (Kz.ilt Z Z) (jA ?_))))));refine jN Z h (fun q9 h=>?_) (fun q9 h=>?_)
 ·refine jG ?_;refine T.jF (G:=Nat) h (fun s10 gh=>True) (fun s10 gh=>[(8,hS false 0 gh 1 s10.length),(9,I s6.2),(7,eL KH.c v1),(4,.fp (KG.c x) 0),(0,eL (cL KE.c) p),(2,St name)]) (fun s10 gh=>[bE false gh 1 3 (s10.map cI)]) (fun s10 u23 h hg=>?_) (fun s10 h=>?_)
  ·refine jC (oN mv (jW h fun g24 h=>oN (Kz.add Z Z g24) (oN as' (jA ?_))));obtain rfl:=KD h;exact ⟨(s10,(s6.2+V)),u23,Z,trivial,kw Z Z⟩
  refine jE (jI (oN as' (jA ?_)));refine T.jU h (fun s11=>[(10,I s11),(9,I s6.2),(8,hS false 0 u8 1 s6.1.length),(7,eL KH.c v1),(4,.fp (KG.c x) 0),(0,eL (cL KE.c) p),(2,St name)]) (fun s11=>[bE false u8 1 3 (s6.1.map cI)]) (fun s11 h=>?_) (fun s11 h=>?_)
  ·refine jC (oN mv (oN mv (oN (Kz.mkF (c:=cI) ([s11]:LI) [[I s11]] aK Z Z Z qD qD Z) (jL h fun g22 h=>oA (EvA.app1 (g:=false) (l:=s6.1) s11 aK (by kernel_rfl) Z Z Z nofun (bK.fz (l:=([s11]:LI)) Z qD) g22) (oN (Kz.asg (hS false 0 (u8+1) 1 ((s6.1++[s11]).length)) Z) (jA ?_))))))
   cases h
   exact ⟨u8+1,trivial,kw Z Z⟩
  refine jI (oN as' (jA (jE ?_)));refine T.lU h (fun s14=>[(11,I s14.1),(10,I s14.2),(9,I s6.2),(8,hS false 0 u8 1 s6.1.length),(7,eL KH.c v1),(4,.fp (KG.c x) 0),(0,eL (cL KE.c) p),(2,St name)]) (fun s14=>[bE false u8 1 3 (s6.1.map cI)]) (kw Z Z) (fun s14 ws14 h=>?_);refine jH (jI (oN mv (oN mv (oN (Kz.lenL mR Z) (oN (Kz.ilt Z Z) (jA ?_))))));refine jN Z h (fun q16 h=>?_) (fun q16 h=>?_)
  ·refine jG ?_;refine T.jU h (fun s17=>[(10,I s17),(11,I s14.1),(9,I s6.2),(8,hS false 0 u8 1 s6.1.length),(7,eL KH.c v1),(4,.fp (KG.c x) 0),(0,eL (cL KE.c) p),(2,St name)]) (fun s17=>[bE false u8 1 3 (s6.1.map cI)]) (fun s17 h=>?_) (fun s17 h=>?_)
   ·refine jC (oN mv (jW h fun g21 h=>oN (Kz.add Z Z g21) (oN as' (jA ?_))));exact lE h (kw Z Z)
   refine jE (jI (oN mv (oN (lf (.agg (KG.c x)) qX Z) (oN mv (oN mv (oN mv (oN mv (oC h (fun _=>xc _ _ _ _ _ _) Z Z Z Z fun v18 _ h=>jA ?_))))))));refine jN Z h (fun q19 h=>?_) (fun q19 h=>?_)
   ·refine jC (oN mv (oN mv (jD h fun g20 h=>oN (Kz.shl Z Z g20) (oN (Kz.bor Z Z) (oN as' (jA ?_))))))
    cases h
    exact ⟨(),trivial,kw Z Z⟩
   refine jG ?_
   cases h
   exact ⟨(),trivial,kw Z Z⟩
  refine jM (lX h fun h=>?_)
  cases h
  exact ⟨(),trivial,kw Z Z⟩
 refine jM (lX h fun h=>?_)
 cases h
 exact ⟨u8,trivial,kw Z Z⟩
theorem dM (r_:LI) (i:Int) (k_:Int) {q} (h:dc r_ i k_=some q):ax Tryz.prog 150 [eL cI r_,I i,I k_] (Bo q):=by
 refine pM Tryz.func150 Z (by kernel_rfl) Z (jI (oN as' (jA (jI (oN mv (oN mv (jD h fun g1 h=>oN (Kz.ixL aK Z Z g1 qD) (oN (lf (I (J r_ i)) KN Z) (oN mv (jD h fun g2 h=>oN (Kz.shr Z Z g2) (oN (Kz.band Z Z) (oN (Kz.ieq Z Z) (oN as' ?_)))))))))))));refine jA (jK ?_)
 cases h
 exact aD Z Z Z
theorem sx (r_:LI) {q} (h:iA r_=some q):ax Tryz.prog 101 [eL cI r_] (eL cI q):=by
 refine pM Tryz.func101 Z (by kernel_rfl) Z (jI (oN as' (jA (jI (oN mv (oN (Kz.lenL aK Z) (jD h fun g1 h=>oA (EvA.mkN (c:=cI) (default:Int) aK Z Z g1 Z Z Z) (oN (Kz.asg (hS false 0 0 1 ((Qa (r_.length:Int).toNat (default:Int)).length)) Z) (jA ?_)))))))));refine T.jF (G:=Nat) h (fun s2 gh=>True) (fun s2 gh=>[(3,hS false 0 gh 1 s2.length)]) (fun s2 gh=>[bE false gh 1 3 (s2.map cI)]) (fun s2 u27 h hg=>?_) (fun s2 h=>?_)
 ·refine jI (oN mv (oN (Kz.asg (hS false 0 u27 1 s2.length) Z) (jA (jK ?_))));obtain rfl:=KD h
  repeat (first|refine jd ?_|refine je ?_)
  exact jQ (vs:=[hS false 0 u27 1 s2.length]) (.cons (.tmp Z) .nil) (Fz.own (g:=false) (ver:=u27) (l:=s2) Z Z Z nofun qD)
 refine jI (oN as' (jA (jE ?_)));refine jO (S:=(LI)×Int) (G:=Nat) (iO r_) (fun s6 gh=>True) (fun s6 gh=>[(4,I s6.2),(3,hS false 0 gh 1 s6.1.length),(0,eL cI r_)]) (fun s6 gh=>[bE false gh 1 3 (s6.1.map cI)]) (s0:=((Qa (r_.length:Int).toNat (default:Int)),U)) 0 h trivial (kw Z Z) (fun s6 u8 ws6 h hg=>?_);refine jH (jI (oN mv (oN mv (oN (Kz.lenL aK Z) (oN (Kz.ilt Z Z) (jA ?_))))));refine jN Z h (fun q9 h=>?_) (fun q9 h=>?_)
 ·refine jG ?_;refine T.jF (G:=Nat) h (fun s10 gh=>True) (fun s10 gh=>[(4,I s6.2),(3,hS false 0 gh 1 s10.length),(0,eL cI r_)]) (fun s10 gh=>[bE false gh 1 3 (s10.map cI)]) (fun s10 u25 h hg=>?_) (fun s10 h=>?_)
  ·refine jC (oN mv (jW h fun g26 h=>oN (Kz.add Z Z g26) (oN as' (jA ?_))));obtain rfl:=KD h;exact ⟨(s10,(s6.2+V)),u25,Z,trivial,kw Z Z⟩
  refine jE (jI (oN as' (jA (jE ?_))));refine jO (S:=(LI)×Int) (G:=Nat) (gW r_ s6) (fun s14 gh=>True) (fun s14 gh=>[(5,I s14.2),(4,I s6.2),(3,hS false 0 gh 1 s14.1.length),(0,eL cI r_)]) (fun s14 gh=>[bE false gh 1 3 (s14.1.map cI)]) (s0:=(s6.1,U)) u8 h trivial (kw Z Z) (fun s14 u16 ws14 h hg=>?_);refine jH (jI (oN mv (oN mv (oN (Kz.lenL aK Z) (oN (Kz.ilt Z Z) (jA ?_))))));refine jN Z h (fun q17 h=>?_) (fun q17 h=>?_)
  ·refine jG ?_;refine T.jF (G:=Nat) h (fun s18 gh=>True) (fun s18 gh=>[(5,I s14.2),(4,I s6.2),(3,hS false 0 gh 1 s18.length),(0,eL cI r_)]) (fun s18 gh=>[bE false gh 1 3 (s18.map cI)]) (fun s18 u23 h hg=>?_) (fun s18 h=>?_)
   ·refine jC (oN mv (jW h fun g24 h=>oN (Kz.add Z Z g24) (oN as' (jA ?_))));obtain rfl:=KD h;exact ⟨(s18,(s14.2+V)),u23,Z,trivial,kw Z Z⟩
   refine jE (jI (oN mv (oN mv (oN mv (oC h (fun _=>dM _ _ _) Z Z Z Z fun v19 _ h=>jA ?_)))));refine jN Z h (fun q20 h=>?_) (fun q20 h=>?_)
   ·refine jP (dG [dF,dF,dF,dF,dF,([0],false),dF,dF,dF,dF,([0],true)]) (by kernel_rfl) (by kernel_rfl) (fN Z mv (fN Z mv (fN Z mv (fN Z mv (jD h fun g21 h=>fN Z (Kz.ixO (g:=false) aK Z Z nofun g21) (fR [0] Z (fun G hG=>EvA.ldO (g:=false) (l:=s14.1) (I (J s14.1 s14.2)) KN Z (hG.a0 Z) nofun (aI Z g21) Z) (fN Z mv (jD h fun g22 h=>fN Z (Kz.shl Z Z g22) (fN Z (Kz.bor Z Z) (fN Z (Kz.ixO (g:=false) aK Z Z nofun g21) (fV 0 [] Z Z (fun G hG=>EvA.stO (g:=false) (l:=s14.1) (cs:=[I (KA .i64 (J s14.1 s14.2) (yx .i64 V s6.2))]) (KA .i64 (J s14.1 s14.2) (yx .i64 V s6.2)) KN Z Z (hG.a0 Z) nofun (aI Z g21) Z Z Z) (jR ?_))))))))))));obtain rfl:=KD h;exact ⟨u16,trivial,yV Z (Ky Z (Ky Z (Ky (congrArg (hS false 0 u16 1) (by simp:s14.1.length=(s14.1.set s14.2.toNat (KA .i64 (J s14.1 s14.2) (yx .i64 (1:Int) s6.2))).length)) (Ky Z Kw))))⟩
   refine jG ?_
   cases h
   exact ⟨u16,trivial,kw Z Z⟩
  refine jM (lX h fun h=>?_)
  cases h
  exact ⟨u16,trivial,kw Z Z⟩
 refine jM (lX h fun h=>?_)
 cases h
 exact ⟨u8,trivial,kw Z Z⟩
theorem nz (r_:LI) {q} (h:fe r_=some q):ax Tryz.prog 102 [eL cI r_] (eL cI q):=by
 refine pM Tryz.func102 Z (by kernel_rfl) Z (jI (oN as' (jA (jI (oA (EvA.mkO (c:=cI) ([]:LI) [] aK Z Z Z qD Z Z) (oN mv (jL h fun g1 h=>oA (EvA.appF (l:=([]:LI)) r_ aK (by kernel_rfl) Z Z Z (bK.fz (l:=r_) Z qD) g1) (oN (Kz.asg (hS false 0 (0+1) 1 ((([]:LI)++r_).length)) Z) (jA ?_)))))))));refine T.jF (G:=Nat) h (fun s2 gh=>True) (fun s2 gh=>[(3,hS false 0 gh 1 s2.length)]) (fun s2 gh=>[bE false gh 1 3 (s2.map cI)]) (fun s2 u27 h hg=>?_) (fun s2 h=>?_)
 ·refine jI (oN mv (oN (Kz.asg (hS false 0 u27 1 s2.length) Z) (jA (jK ?_))));obtain rfl:=KD h
  repeat (first|refine jd ?_|refine je ?_)
  exact jQ (vs:=[hS false 0 u27 1 s2.length]) (.cons (.tmp Z) .nil) (Fz.own (g:=false) (ver:=u27) (l:=s2) Z Z Z nofun qD)
 refine jI (oN as' (jA (jE ?_)));refine jO (S:=(LI)×Int) (G:=Nat) iP (fun s6 gh=>True) (fun s6 gh=>[(4,I s6.2),(3,hS false 0 gh 1 s6.1.length)]) (fun s6 gh=>[bE false gh 1 3 (s6.1.map cI)]) (s0:=((([]:LI)++r_),U)) (0+1) h trivial (kw Z Z) (fun s6 u8 ws6 h hg=>?_);refine jH (jI (oN mv (oN mv (oN (Kz.lenO (g:=false) aK Z nofun) (oN (Kz.ilt Z Z) (jA ?_))))));refine jN Z h (fun q9 h=>?_) (fun q9 h=>?_)
 ·refine jG ?_;refine T.jF (G:=Nat) h (fun s10 gh=>True) (fun s10 gh=>[(4,I s6.2),(3,hS false 0 gh 1 s10.length)]) (fun s10 gh=>[bE false gh 1 3 (s10.map cI)]) (fun s10 u25 h hg=>?_) (fun s10 h=>?_)
  ·refine jC (oN mv (jW h fun g26 h=>oN (Kz.add Z Z g26) (oN as' (jA ?_))));obtain rfl:=KD h;exact ⟨(s10,(s6.2+V)),u25,Z,trivial,kw Z Z⟩
  refine jE (jI (oN as' (jA (jE ?_))));refine jO (S:=(LI)×Int) (G:=Nat) (dU s6) (fun s14 gh=>True) (fun s14 gh=>[(5,I s14.2),(4,I s6.2),(3,hS false 0 gh 1 s14.1.length)]) (fun s14 gh=>[bE false gh 1 3 (s14.1.map cI)]) (s0:=(s6.1,U)) u8 h trivial (kw Z Z) (fun s14 u16 ws14 h hg=>?_);refine jH (jI (oN mv (oN mv (oN (Kz.lenO (g:=false) aK Z nofun) (oN (Kz.ilt Z Z) (jA ?_))))));refine jN Z h (fun q17 h=>?_) (fun q17 h=>?_)
  ·refine jG ?_;refine T.jF (G:=Nat) h (fun s18 gh=>True) (fun s18 gh=>[(5,I s14.2),(4,I s6.2),(3,hS false 0 gh 1 s18.length)]) (fun s18 gh=>[bE false gh 1 3 (s18.map cI)]) (fun s18 u23 h hg=>?_) (fun s18 h=>?_)
   ·refine jC (oN mv (jW h fun g24 h=>oN (Kz.add Z Z g24) (oN as' (jA ?_))));obtain rfl:=KD h;exact ⟨(s18,(s14.2+V)),u23,Z,trivial,kw Z Z⟩
   refine jE (jI (oN mv (oN mv (oN mv (jB h fun v19 cv19 h=>oA (EvA.callT Z Z (dM s14.1 s14.2 s6.2 cv19) (.cons (Fz.own (g:=false) (ver:=u16) (l:=s14.1) Z Z Z nofun qD) (.cons (qC Z) (.cons (qC Z) .nil))) Z) (jA ?_))))));refine jN Z h (fun q20 h=>?_) (fun q20 h=>?_)
   ·refine T.drawH (dG [dF,dF,dF,dF,dF,([0],false),dF,dF,dF,([0],false),dF,dF,([0],true)]) (by kernel_rfl) (by kernel_rfl) (fN Z mv (fN Z mv (fN Z mv (fN Z mv (jD h fun g21 h=>fN Z (Kz.ixO (g:=false) aK Z Z nofun g21) (fR [0] Z (fun G hG=>EvA.ldO (g:=false) (l:=s14.1) (I (J s14.1 s14.2)) KN Z (hG.a0 Z) nofun (aI Z g21) Z) (fN Z mv (fN Z mv (jD h fun g22 h=>fN Z (Kz.ixO (g:=false) aK Z Z nofun g22) (fR [0] Z (fun G hG=>EvA.ldO (g:=false) (l:=s14.1) (I (J s14.1 s6.2)) KN Z (hG.a0 Z) nofun (aI Z g22) Z) (fN Z (Kz.bor Z Z) (fN Z (Kz.ixO (g:=false) aK Z Z nofun g21) (fV 0 [] Z Z (fun G hG=>EvA.stO (g:=false) (l:=s14.1) (cs:=[I (KA .i64 (J s14.1 s14.2) (J s14.1 s6.2))]) (KA .i64 (J s14.1 s14.2) (J s14.1 s6.2)) KN Z Z (hG.a0 Z) nofun (aI Z g21) Z Z Z) ?_)))))))))))));refine jR ?_;obtain rfl:=KD h;exact ⟨u16,trivial,yV Z (Ky Z (Ky Z (Ky (congrArg (hS false 0 u16 1) (by simp:s14.1.length=(s14.1.set s14.2.toNat (KA .i64 (J s14.1 s14.2) (J s14.1 s6.2))).length)) Kw)))⟩
   refine jG ?_
   cases h
   exact ⟨u16,trivial,kw Z Z⟩
  refine jM (lX h fun h=>?_)
  cases h
  exact ⟨u16,trivial,kw Z Z⟩
 refine jM (lX h fun h=>?_)
 cases h
 exact ⟨u8,trivial,kw Z Z⟩
theorem ve (a:LI) (b:LI) {q} (h:kS a b=some q):ax Tryz.prog 103 [eL cI a,eL cI b] (eL cI q):=by
 refine pM Tryz.func103 Z (by kernel_rfl) Z (jI (oN as' (jA (jI (oA (EvA.mkO (c:=cI) ([]:LI) [] aK Z Z Z qD Z Z) (oN (Kz.asg (hS false 0 0 1 (([]:LI).length)) Z) (jA ?_)))))));refine T.jF (G:=Nat) h (fun s1 gh=>True) (fun s1 gh=>[(5,hS false 0 gh 1 s1.length)]) (fun s1 gh=>[bE false gh 1 3 (s1.map cI)]) (fun s1 u13 h hg=>?_) (fun s1 h=>?_)
 ·refine jI (oN mv (oN (Kz.asg (hS false 0 u13 1 s1.length) Z) (jA (jK ?_))));obtain rfl:=KD h
  repeat (first|refine jd ?_|refine je ?_)
  exact jQ (vs:=[hS false 0 u13 1 s1.length]) (.cons (.tmp Z) .nil) (Fz.own (g:=false) (ver:=u13) (l:=s1) Z Z Z nofun qD)
 refine jI (oN as' (jA (jE ?_)));refine jO (S:=(LI)×Int) (G:=Nat) (gI a b) (fun s5 gh=>True) (fun s5 gh=>[(6,I s5.2),(5,hS false 0 gh 1 s5.1.length),(0,eL cI a),(1,eL cI b)]) (fun s5 gh=>[bE false gh 1 3 (s5.1.map cI)]) (s0:=(([]:LI),U)) 0 h trivial (kw Z Z) (fun s5 u7 ws5 h hg=>?_);refine jH (jI (oN mv (oN mv (oN (Kz.lenL aK Z) (oN (Kz.ilt Z Z) (jA ?_))))));refine jN Z h (fun q8 h=>?_) (fun q8 h=>?_)
 ·refine jG (jH (jE (jP (dG [dF,dF,dF,dF,dF,dF,dF,dF,dF,dF,dF,([0],true),dF]) (by kernel_rfl) (by kernel_rfl) (fN Z mv (fN Z mv (fN Z mv (jD h fun g9 h=>fN Z (Kz.ixL aK Z Z g9 qD) (fN Z (lf (I (J a s5.2)) KN Z) (fN Z mv (fN Z mv (jD h fun g10 h=>fN Z (Kz.ixL aK Z Z g10 qD) (fN Z (lf (I (J b s5.2)) KN Z) (fN Z (Kz.bor Z Z) ?_)))))))))))));refine fN Z (Kz.mkF (c:=cI) ([(KA .i64 (J a s5.2) (J b s5.2))]:LI) [[I (KA .i64 (J a s5.2) (J b s5.2))]] aK Z Z Z qD qD Z) (jL h fun g11 h=>fW 0 [] Z Z (fun G hG=>EvA.app1 (g:=false) (l:=s5.1) (KA .i64 (J a s5.2) (J b s5.2)) aK (by kernel_rfl) Z Z (hG.a0 Z) nofun (bK.fz (l:=([(KA .i64 (J a s5.2) (J b s5.2))]:LI)) Z qD) g11) (fN Z (Kz.asg (hS false 0 (u7+1) 1 ((s5.1++[(KA .i64 (J a s5.2) (J b s5.2))]).length)) Z) (jR (T.clean (H0:=[bE false (u7+1) 1 3 ((s5.1++[(KA .i64 (J a s5.2) (J b s5.2))]).map cI)]) (e0:=ak [(5,hS false 0 (u7+1) 1 ((s5.1++[(KA .i64 (J a s5.2) (J b s5.2))]).length)),(6,I s5.2),(0,eL cI a),(1,eL cI b)]) Z (Ky Z (Ky Z (Ky Z (Ky Z Kw)))) (jC (oN mv (jW h fun g12 h=>oN (Kz.add Z Z g12) (oN as' (jA ?_)))))))));obtain rfl:=KD h;exact ⟨((s5.1++[(KA .i64 (J a s5.2) (J b s5.2))]),(s5.2+V)),u7+1,Z,trivial,kw Z Z⟩
 refine jM (lX h fun h=>?_)
 cases h
 exact ⟨u7,trivial,kw Z Z⟩
theorem xd (a:LI) (b:LI) {q} (h:l8 a b=some q):ax Tryz.prog 104 [eL cI a,eL cI b] (eL cI q):=by
 refine pM Tryz.func104 Z (by kernel_rfl) Z (jI (oN as' (jA (jI (oA (EvA.mkO (c:=cI) ([]:LI) [] aK Z Z Z qD Z Z) (oN (Kz.asg (hS false 0 0 1 (([]:LI).length)) Z) (jA ?_)))))));refine T.jF (G:=Nat) h (fun s1 gh=>True) (fun s1 gh=>[(5,hS false 0 gh 1 s1.length)]) (fun s1 gh=>[bE false gh 1 3 (s1.map cI)]) (fun s1 u13 h hg=>?_) (fun s1 h=>?_)
 ·refine jI (oN mv (oN (Kz.asg (hS false 0 u13 1 s1.length) Z) (jA (jK ?_))));obtain rfl:=KD h
  repeat (first|refine jd ?_|refine je ?_)
  exact jQ (vs:=[hS false 0 u13 1 s1.length]) (.cons (.tmp Z) .nil) (Fz.own (g:=false) (ver:=u13) (l:=s1) Z Z Z nofun qD)
 refine jI (oN as' (jA (jE ?_)));refine jO (S:=(LI)×Int) (G:=Nat) (iB a b) (fun s5 gh=>True) (fun s5 gh=>[(6,I s5.2),(5,hS false 0 gh 1 s5.1.length),(0,eL cI a),(1,eL cI b)]) (fun s5 gh=>[bE false gh 1 3 (s5.1.map cI)]) (s0:=(([]:LI),U)) 0 h trivial (kw Z Z) (fun s5 u7 ws5 h hg=>?_);refine jH (jI (oN mv (oN mv (oN (Kz.lenL aK Z) (oN (Kz.ilt Z Z) (jA ?_))))));refine jN Z h (fun q8 h=>?_) (fun q8 h=>?_)
 ·refine jG (jH (jE (jP (dG [dF,dF,dF,dF,dF,dF,dF,dF,dF,dF,dF,([0],true),dF]) (by kernel_rfl) (by kernel_rfl) (fN Z mv (fN Z mv (fN Z mv (jD h fun g9 h=>fN Z (Kz.ixL aK Z Z g9 qD) (fN Z (lf (I (J a s5.2)) KN Z) (fN Z mv (fN Z mv (jD h fun g10 h=>fN Z (Kz.ixL aK Z Z g10 qD) (fN Z (lf (I (J b s5.2)) KN Z) (fN Z (Kz.band Z Z) ?_)))))))))))));refine fN Z (Kz.mkF (c:=cI) ([(cN .i64 (J a s5.2) (J b s5.2))]:LI) [[I (cN .i64 (J a s5.2) (J b s5.2))]] aK Z Z Z qD qD Z) (jL h fun g11 h=>fW 0 [] Z Z (fun G hG=>EvA.app1 (g:=false) (l:=s5.1) (cN .i64 (J a s5.2) (J b s5.2)) aK (by kernel_rfl) Z Z (hG.a0 Z) nofun (bK.fz (l:=([(cN .i64 (J a s5.2) (J b s5.2))]:LI)) Z qD) g11) (fN Z (Kz.asg (hS false 0 (u7+1) 1 ((s5.1++[(cN .i64 (J a s5.2) (J b s5.2))]).length)) Z) (jR (T.clean (H0:=[bE false (u7+1) 1 3 ((s5.1++[(cN .i64 (J a s5.2) (J b s5.2))]).map cI)]) (e0:=ak [(5,hS false 0 (u7+1) 1 ((s5.1++[(cN .i64 (J a s5.2) (J b s5.2))]).length)),(6,I s5.2),(0,eL cI a),(1,eL cI b)]) Z (Ky Z (Ky Z (Ky Z (Ky Z Kw)))) (jC (oN mv (jW h fun g12 h=>oN (Kz.add Z Z g12) (oN as' (jA ?_)))))))));obtain rfl:=KD h;exact ⟨((s5.1++[(cN .i64 (J a s5.2) (J b s5.2))]),(s5.2+V)),u7+1,Z,trivial,kw Z Z⟩
 refine jM (lX h fun h=>?_)
 cases h
 exact ⟨u7,trivial,kw Z Z⟩
theorem vg (a:LI) (b:LI) {q} (h:kT a b=some q):ax Tryz.prog 105 [eL cI a,eL cI b] (eL cI q):=by
 refine pM Tryz.func105 Z (by kernel_rfl) Z (jI (oN as' (jA (jI (oA (EvA.mkO (c:=cI) ([]:LI) [] aK Z Z Z qD Z Z) (oN (Kz.asg (hS false 0 0 1 (([]:LI).length)) Z) (jA ?_)))))));refine T.jF (G:=Nat) h (fun s1 gh=>True) (fun s1 gh=>[(5,hS false 0 gh 1 s1.length)]) (fun s1 gh=>[bE false gh 1 3 (s1.map cI)]) (fun s1 u13 h hg=>?_) (fun s1 h=>?_)
 ·refine jI (oN mv (oN (Kz.asg (hS false 0 u13 1 s1.length) Z) (jA (jK ?_))));obtain rfl:=KD h
  repeat (first|refine jd ?_|refine je ?_)
  exact jQ (vs:=[hS false 0 u13 1 s1.length]) (.cons (.tmp Z) .nil) (Fz.own (g:=false) (ver:=u13) (l:=s1) Z Z Z nofun qD)
 refine jI (oN as' (jA (jE ?_)));refine jO (S:=(LI)×Int) (G:=Nat) (gJ a b) (fun s5 gh=>True) (fun s5 gh=>[(6,I s5.2),(5,hS false 0 gh 1 s5.1.length),(0,eL cI a),(1,eL cI b)]) (fun s5 gh=>[bE false gh 1 3 (s5.1.map cI)]) (s0:=(([]:LI),U)) 0 h trivial (kw Z Z) (fun s5 u7 ws5 h hg=>?_);refine jH (jI (oN mv (oN mv (oN (Kz.lenL aK Z) (oN (Kz.ilt Z Z) (jA ?_))))));refine jN Z h (fun q8 h=>?_) (fun q8 h=>?_)
 ·refine jG (jH (jE (jP (dG [dF,dF,dF,dF,dF,dF,dF,dF,dF,dF,dF,([0],true),dF]) (by kernel_rfl) (by kernel_rfl) (fN Z mv (fN Z mv (fN Z mv (jD h fun g9 h=>fN Z (Kz.ixL aK Z Z g9 qD) (fN Z (lf (I (J a s5.2)) KN Z) (fN Z mv (fN Z mv (jD h fun g10 h=>fN Z (Kz.ixL aK Z Z g10 qD) (fN Z (lf (I (J b s5.2)) KN Z) (fN Z (Kz.bandNot Z Z) ?_)))))))))))));refine fN Z (Kz.mkF (c:=cI) ([(lw .i64 (J a s5.2) (J b s5.2))]:LI) [[I (lw .i64 (J a s5.2) (J b s5.2))]] aK Z Z Z qD qD Z) (jL h fun g11 h=>fW 0 [] Z Z (fun G hG=>EvA.app1 (g:=false) (l:=s5.1) (lw .i64 (J a s5.2) (J b s5.2)) aK (by kernel_rfl) Z Z (hG.a0 Z) nofun (bK.fz (l:=([(lw .i64 (J a s5.2) (J b s5.2))]:LI)) Z qD) g11) (fN Z (Kz.asg (hS false 0 (u7+1) 1 ((s5.1++[(lw .i64 (J a s5.2) (J b s5.2))]).length)) Z) (jR (T.clean (H0:=[bE false (u7+1) 1 3 ((s5.1++[(lw .i64 (J a s5.2) (J b s5.2))]).map cI)]) (e0:=ak [(5,hS false 0 (u7+1) 1 ((s5.1++[(lw .i64 (J a s5.2) (J b s5.2))]).length)),(6,I s5.2),(0,eL cI a),(1,eL cI b)]) Z (Ky Z (Ky Z (Ky Z (Ky Z Kw)))) (jC (oN mv (jW h fun g12 h=>oN (Kz.add Z Z g12) (oN as' (jA ?_)))))))));obtain rfl:=KD h;exact ⟨((s5.1++[(lw .i64 (J a s5.2) (J b s5.2))]),(s5.2+V)),u7+1,Z,trivial,kw Z Z⟩
 refine jM (lX h fun h=>?_)
 cases h
 exact ⟨u7,trivial,kw Z Z⟩
theorem sD (a:LI) (b:LI) {q} (h:iC a b=some q):ax Tryz.prog 106 [eL cI a,eL cI b] (eL cI q):=by
 refine pM Tryz.func106 Z (by kernel_rfl) Z (jI (oN as' (jA (jI (oA (EvA.mkO (c:=cI) ([]:LI) [] aK Z Z Z qD Z Z) (oN (Kz.asg (hS false 0 0 1 (([]:LI).length)) Z) (jA ?_)))))));refine T.jF (G:=Nat) h (fun s1 gh=>True) (fun s1 gh=>[(5,hS false 0 gh 1 s1.length)]) (fun s1 gh=>[bE false gh 1 3 (s1.map cI)]) (fun s1 u24 h hg=>?_) (fun s1 h=>?_)
 ·refine jI (oN mv (oN (Kz.asg (hS false 0 u24 1 s1.length) Z) (jA (jK ?_))));obtain rfl:=KD h
  repeat (first|refine jd ?_|refine je ?_)
  exact jQ (vs:=[hS false 0 u24 1 s1.length]) (.cons (.tmp Z) .nil) (Fz.own (g:=false) (ver:=u24) (l:=s1) Z Z Z nofun qD)
 refine jI (oN as' (jA (jE ?_)));refine jO (S:=(LI)×Int) (G:=Nat) (eO a b) (fun s5 gh=>True) (fun s5 gh=>[(6,I s5.2),(5,hS false 0 gh 1 s5.1.length),(0,eL cI a),(1,eL cI b)]) (fun s5 gh=>[bE false gh 1 3 (s5.1.map cI)]) (s0:=(([]:LI),U)) 0 h trivial (kw Z Z) (fun s5 u7 ws5 h hg=>?_);refine jH (jI (oN mv (oN mv (oN (Kz.lenL aK Z) (oN (Kz.ilt Z Z) (jA ?_))))));refine jN Z h (fun q8 h=>?_) (fun q8 h=>?_)
 ·refine jG ?_;refine T.jF (G:=Nat) h (fun s9 gh=>True) (fun s9 gh=>[(5,hS false 0 gh 1 s9.length),(6,I s5.2),(0,eL cI a),(1,eL cI b)]) (fun s9 gh=>[bE false gh 1 3 (s9.map cI)]) (fun s9 u22 h hg=>?_) (fun s9 h=>?_)
  ·refine jC (oN mv (jW h fun g23 h=>oN (Kz.add Z Z g23) (oN as' (jA ?_))));obtain rfl:=KD h;exact ⟨(s9,(s5.2+V)),u22,Z,trivial,kw Z Z⟩
  refine jE (jI (oN as' (jA ?_)));refine T.jU h (fun s10=>[(7,I s10),(6,I s5.2),(5,hS false 0 u7 1 s5.1.length),(0,eL cI a),(1,eL cI b)]) (fun s10=>[bE false u7 1 3 (s5.1.map cI)]) (fun s10 h=>?_) (fun s10 h=>?_)
  ·refine jC (oN mv (oN mv (oN (Kz.mkF (c:=cI) ([s10]:LI) [[I s10]] aK Z Z Z qD qD Z) (jL h fun g21 h=>oA (EvA.app1 (g:=false) (l:=s5.1) s10 aK (by kernel_rfl) Z Z Z nofun (bK.fz (l:=([s10]:LI)) Z qD) g21) (oN (Kz.asg (hS false 0 (u7+1) 1 ((s5.1++[s10]).length)) Z) (jA ?_))))))
   cases h
   exact ⟨u7+1,trivial,kw Z Z⟩
  refine jI (oN as' (jA (jE ?_)));refine T.lU h (fun s13=>[(8,I s13.1),(7,I s13.2),(6,I s5.2),(5,hS false 0 u7 1 s5.1.length),(0,eL cI a),(1,eL cI b)]) (fun s13=>[bE false u7 1 3 (s5.1.map cI)]) (kw Z Z) (fun s13 ws13 h=>?_);refine jH (jI (oN mv (oN mv (oN (Kz.lenL aK Z) (oN (Kz.ilt Z Z) (jA ?_))))));refine jN Z h (fun q15 h=>?_) (fun q15 h=>?_)
  ·refine jG ?_;refine T.jU h (fun s16=>[(7,I s16),(8,I s13.1),(6,I s5.2),(5,hS false 0 u7 1 s5.1.length),(0,eL cI a),(1,eL cI b)]) (fun s16=>[bE false u7 1 3 (s5.1.map cI)]) (fun s16 h=>?_) (fun s16 h=>?_)
   ·refine jC (oN mv (jW h fun g20 h=>oN (Kz.add Z Z g20) (oN as' (jA ?_))));exact lE h (kw Z Z)
   refine jE (jI (oN mv (oN mv (oN mv (oC h (fun _=>dM _ _ _) Z Z Z Z fun v17 _ h=>jA ?_)))));refine jN Z h (fun q18 h=>?_) (fun q18 h=>?_)
   ·refine jC (oN mv (oN mv (oN mv (jD h fun g19 h=>oN (Kz.ixL aK Z Z g19 qD) (oN (lf (I (J b s13.1)) KN Z) (oN (Kz.bor Z Z) (oN as' (jA ?_))))))))
    cases h
    exact ⟨(),trivial,kw Z Z⟩
   refine jG ?_
   cases h
   exact ⟨(),trivial,kw Z Z⟩
  refine jM (lX h fun h=>?_)
  cases h
  exact ⟨(),trivial,kw Z Z⟩
 refine jM (lX h fun h=>?_)
 cases h
 exact ⟨u7,trivial,kw Z Z⟩
theorem vk:∀ (nf:Nat) (p:List (List KE)) (x:KG) (e_:aa) {q} (h:bQ nf p x e_=some q),ax Tryz.prog 54 [eL (cL KE.c) p,.agg (KG.c x),.agg (aa.c e_)] (eL cI q):=by
 intro nf
 induction nf with
 | zero=>intros;rename_i h;cases h
 | succ nf ih=>
  intro p x e_ q h;replace h:bP (bQ nf) p x e_=some q:=h;refine pM Tryz.func54 Z (by kernel_rfl) Z (jI (oN (Kz.bxF [eL cI x.From,eL (cL cI) x.Order] Z Z Z) (oN (Kz.bxF (aa.c e_) Z Z Z) (oN as' (jA (jH (jI (oN (fa oU Z) (oN (lf (I e_.Op) KN Z) (oN (Kz.ieq Z Z) (jA ?_)))))))))));refine jN Z h (fun q1 h=>?_) (fun q1 h=>?_)
  ·refine jI (oN mv (oN (lf (.agg (KG.c x)) qX Z) (oN (fa oU Z) (oN (lf (St e_.Name) ty9 Z) (oC h (fun _=>xD _ _ _) Z Z Z Z fun v2 _ h=>oN as' (jA (jK ?_)))))))
   cases h
   exact aD Z Z Z
  refine jG (jH (jP (fun _=>([],false)) (by kernel_rfl) (by kernel_rfl) (fN Z mv (fN Z (lf (.agg (KG.c x)) qX Z) (fN Z (fa oU Z) (fN Z (lf (eL TXimpl_RelExpr.c e_.Kids) Bz Z) (jD h fun g3 h=>fN Z (Kz.res (Kz.ixL yT Z Z g3 TXimpl_RelExpr.len) (r' := .fp (aa.c (J e_.Kids U).out) 0) (fun _ _ hr=>mH (TXimpl_RelExpr.out_c _) hr)) (fN Z (lf (.agg (aa.c ((J e_.Kids U).out))) tT Z) (fC h (fun _=>ih _ _ _) Z Z Z Z Z fun v4 _ h=>fN Z as' (jR (jH (jI (oN (fa oU Z) ?_)))))))))))));refine oN (lf (I e_.Op) KN Z) (jA (jE (jI (oN (Kz.ieq Z Z) (oN as' (jA ?_))))));refine jN Z h (fun q5 h=>?_) (fun q5 h=>?_)
  ·refine jH (T.clean (H0:=[]) (e0:=ak [(7,eL cI v4)]) Z (Ky Z Kw) (jC (oN mv (oC h (fun _=>sx _) Z Z Z Z fun v6 _ h=>oN as' (jA (jK ?_))))))
   cases h
   exact aD Z Z Z
  refine jH (T.clean (H0:=[]) (e0:=ak [(25,I e_.Op),(7,eL cI v4),(5,.fp (aa.c e_) 0),(4,.fp (KG.c x) 0),(0,eL (cL KE.c) p)]) Z (Ky Z (Ky Z (Ky Z (Ky Z (Ky Z Kw))))) (jC (oN (Kz.ieq Z Z) (oN as' (jA ?_)))));refine jN Z h (fun q7 h=>?_) (fun q7 h=>?_)
  ·refine jI (oN mv (oC h (fun _=>nz _) Z Z Z Z fun v8 _ h=>oN as' (jA (jK ?_))))
   cases h
   exact aD Z Z Z
  refine jG (jH (jP (fun _=>([],false)) (by kernel_rfl) (by kernel_rfl) (fN Z mv (fN Z (lf (.agg (KG.c x)) qX Z) (fN Z (fa oU Z) (fN Z (lf (eL TXimpl_RelExpr.c e_.Kids) Bz Z) (jD h fun g9 h=>fN Z (Kz.res (Kz.ixL yT Z Z g9 TXimpl_RelExpr.len) (r' := .fp (aa.c (J e_.Kids V).out) 0) (fun _ _ hr=>mH (TXimpl_RelExpr.out_c _) hr)) (fN Z (lf (.agg (aa.c ((J e_.Kids V).out))) tT Z) (fC h (fun _=>ih _ _ _) Z Z Z Z Z fun v10 _ h=>fN Z as' (jR (jH (jI (oN (fa oU Z) ?_)))))))))))));refine oN (lf (I e_.Op) KN Z) (jA (jE (jI (oN (Kz.ieq Z Z) (oN as' (jA ?_))))));refine jN Z h (fun q11 h=>?_) (fun q11 h=>?_)
  ·refine jH (T.clean (H0:=[]) (e0:=ak [(8,eL cI v10),(7,eL cI v4)]) Z (Ky Z (Ky Z Kw)) (jC (oN mv (oN mv (oC h (fun _=>ve _ _) Z Z Z Z fun v12 _ h=>oN as' (jA (jK ?_)))))))
   cases h
   exact aD Z Z Z
  refine jH (T.clean (H0:=[]) (e0:=ak [(42,I e_.Op),(8,eL cI v10),(7,eL cI v4)]) Z (Ky Z (Ky Z (Ky Z Kw))) (jC (oN (Kz.ieq Z Z) (oN as' (jA ?_)))));refine jN Z h (fun q13 h=>?_) (fun q13 h=>?_)
  ·refine jI (oN mv (oN mv (oC h (fun _=>xd _ _) Z Z Z Z fun v14 _ h=>oN as' (jA (jK ?_)))))
   cases h
   exact aD Z Z Z
  refine jI (oN (Kz.ieq Z Z) (oN as' (jA ?_)));refine jN Z h (fun q15 h=>?_) (fun q15 h=>?_)
  ·refine jI (oN mv (oN mv (oC h (fun _=>vg _ _) Z Z Z Z fun v16 _ h=>oN as' (jA (jK ?_)))))
   cases h
   exact aD Z Z Z
  refine jG (jI (oN mv (oN mv (oC h (fun _=>sD _ _) Z Z Z Z fun v17 _ h=>oN as' (jA (jK ?_))))))
  cases h
  exact aD Z Z Z
theorem p6 (p:List (List KE)) (x:KG) (e_:aa) {q} (h:l9 p x e_=some q):ax Tryz.prog 54 [eL (cL KE.c) p,.agg (KG.c x),.agg (aa.c e_)] (eL cI q):=by
 obtain ⟨nf,h⟩:=nC h;exact vk nf p x e_ h
theorem oZ (r_:LI) {q} (h:kU r_=some q):ax Tryz.prog 146 [eL cI r_] (Bo q):=by
 refine pM Tryz.func146 Z (by kernel_rfl) Z (jI (oN as' (jA ?_)));obtain ⟨Ks1,es1,ws1,h,ks1⟩:=mX h;refine T.join (S:=Unit) (G:=Unit) (fun s1=>Ks1 s1=some q) (fun s1 gh=>True) (fun s1 gh=>[]) (fun s1 gh=>[]) (fun s1 gh h hg=>?_) ?_
 ·clear ks1;subst es1;refine jI (oN as' (jA (jK ?_)))
  cases h
  exact aD Z Z Z
 refine jI (oN as' (jA (jE ?_)));refine T.lU h (fun s4=>[(3,I s4),(0,eL cI r_)]) (fun s4=>[]) (kw Z Z) (fun s4 ws4 h=>?_);refine jH (jI (oN mv (oN mv (oN (Kz.lenL aK Z) (oN (Kz.ilt Z Z) (jA ?_))))));refine jN Z h (fun q6 h=>?_) (fun q6 h=>?_)
 ·refine jG (jH (jE (jI (oN mv (oN mv (oN mv (oC h (fun _=>dM _ _ _) Z Z Z Z fun v7 _ h=>jA ?_)))))));refine jN Z h (fun q8 h=>?_) (fun q8 h=>?_)
  ·refine jI (oN as' (jA (jK (lX h fun h=>?_))));obtain rfl:=KD h;replace h:=congrArg some (show _=_ from ks1)
   cases h
   exact aD Z Z Z
  refine jG (jC (oN mv (jW h fun g9 h=>oN (Kz.add Z Z g9) (oN as' (jA ?_)))));exact lE h (kw Z Z)
 refine jM (lX h fun h=>?_)
 cases h
 exact ⟨(),(),ks1,trivial,kw Z Z⟩
theorem sF (r_:LI) {q} (h:iD r_=some q):ax Tryz.prog 145 [eL cI r_] (Bo q):=by
 refine pM Tryz.func145 Z (by kernel_rfl) Z (jI (oN as' (jA (jI (oN mv (oC h (fun _=>nz _) Z Z Z Z fun v1 _ h=>oC h (fun _=>oZ _) Z Z Z Z fun v2 _ h=>oN as' (jA (jK ?_))))))))
 cases h
 exact aD Z Z Z
theorem vo (r_:LI) {q} (h:kV r_=some q):ax Tryz.prog 147 [eL cI r_] (I q):=by
 refine pM Tryz.func147 Z (by kernel_rfl) Z (jI (oN as' (jA (jI (oN as' (jA ?_))))));refine T.jU h (fun s1=>[(3,I s1)]) (fun s1=>[]) (fun s1 h=>?_) (fun s1 h=>?_)
 ·refine jI (oN mv (oN as' (jA (jK ?_))))
  cases h
  exact aD Z Z Z
 refine jI (oN as' (jA (jE ?_)));refine T.lU h (fun s4=>[(4,I s4.1),(3,I s4.2),(0,eL cI r_)]) (fun s4=>[]) (kw Z Z) (fun s4 ws4 h=>?_);refine jH (jI (oN mv (oN mv (oN (Kz.lenL aK Z) (oN (Kz.ilt Z Z) (jA ?_))))));refine jN Z h (fun q6 h=>?_) (fun q6 h=>?_)
 ·refine jG ?_;refine T.jU h (fun s7=>[(4,I s4.1),(3,I s7),(0,eL cI r_)]) (fun s7=>[]) (fun s7 h=>?_) (fun s7 h=>?_)
  ·refine jC (oN mv (jW h fun g18 h=>oN (Kz.add Z Z g18) (oN as' (jA ?_))));exact lE h (kw Z Z)
  refine jE (jI (oN as' (jA (jE ?_))));refine T.lU h (fun s10=>[(5,I s10.1),(4,I s4.1),(3,I s10.2),(0,eL cI r_)]) (fun s10=>[]) (kw Z Z) (fun s10 ws10 h=>?_);refine jH (jI (oN mv (oN mv (oN (Kz.lenL aK Z) (oN (Kz.ilt Z Z) (jA ?_))))));refine jN Z h (fun q12 h=>?_) (fun q12 h=>?_)
  ·refine jG ?_;refine T.jU h (fun s13=>[(3,I s13),(5,I s10.1),(4,I s4.1),(0,eL cI r_)]) (fun s13=>[]) (fun s13 h=>?_) (fun s13 h=>?_)
   ·refine jC (oN mv (jW h fun g17 h=>oN (Kz.add Z Z g17) (oN as' (jA ?_))));exact lE h (kw Z Z)
   refine jE (jI (oN mv (oN mv (oN mv (oC h (fun _=>dM _ _ _) Z Z Z Z fun v14 _ h=>jA ?_)))));refine jN Z h (fun q15 h=>?_) (fun q15 h=>?_)
   ·refine jC (oN mv (jW h fun g16 h=>oN (Kz.add Z Z g16) (oN as' (jA ?_))))
    cases h
    exact ⟨(),trivial,kw Z Z⟩
   refine jG ?_
   cases h
   exact ⟨(),trivial,kw Z Z⟩
  refine jM (lX h fun h=>?_)
  cases h
  exact ⟨(),trivial,kw Z Z⟩
 refine jM (lX h fun h=>?_)
 cases h
 exact ⟨(),trivial,kw Z Z⟩
theorem vp (kind:Int) (r_:LI) {q} (h:kW kind r_=some q):ax Tryz.prog 97 [I kind,eL cI r_] (Bo q):=by
 refine pM Tryz.func97 Z (by kernel_rfl) Z (jI (oN as' (jA (jH (jI (oN mv (jA (jE (jI (oN (Kz.ieq Z Z) (oN as' (jA ?_))))))))))));refine jN Z h (fun q1 h=>?_) (fun q1 h=>?_)
 ·refine jI (oN mv (oC h (fun _=>sF _) Z Z Z Z fun v2 _ h=>oN as' (jA (jK ?_))))
  cases h
  exact aD Z Z Z
 refine jI (oN (Kz.ieq Z Z) (oN as' (jA ?_)));refine jN Z h (fun q3 h=>?_) (fun q3 h=>?_)
 ·refine jI (oN mv (oC h (fun _=>oZ _) Z Z Z Z fun v4 _ h=>oN as' (jA (jK ?_))))
  cases h
  exact aD Z Z Z
 refine jG (jI (oN mv (oC h (fun _=>vo _) Z Z Z Z fun v5 _ h=>oN (Kz.ieq Z Z) (oN as' (jA (jK ?_))))))
 cases h
 exact aD Z Z Z
theorem uh (p:List (List KE)) (x:KG) (m:List ae) {q} (h:jo p x m=some q):ax Tryz.prog 50 [eL (cL KE.c) p,.agg (KG.c x),eL ae.c m] (I q):=by
 refine pM Tryz.func50 Z (by kernel_rfl) Z (jI (oN (Kz.bxF [eL cI x.From,eL (cL cI) x.Order] Z Z Z) (oN as' (jA ?_))));obtain ⟨Ks1,es1,ws1,h,ks1⟩:=mX h;refine T.join (S:=Unit) (G:=Unit) (fun s1=>Ks1 s1=some q) (fun s1 gh=>True) (fun s1 gh=>[]) (fun s1 gh=>[]) (fun s1 gh h hg=>?_) ?_
 ·clear ks1;subst es1;refine jI (oN as' (jA (jK ?_)))
  cases h
  exact aD Z Z Z
 refine jI (oN as' (jA (jE ?_)));refine T.lU h (fun s4=>[(7,I s4),(4,.fp (KG.c x) 0),(0,eL (cL KE.c) p),(2,eL ae.c m)]) (fun s4=>[]) (kw Z Z) (fun s4 ws4 h=>?_);refine jH (jI (oN mv (oN mv (oN (Kz.lenL vS Z) (oN (Kz.ilt Z Z) (jA ?_))))));refine jN Z h (fun q6 h=>?_) (fun q6 h=>?_)
 ·refine jG (jH (jE (jH (jP (fun _=>([],false)) (by kernel_rfl) (by kernel_rfl) (fN Z mv (fN Z mv (jD h fun g7 h=>fN Z (Kz.ixL vS Z Z g7 qD) (fN Z (fa Ci Z) (fN Z (lf (I ((J m s4).Kind)) KN Z) (fN Z mv (fN Z (lf (.agg (KG.c x)) qX Z) (fN Z mv (fN Z mv (fN Z (Kz.ixL vS Z Z g7 qD) ?_))))))))))))));refine fN Z (Kz.fafpS 3 Tryz.underlying65 Z (by kernel_rfl) Z Z (row2:=aa.c ((J m s4).Expr))) (fN Z (lf (.agg (aa.c ((J m s4).Expr))) tT Z) (fC h (fun _=>p6 _ _ _) Z Z Z Z Z fun v8 _ h=>fC h (fun _=>vp _ _) Z Z Z Z Z fun v9 _ h=>fN Z (Kz.not Z) (jR ?_)));refine jN Z h (fun q10 h=>?_) (fun q10 h=>?_)
  ·refine jH (T.clean (H0:=[]) (e0:=ak [(7,I s4)]) Z (Ky Z Kw) (jC (oN mv (oN as' (jA (jK (lX h fun h=>?_)))))));obtain rfl:=KD h;replace h:=congrArg some (show _=_ from ks1)
   cases h
   exact aD Z Z Z
  refine jG (T.clean (H0:=[]) (e0:=ak [(7,I s4),(4,.fp (KG.c x) 0),(0,eL (cL KE.c) p),(2,eL ae.c m)]) Z (Ky Z (Ky Z (Ky Z (Ky Z Kw)))) (jC (oN mv (jW h fun g11 h=>oN (Kz.add Z Z g11) (oN as' (jA ?_))))));exact lE h (kw Z Z)
 refine jM (lX h fun h=>?_)
 cases h
 exact ⟨(),(),ks1,trivial,kw Z Z⟩
theorem vq:∀ (nf:Nat) (n:Int) {q} (h:gb nf n=some q),ax Tryz.prog 51 [I n] (St q):=by
 intro nf
 induction nf with
 | zero=>intros;rename_i h;cases h
 | succ nf ih=>
  intro n q h;replace h:jp (gb nf) n=some q:=h;refine pM Tryz.func51 Z (by kernel_rfl) Z (jI (oN as' (jA (jH (jI (oN mv (oN (Kz.ilt Z Z) (jA ?_))))))));refine jN Z h (fun q1 h=>?_) (fun q1 h=>?_)
  ·refine jI (oN as' (jA (jK ?_)))
   cases h
   exact aD Z Z Z
  refine jG (jH (jI (oN mv (oN (Kz.ilt Z Z) (jA ?_)))));refine jN Z h (fun q2 h=>?_) (fun q2 h=>?_)
  ·refine jI (oN mv (jW h fun g3 h=>oN (Kz.neg Z g3) (oC h (fun _=>ih _) Z Z Z Z fun v4 _ h=>jD h fun g5 h=>oN (Kz.cat Z Z g5) (oN as' (jA (jK ?_))))))
   cases h
   exact aD Z Z Z
  refine jG (jI (oN as' (jA ?_)));refine T.jU h (fun s6=>[(3,St s6.1),(0,I s6.2)]) (fun s6=>[]) (fun s6 h=>?_) (fun s6 h=>?_)
  ·refine jI (oN mv (jW h fun g17 h=>oN (Kz.add Z Z g17) (jW h fun g18 h=>oN (Kz.iconv KN.und Tryz.underlying5 Z g18) (oN (Kz.mkF (c:=cY) ([((48:Int)+s6.2)]:LI) [[Y ((48:Int)+s6.2)]] Hv Z Z Z qD qD Z) (oA (EvA.b2s (l:=([((48:Int)+s6.2)]:LI)) Tryz.underlying123 Tryz.underlying5 Tryz.underlying9 (CS Z) (bK.fz (l:=([((48:Int)+s6.2)]:LI)) Z qD)) (oN mv (jD h fun g19 h=>oN (Kz.cat Z Z g19) (oN as' (jA (jK ?_))))))))))
   cases h
   exact aD Z Z Z
  refine jE ?_;refine T.lU h (fun s9=>[(3,St s9.1),(0,I s9.2)]) (fun s9=>[]) (kw Z Z) (fun s9 ws9 h=>?_);refine jH (jI (oN mv (oN (Kz.igt Z Z) (jA ?_))));refine jN Z h (fun q11 h=>?_) (fun q11 h=>?_)
  ·refine jG (jE (jI (oN mv (jD h fun g12 h=>oN (Kz.rem Z Z g12) (jW h fun g13 h=>oN (Kz.add Z Z g13) (jW h fun g14 h=>oN (Kz.iconv KN.und Tryz.underlying5 Z g14) (oN (Kz.mkF (c:=cY) ([((48:Int)+(s9.2.tmod (10:Int)))]:LI) [[Y ((48:Int)+(s9.2.tmod (10:Int)))]] Hv Z Z Z qD qD Z) (oA (EvA.b2s (l:=([((48:Int)+(s9.2.tmod (10:Int)))]:LI)) Tryz.underlying123 Tryz.underlying5 Tryz.underlying9 (CS Z) (bK.fz (l:=([((48:Int)+(s9.2.tmod (10:Int)))]:LI)) Z qD)) (oN mv (jD h fun g15 h=>oN (Kz.cat Z Z g15) (oN as' ?_)))))))))));refine jA (jC (oN mv (jW h fun g16 h=>oN (Kz.quo Z Z g12 g16) (oN as' (jA ?_)))));exact lE h (kw Z Z)
  refine jM (lX h fun h=>?_)
  cases h
  exact ⟨(),trivial,kw Z Z⟩
theorem j5 (n:Int) {q} (h:df n=some q):ax Tryz.prog 51 [I n] (St q):=by
 obtain ⟨nf,h⟩:=nC h;exact vq nf n h
theorem xe (r_:LI) (from_:Int) {q} (h:ma r_ from_=some q):ax Tryz.prog 99 [eL cI r_,I from_] (eL cI q):=by
 refine pM Tryz.func99 Z (by kernel_rfl) Z (jI (oN as' (jA (jI (oN mv (oN (Kz.mkF (c:=cI) ([from_]:LI) [[I from_]] aK Z Z Z qD qD Z) (oA (EvA.mkO (c:=(cL cI)) ([([from_]:LI)]:LL) [[eL cI ([from_]:LI)]] pU Z Z Z qD Z Z) (oN (Kz.asg (hS false 0 0 1 (([([from_]:LI)]:LL).length)) Z) (jA (jI (oN as' (jA ?_))))))))))));obtain ⟨Ks1,es1,ws1,h,ks1⟩:=mX h;refine T.join (S:=(LL)) (G:=Nat) (fun s1=>Ks1 s1=some q) (fun s1 gh=>True) (fun s1 gh=>[]) (fun s1 gh=>[bE false gh 1 23 (s1.map (cL cI))]) (fun s1 u37 h hg=>?_) ?_
 ·clear ks1;subst es1;refine jI (oN (Kz.mkF (c:=cI) ([]:LI) [] aK Z Z Z qD qD Z) (oN as' (jA (jK ?_))))
  cases h
  exact aD Z Z Z
 refine jI (oN as' (jA (jE ?_)));refine jO (S:=(LL)×Int×Int) (G:=Nat) (lG r_ from_) (fun s5 gh=>True) (fun s5 gh=>[(7,I s5.2.1),(6,I s5.2.2),(5,hS false 0 gh 1 s5.1.length),(0,eL cI r_),(1,I from_)]) (fun s5 gh=>[bE false gh 1 23 (s5.1.map (cL cI))]) (s0:=(([([from_]:LI)]:LL),U,U)) 0 h trivial (kw Z Z) (fun s5 u7 ws5 h hg=>?_);let d0:=s5.1.getD s5.2.1.toNat default;refine jH (jI (oN mv (oN mv (oN (Kz.lenO (g:=false) pU Z nofun) (oN (Kz.ilt Z Z) (jA ?_))))));refine jN Z h (fun q8 h=>?_) (fun q8 h=>?_)
 ·refine jG ?_;obtain ⟨Ks9,es9,ws9,h,ks9⟩:=mX h;refine T.join (S:=(LL)×Int) (G:=Nat) (fun s9=>Ks9 s9=some ws5) (fun s9 gh=>True) (fun s9 gh=>[(7,I s5.2.1),(6,I s9.2),(5,hS false 0 gh 1 s9.1.length),(0,eL cI r_),(1,I from_)]) (fun s9 gh=>[bE false gh 1 23 (s9.1.map (cL cI))]) (fun s9 u35 h hg=>?_) ?_
  ·clear ks9;subst es9;refine jC (oN mv (jW h fun g36 h=>oN (Kz.add Z Z g36) (oN as' (jA ?_))));obtain rfl:=KD h;exact ⟨(s9.1,(s5.2.1+V),s9.2),u35,Z,trivial,kw Z Z⟩
  refine jE (jH (jP (dG [dF,dF,dF,([0],false),dF,dF,dF,([0],false),dF,dF,dF,dF,dF]) (by kernel_rfl) (by kernel_rfl) (fN Z mv (fN Z mv (jD h fun g10 h=>fN Z (Kz.ixO (g:=false) pU Z Z nofun g10) (fR [0] Z (fun G hG=>EvA.ldO (g:=false) (l:=s5.1) (eL cI d0) nu Z (hG.a0 Z) nofun (aI Z g10) Z) (fN Z mv (fN Z mv (fN Z (Kz.ixO (g:=false) pU Z Z nofun g10) (fR [0] Z (fun G hG=>EvA.ldO (g:=false) (l:=s5.1) (eL cI d0) nu Z (hG.a0 Z) nofun (aI Z g10) Z) (fN Z (Kz.lenL aK Z) (jW h fun g11 h=>fN Z (Kz.sub Z Z g11) (jD h fun g12 h=>?_)))))))))))));refine fN Z (Kz.ixL aK Z Z g12 qD) (fN Z (lf (I (J d0 ((d0.length:Int)-V))) KN Z) (fN Z as' (jR (jH (jH (T.clean (H0:=[bE false u7 1 23 (s5.1.map (cL cI))]) (e0:=ak [(8,I (J d0 ((d0.length:Int)-V))),(7,I s5.2.1),(6,I s5.2.2),(5,hS false 0 u7 1 s5.1.length),(0,eL cI r_),(1,I from_)]) Z (Ky Z (Ky Z (Ky Z (Ky Z (Ky Z (Ky Z Kw)))))) (jC (oN mv (oN mv (oN mv (oC h (fun _=>dM _ _ _) Z Z Z Z fun v13 _ h=>jA ?_)))))))))));refine jN Z h (fun q14 h=>?_) (fun q14 h=>?_)
  ·refine jI (oN mv (oN mv (oN (Kz.ixO (g:=false) pU Z Z nofun g10) (oA (EvA.ldO (g:=false) (l:=s5.1) (eL cI d0) nu Z Z nofun (aI Z g10) Z) (oN as' (jA (jK ?_)))))));obtain rfl:=KD h;replace h:=congrArg some (show _=_ from ks9);refine lX h fun h=>?_;obtain rfl:=KD h;replace h:=congrArg some (show _=_ from ks1)
   cases h
   exact aD Z Z Z
  refine jG (jI (oN as' (jA (jE ?_))));refine jO (S:=(LL)×Int×Int) (G:=Nat) (gK r_ s5) (fun s18 gh=>True) (fun s18 gh=>[(9,I s18.2.1),(8,I (J d0 ((d0.length:Int)-V))),(7,I s5.2.1),(6,I s18.2.2),(5,hS false 0 gh 1 s18.1.length),(0,eL cI r_),(1,I from_)]) (fun s18 gh=>[bE false gh 1 23 (s18.1.map (cL cI))]) (s0:=(s5.1,U,s5.2.2)) u7 h trivial (kw Z Z) (fun s18 u20 ws18 h hg=>?_);let d1:=s18.1.getD s5.2.1.toNat default;refine jH (jI (oN mv (oN mv (oN (Kz.lenL aK Z) (oN (Kz.ilt Z Z) (jA ?_))))));refine jN Z h (fun q21 h=>?_) (fun q21 h=>?_)
  ·refine jG ?_;refine T.jF (G:=Nat) h (fun s22 gh=>True) (fun s22 gh=>[(5,hS false 0 gh 1 s22.1.length),(6,I s22.2),(9,I s18.2.1),(8,I (J d0 ((d0.length:Int)-V))),(7,I s5.2.1),(0,eL cI r_),(1,I from_)]) (fun s22 gh=>[bE false gh 1 23 (s22.1.map (cL cI))]) (fun s22 u33 h hg=>?_) (fun s22 h=>?_)
   ·refine jC (oN mv (jW h fun g34 h=>oN (Kz.add Z Z g34) (oN as' (jA ?_))));obtain rfl:=KD h;exact ⟨(s22.1,(s18.2.1+V),s22.2),u33,Z,trivial,kw Z Z⟩
   refine jE (jI (oN mv (oN mv (oN mv (oC h (fun _=>dM _ _ _) Z Z Z Z fun v23 _ h=>oN mv ?_)))));refine TO.jB h 6 (fun s24=>[(55,Bo s24),(9,I s18.2.1),(8,I (J d0 ((d0.length:Int)-V))),(7,I s5.2.1),(6,I s18.2.2),(5,hS false 0 u20 1 s18.1.length),(0,eL cI r_),(1,I from_)]) (fun s24=>[bE false u20 1 23 (s18.1.map (cL cI))]) (fun s24 q25 h js24=>?_) (fun s24 q25 h js24=>?_) (fun s24 h=>?_)
   ·refine gN Z q25 mv (gN Z q25 mv (jD h fun g26 h=>gN Z q25 (Kz.shr Z Z g26) (gN Z q25 (Kz.band Z Z) (gN Z q25 (Kz.ieq Z Z) (oN (Kz.pickT Z q25 (Bo ((cN .i64 (gz .i64 s18.2.2 s18.2.1) V)==U)) Z) ?_)))))
    cases h
    exact js24 _ _ (kw Z Z)
   ·refine gS Z q25 (gS Z q25 (gS Z q25 (gS Z q25 (gS Z q25 (oN (Kz.pickF Z q25 (Bo false) Z) ?_)))))
    cases h
    exact js24 _ _ (kw Z Z)
   refine jA ?_;refine jN Z h (fun q27 h=>?_) (fun q27 h=>?_)
   ·refine jI (oN mv (oN mv (jD h fun g28 h=>oN (Kz.shl Z Z g28) (oN (Kz.bor Z Z) (oN as' (jA (jC (oN mv (oA (EvA.mkO (c:=cI) ([]:LI) [] aK Z Z Z qD Z Z) (oN mv (oN mv (jD h fun g29 h=>oN (Kz.ixO (g:=false) pU Z Z nofun g29) (oA (EvA.ldO (g:=false) (l:=s18.1) (eL cI d1) nu Z Z nofun (aI Z g29) Z) ?_)))))))))))));refine jL h fun g30 h=>oA (EvA.appF (l:=([]:LI)) d1 aK (by kernel_rfl) Z Z Z (bK.fz (l:=d1) Z qD) g30) (oN mv (oN (Kz.mkF (c:=cI) ([s18.2.1]:LI) [[I s18.2.1]] aK Z Z Z qD qD Z) (jL h fun g31 h=>oA (EvA.app1 (g:=false) (l:=(([]:LI)++d1)) s18.2.1 aK (by kernel_rfl) Z Z Z nofun (bK.fz (l:=([s18.2.1]:LI)) Z qD) g31) (oA (EvA.mkR [[hS false 1 ((0+1)+1) 1 (((([]:LI)++d1)++[s18.2.1]).length)]] pU Z Z Z Z) (jL h fun g32 h=>oA (EvA.appR (g:=false) (rows:=s18.1.map (cL cI)) (rows':=s18.1.map (cL cI)++[[hS false 1 ((0+1)+1) 1 (((([]:LI)++d1)++[s18.2.1]).length)]]) (n':=s18.1.length+1) pU (by kernel_rfl) Z Z (by simp) nofun (bK.raw (rows:=[[hS false 1 ((0+1)+1) 1 (((([]:LI)++d1)++[s18.2.1]).length)]]) Z Z Z) g32 Z Z) (oN (Kz.asg (hS false 0 (u20+1) 1 (s18.1.length+1)) Z) (jA ?_)))))));obtain rfl:=KD h;exact ⟨u20+1,trivial,rU Z (.cons (.snoc qD (.cons (.cons (.fz (Fz.own (g:=false) (ver:=(0+1)+1) (l:=((([]:LI)++d1)++[s18.2.1])) Z Z Z nofun qD)) .nil) .nil)) .nil) (ah (.eqv (congrArg (hS false 0 (u20+1) 1) (by simp:(s18.1.length+1)=(s18.1++[((([]:LI)++d1)++[s18.2.1])]).length)) (.hS (g:=false) (b:=0) (ver:=u20+1) (s:=1) (n:=(s18.1++[((([]:LI)++d1)++[s18.2.1])]).length) Z)) (ah (.fz (qC Z)) (ah (.fz (qC Z)) (ah (.fz (qC Z)) (ah (.fz (qC Z)) (ah (.fz (qC Z)) (ah (.fz (qC Z)) bq)))))))⟩
   refine jG ?_
   cases h
   exact ⟨u20,trivial,kw Z Z⟩
  refine jM (lX h fun h=>?_);obtain rfl:=KD h;exact ⟨(s18.1,s18.2.2),u20,ks9,trivial,kw Z Z⟩
 refine jM (lX h fun h=>?_);obtain rfl:=KD h;exact ⟨s5.1,u7,ks1,trivial,kw Z Z⟩
end
end Go.Proofs.YtpkhamajimidnaaGreatDoor
