/- Texts joined. No conditions. -/
import Derived.Test.YtpkhamajimidnaaGreatDoorW11
namespace Go.Proofs.YtpkhamajimidnaaGreatDoor
noncomputable section
open _root_.List renaming replicate -> V7
set_option maxHeartbeats 4000000
open Go.RowKit
set_option maxRecDepth 100000
theorem xX (a:List ak) (left:Int) {q} (h:jg a left=some q):au Tryz.prog 20 [eL ak.c a,I left] (I q):=by
 refine pM Tryz.func20 Z (by kernel_rfl) Z (jI (oN as' (jA (jI (oN mv (oN mv (oN (Pt.lenL NZ Z) (jW h λg1 h=>oN (Pt.sub Z Z g1) (oN as' (jA (jH (jI (oN mv (oN (Pt.ilt Z Z) ?_))))))))))))));refine jA ?_;refine jN Z h (λq2 h=>?_) (λq2 h=>?_)
 ·refine jI (oN as' (jA (jK ?_)))
  cases h
  exact aF Z Z Z
 refine jG (jI (oN mv (oN as' (jA (jK ?_)))))
 cases h
 exact aF Z Z Z
theorem wK (a:List (List ak)) (left:Int) {q} (h:kN a left=some q):au Tryz.prog 5 [eL (cL ak.c) a,I left] (I q):=by
 refine pM Tryz.func5 Z (by kernel_rfl) Z (jI (oN as' (jA (jI (oN mv (oN mv (oN (Pt.lenL Mq Z) (jW h λg1 h=>oN (Pt.sub Z Z g1) (oN as' (jA (jH (jI (oN mv (oN (Pt.ilt Z Z) ?_))))))))))))));refine jA ?_;refine jN Z h (λq2 h=>?_) (λq2 h=>?_)
 ·refine jI (oN as' (jA (jK ?_)))
  cases h
  exact aF Z Z Z
 refine jG ?_;obtain ⟨Ks3,es3,ws3,h,ks3⟩:=qB h;refine T.join (S:=Int) (G:=Unit) (λs3=>Ks3 s3=some q) (λs3 gh=>True) (λs3 gh=>[(1,I s3)]) (λs3 gh=>[]) (λs3 gh h hg=>?_) ?_
 ·clear ks3;subst es3;refine jI (oN mv (oN as' (jA (jK ?_))))
  cases h
  exact aF Z Z Z
 refine jI (oN as' (jA (jE ?_)));refine T.lU h (λs6=>[(5,I s6.1),(1,I s6.2),(0,eL (cL ak.c) a)]) (λs6=>[]) (kw Z Z) (λs6 ws6 h=>?_);refine jH (jI (oN mv (oN mv (oN (Pt.lenL Mq Z) (oN (Pt.ilt Z Z) (jA ?_))))));refine jN Z h (λq8 h=>?_) (λq8 h=>?_)
 ·refine jG (jH (jE (jI (oN mv (oN mv (jD h λg9 h=>oN (Pt.ixL Mq Z Z g9 qD) (oN (lf (eL ak.c (J a s6.1)) OG Z) (oN mv (oC h (λ_=>xX _ _) Z Z Z Z λv10 _ h=>oN as' (jA (jI (oN mv (oN (Pt.ilt Z Z) ?_)))))))))))));refine jA ?_;refine jN Z h (λq11 h=>?_) (λq11 h=>?_)
  ·refine jH (T.clean (H0:=[]) (e0:=ai []) Z Pq (jC (oN as' (jA (jK (lX h λh=>?_))))));obtain rfl:=Pw h;replace h:=congrArg some (show _=_ from ks3)
   cases h
   exact aF Z Z Z
  refine jG (jC (oN mv (jW h λg12 h=>oN (Pt.add Z Z g12) (oN as' (jA ?_)))));exact lE h (kw Z Z)
 refine jM (lX h λh=>?_);obtain rfl:=Pw h;exact ⟨s6.2,(),ks3,trivial,kw Z Z⟩
theorem rS (rcf42:aj->Int->Option Int) (ih42:∀ (a:aj) (left:Int) {q},rcf42 a left=some q->au Tryz.prog 42 [.agg (aj.c a),I left] (I q)) (a:List TXlaws_RelExpr) (left:Int) {q:Int} (h:iO rcf42 a left=some q):au Tryz.prog 89 [eL TXlaws_RelExpr.c a,I left] (I q):=by
 refine pM Tryz.func89 Z (by kernel_rfl) Z (jI (oN as' (jA (jI (oN mv (oN mv (oN (Pt.lenL Ms Z) (jW h λg1 h=>oN (Pt.sub Z Z g1) (oN as' (jA (jH (jI (oN mv (oN (Pt.ilt Z Z) ?_))))))))))))));refine jA ?_;refine jN Z h (λq2 h=>?_) (λq2 h=>?_)
 ·refine jI (oN as' (jA (jK ?_)))
  cases h
  exact aF Z Z Z
 refine jG ?_;obtain ⟨Ks3,es3,ws3,h,ks3⟩:=qB h;refine T.join (S:=Int) (G:=Unit) (λs3=>Ks3 s3=some q) (λs3 gh=>True) (λs3 gh=>[(1,I s3)]) (λs3 gh=>[]) (λs3 gh h hg=>?_) ?_
 ·clear ks3;subst es3;refine jI (oN mv (oN as' (jA (jK ?_))))
  cases h
  exact aF Z Z Z
 refine jI (oN as' (jA (jE ?_)));refine T.lU h (λs6=>[(5,I s6.1),(1,I s6.2),(0,eL TXlaws_RelExpr.c a)]) (λs6=>[]) (kw Z Z) (λs6 ws6 h=>?_);refine jH (jI (oN mv (oN mv (oN (Pt.lenL Ms Z) (oN (Pt.ilt Z Z) (jA ?_))))));refine jN Z h (λq8 h=>?_) (λq8 h=>?_)
 ·refine jG (jH (jE (jI (oN mv (oN mv (jD h λg9 h=>oN (Pt.res (Pt.ixL Ms Z Z g9 TXlaws_RelExpr.len) (r' := .fp (aj.c (J a s6.1).out) 0) (λ_ _ hr=>qd (TXlaws_RelExpr.out_c _) hr)) (oN (lf (.agg (aj.c ((J a s6.1).out))) NC Z) (oN mv (oC h (λ_=>ih42 _ _) Z Z Z Z λv10 _ h=>oN as' (jA (jI (oN mv (oN (Pt.ilt Z Z) ?_)))))))))))));refine jA ?_;refine jN Z h (λq11 h=>?_) (λq11 h=>?_)
  ·refine jH (T.clean (H0:=[]) (e0:=ai []) Z Pq (jC (oN as' (jA (jK (lX h λh=>?_))))));obtain rfl:=Pw h;replace h:=congrArg some (show _=_ from ks3)
   cases h
   exact aF Z Z Z
  refine jG (jC (oN mv (jW h λg12 h=>oN (Pt.add Z Z g12) (oN as' (jA ?_)))));exact lE h (kw Z Z)
 refine jM (lX h λh=>?_);obtain rfl:=Pw h;exact ⟨s6.2,(),ks3,trivial,kw Z Z⟩
theorem vD:∀ (nf:Nat) (a:aj) (left:Int) {q} (h:bR nf a left=some q),au Tryz.prog 42 [.agg (aj.c a),I left] (I q):=by
 intro nf
 induction nf with
 | zero=>intros;rename_i h;cases h
 | succ nf ih=>
  intro a left q h;replace h:iT (bR nf) a left=some q:=h;refine pM Tryz.func42 Z (by kernel_rfl) Z (jI (oN (Pt.bxF [I a.Op,St a.Name,eL TXlaws_RelExpr.c a.Kids] Z Z Z) (oN as' (jA (jI (oN mv (oN (fa ND Z) (oN (lf (St a.Name) ty9 Z) (oN (Pt.lenst Tryz.underlying9 Z) (jW h λg1 h=>oN (Pt.sub Z Z g1) (oN as' (jA (jH (jI ?_))))))))))))));refine oN mv (oN (Pt.ilt Z Z) (jA ?_));refine jN Z h (λq2 h=>?_) (λq2 h=>?_)
  ·refine jI (oN as' (jA (jK ?_)))
   cases h
   exact aF Z Z Z
  refine jG (jI (oN (fa ND Z) (oN (lf (eL TXlaws_RelExpr.c a.Kids) O1 Z) (oN mv (oC h (λ_=>rS _ ih _ _) Z Z Z Z λv3 _ h=>oN as' (jA (jH (jH (T.clean (H0:=[]) (e0:=ai [(1,I v3)]) Z (Ps Z Pq) (jC (oN mv (oN (Pt.ilt Z Z) (jA ?_)))))))))))));refine jN Z h (λq4 h=>?_) (λq4 h=>?_)
  ·refine jI (oN as' (jA (jK ?_)))
   cases h
   exact aF Z Z Z
  refine jG (jI (oN mv (oN as' (jA (jK ?_)))))
  cases h
  exact aF Z Z Z
theorem wL (a:aj) (left:Int) {q} (h:oH a left=some q):au Tryz.prog 42 [.agg (aj.c a),I left] (I q):=by
 obtain ⟨nf,h⟩:=mb h;exact vD nf a left h
theorem AY (a:ay) (left:Int) {q} (h:pK a left=some q):au Tryz.prog 23 [.agg (ay.c a),I left] (I q):=by
 refine pM Tryz.func23 Z (by kernel_rfl) Z (jI (oN (Pt.bxF (ay.c (⟨a.Kind,a.Expr⟩:ay)) Z Z Z) (oN as' (jA (jI (oN (Pt.fafpS 3 Tryz.underlying55 Z (by kernel_rfl) Z Z (row2:=aj.c a.Expr)) (oN (lf (.agg (aj.c a.Expr)) NC Z) (oN mv (oC h (λ_=>wL _ _) Z Z Z Z λv1 _ h=>oN as' (jA (jH (jI (oN mv (oN (Pt.ilt Z Z) ?_))))))))))))));refine jA ?_;refine jN Z h (λq2 h=>?_) (λq2 h=>?_)
 ·refine jI (oN as' (jA (jK ?_)))
  cases h
  exact aF Z Z Z
 refine jG (jI (oN mv (oN as' (jA (jK ?_)))))
 cases h
 exact aF Z Z Z
theorem yS (a:List ay) (left:Int) {q} (h:nH a left=some q):au Tryz.prog 7 [eL ay.c a,I left] (I q):=by
 refine pM Tryz.func7 Z (by kernel_rfl) Z (jI (oN as' (jA (jI (oN mv (oN mv (oN (Pt.lenL Mr Z) (jW h λg1 h=>oN (Pt.sub Z Z g1) (oN as' (jA (jH (jI (oN mv (oN (Pt.ilt Z Z) ?_))))))))))))));refine jA ?_;refine jN Z h (λq2 h=>?_) (λq2 h=>?_)
 ·refine jI (oN as' (jA (jK ?_)))
  cases h
  exact aF Z Z Z
 refine jG ?_;obtain ⟨Ks3,es3,ws3,h,ks3⟩:=qB h;refine T.join (S:=Int) (G:=Unit) (λs3=>Ks3 s3=some q) (λs3 gh=>True) (λs3 gh=>[(1,I s3)]) (λs3 gh=>[]) (λs3 gh h hg=>?_) ?_
 ·clear ks3;subst es3;refine jI (oN mv (oN as' (jA (jK ?_))))
  cases h
  exact aF Z Z Z
 refine jI (oN as' (jA (jE ?_)));refine T.lU h (λs6=>[(5,I s6.1),(1,I s6.2),(0,eL ay.c a)]) (λs6=>[]) (kw Z Z) (λs6 ws6 h=>?_);refine jH (jI (oN mv (oN mv (oN (Pt.lenL Mr Z) (oN (Pt.ilt Z Z) (jA ?_))))));refine jN Z h (λq8 h=>?_) (λq8 h=>?_)
 ·refine jG (jH (jE (jI (oN mv (oN mv (jD h λg9 h=>oN (Pt.ixL Mr Z Z g9 qD) (oN (lf (.agg (ay.c (J a s6.1))) OH Z) (oN mv (oC h (λ_=>AY _ _) Z Z Z Z λv10 _ h=>oN as' (jA (jI (oN mv (oN (Pt.ilt Z Z) ?_)))))))))))));refine jA ?_;refine jN Z h (λq11 h=>?_) (λq11 h=>?_)
  ·refine jH (T.clean (H0:=[]) (e0:=ai []) Z Pq (jC (oN as' (jA (jK (lX h λh=>?_))))));obtain rfl:=Pw h;replace h:=congrArg some (show _=_ from ks3)
   cases h
   exact aF Z Z Z
  refine jG (jC (oN mv (jW h λg12 h=>oN (Pt.add Z Z g12) (oN as' (jA ?_)))));exact lE h (kw Z Z)
 refine jM (lX h λh=>?_);obtain rfl:=Pw h;exact ⟨s6.2,(),ks3,trivial,kw Z Z⟩
theorem yT (a:ak) {q} (h:uR a=some q):au Tryz.prog 55 [.agg (ak.c a)] (.agg (Px.c q)):=by
 refine pM Tryz.func55 Z (by kernel_rfl) Z (jI (oN (Pt.bxF [I a.Op,I a.Loc,I a.Reg,I a.Val] Z Z Z) (oA (EvA.al Mc Z Z) (jA (jI (oA (EvA.al Mc Z Z) (jA (jI (oN (fa NY Z) (oN (lf (I a.Op) PL Z) (oN (fa p6 Z) (oV (sr [I a.Op,I U,I U,I U] PL Z Z Z Z) (jA (jI (oN (fa NY Z) ?_)))))))))))))));refine oN (lf (I a.Loc) PL Z) (oN (fa p6 Z) (oV (sr [I a.Op,I a.Loc,I U,I U] PL Z Z Z Z) (jA (jI (oN (fa NY Z) (oN (lf (I a.Reg) PL Z) (oN (fa p6 Z) (oV (sr [I a.Op,I a.Loc,I a.Reg,I U] PL Z Z Z Z) (jA (jI (oN (fa NY Z) (oN (lf (I a.Val) PL Z) (oN (fa p6 Z) (oV (sr [I a.Op,I a.Loc,I a.Reg,I a.Val] PL Z Z Z Z) (jA ?_)))))))))))))));refine jI (oA (lh (.agg [I a.Op,I a.Loc,I a.Reg,I a.Val]) Bm Z Z Z) (oV (sr [I a.Op,I a.Loc,I a.Reg,I a.Val] Bm Z Z Z Z) (jA (jK ?_))));obtain rfl:=Pw h
 repeat (first|refine iA ?_|refine iB ?_)
 exact jQ (vs:=[.agg [I a.Op,I a.Loc,I a.Reg,I a.Val]]) (.cons (.cell (.agg [I a.Op,I a.Loc,I a.Reg,I a.Val]) Bm Z Z Z Z Z Z) .nil) (qC Z)
theorem xY (a:List ak) {q} (h:mf a=some q):au Tryz.prog 27 [eL ak.c a] (eL Px.c q):=by
 refine pM Tryz.func27 Z (by kernel_rfl) Z (jI (oN as' (jA (jI (oN mv (oN (Pt.lenL NZ Z) (jD h λg1 h=>oA (EvA.mkN (c:=Px.c) (default:Px) AP Z Z g1 Z Z Z) (oN (Pt.asg (hS false 0 0 4 ((V7 (a.length:Int).toNat (default:Px)).length)) Z) (jA ?_)))))))));refine T.jF (G:=Nat) h (λs2 gh=>True) (λs2 gh=>[(3,hS false 0 gh 4 s2.length)]) (λs2 gh=>[bE false gh 4 90 (s2.map Px.c)]) (λs2 u14 h hg=>?_) (λs2 h=>?_)
 ·refine jI (oN mv (oN (Pt.asg (hS false 0 u14 4 s2.length) Z) (jA (jK ?_))));obtain rfl:=Pw h
  repeat (first|refine iA ?_|refine iB ?_)
  exact jQ (vs:=[hS false 0 u14 4 s2.length]) (.cons (.tmp Z) .nil) (Fz.own (g:=false) (ver:=u14) (l:=s2) Z Z Z nofun Px.isF)
 refine jI (oN as' (jA (jE ?_)));refine jO (S:=(List Px)×Int) (G:=Nat) (iU a) (λs6 gh=>True) (λs6 gh=>[(4,I s6.2),(3,hS false 0 gh 4 s6.1.length),(0,eL ak.c a)]) (λs6 gh=>[bE false gh 4 90 (s6.1.map Px.c)]) (s0:=((V7 (a.length:Int).toNat (default:Px)),U)) 0 h trivial (kw Z Z) (λs6 u8 ws6 h hg=>?_);refine jH (jI (oN mv (oN mv (oN (Pt.lenL NZ Z) (oN (Pt.ilt Z Z) (jA ?_))))));refine jN Z h (λq9 h=>?_) (λq9 h=>?_)
 ·refine jG (jH (jE (jC (oN mv (oN mv (oN mv (oN mv (jD h λg10 h=>oN (Pt.ixL NZ Z Z g10 qD) (oN (lf (.agg (ak.c (J a s6.2))) O2 Z) (oC h (λ_=>yT _) Z Z Z Z λv11 _ h=>jD h λg12 h=>oN (Pt.ixO (g:=false) AP Z Z nofun g12) (oV (EvA.stO (g:=false) (l:=s6.1) (cs:=(Px.c v11)) v11 Bm Z Z Z nofun (aH Z g12) Z Z Z) (jA ?_))))))))))));refine jC (oN mv (jW h λg13 h=>oN (Pt.add Z Z g13) (oN as' (jA ?_))));obtain rfl:=Pw h;exact ⟨((s6.1.set s6.2.toNat v11),(s6.2+(1:Int))),u8,Z,trivial,BL Z (Ps Z (Ps (congrArg (hS false 0 u8 4) (by simp:s6.1.length=(s6.1.set s6.2.toNat v11).length)) (Ps Z Pq)))⟩
 refine jM (lX h λh=>?_)
 cases h
 exact ⟨u8,trivial,kw Z Z⟩
theorem mW (a:List (List ak)) {q} (h:di a=some q):au Tryz.prog 9 [eL (cL ak.c) a] (eL (cL Px.c) q):=by
 refine pM Tryz.func9 Z (by kernel_rfl) Z (jI (oN as' (jA (jI (oN mv (oN (Pt.lenL Mq Z) (jD h λg1 h=>oA (EvA.mkZ yM Z Z g1 Z Z) (oN (Pt.asg (hS false 0 0 1 ((a.length:Int).toNat)) Z) (jA (T.cut (e0:=ai [(3,hS false 0 0 1 ((V7 (a.length:Int).toNat ([]:List Px)).length)),(0,eL (cL ak.c) a)]) (H0:=[bE false 0 1 58 ((V7 (a.length:Int).toNat ([]:List Px)).map (cL Px.c))]) (ow Z (.cons (.rows (.rep (f:=Px.c) _)) .nil) (ae (.eqv (congrArg (hS false 0 0 1) (by simp:(a.length:Int).toNat=(V7 (a.length:Int).toNat ([]:List Px)).length)) (.hS (g:=false) (b:=0) (ver:=0) (s:=1) (n:=(V7 (a.length:Int).toNat ([]:List Px)).length) Z)) (ae (.fz (qC Z)) aN))) ?_))))))))));refine T.jF (G:=Nat) h (λs2 gh=>True) (λs2 gh=>[(3,hS false 0 gh 1 s2.length)]) (λs2 gh=>[bE false gh 1 58 (s2.map (cL Px.c))]) (λs2 u14 h hg=>?_) (λs2 h=>?_)
 ·refine jI (oN mv (oN (Pt.asg (hS false 0 u14 1 s2.length) Z) (jA (jK ?_))));obtain rfl:=Pw h
  repeat (first|refine iA ?_|refine iB ?_)
  exact jQ (vs:=[hS false 0 u14 1 s2.length]) (.cons (.tmp Z) .nil) (Fz.own (g:=false) (ver:=u14) (l:=s2) Z Z Z nofun qD)
 refine jI (oN as' (jA (jE ?_)));refine jO (S:=(List (List Px))×Int) (G:=Nat) (gX a) (λs6 gh=>True) (λs6 gh=>[(4,I s6.2),(3,hS false 0 gh 1 s6.1.length),(0,eL (cL ak.c) a)]) (λs6 gh=>[bE false gh 1 58 (s6.1.map (cL Px.c))]) (s0:=((V7 (a.length:Int).toNat ([]:List Px)),U)) 0 h trivial (kw Z Z) (λs6 u8 ws6 h hg=>?_);refine jH (jI (oN mv (oN mv (oN (Pt.lenL Mq Z) (oN (Pt.ilt Z Z) (jA ?_))))));refine jN Z h (λq9 h=>?_) (λq9 h=>?_)
 ·refine jG (jH (jE (jC (oN mv (oN mv (oN mv (oN mv (jD h λg10 h=>oN (Pt.ixL Mq Z Z g10 qD) (oN (lf (eL ak.c (J a s6.2)) OG Z) (oC h (λ_=>xY _) Z Z Z Z λv11 _ h=>jD h λg12 h=>oN (Pt.ixO (g:=false) yM Z Z nofun g12) (oV (EvA.stO (g:=false) (l:=s6.1) (cs:=[eL Px.c v11]) v11 Ed Z Z Z nofun (aH Z g12) Z Z Z) (jA ?_))))))))))));refine jC (oN mv (jW h λg13 h=>oN (Pt.add Z Z g13) (oN as' (jA ?_))));obtain rfl:=Pw h;exact ⟨((s6.1.set s6.2.toNat v11),(s6.2+(1:Int))),u8,Z,trivial,BL Z (Ps Z (Ps (congrArg (hS false 0 u8 1) (by simp:s6.1.length=(s6.1.set s6.2.toNat v11).length)) (Ps Z Pq)))⟩
 refine jM (lX h λh=>?_)
 cases h
 exact ⟨u8,trivial,kw Z Z⟩
theorem qp (a:LI) {q} (h:jS a=some q):au Tryz.prog 17 [eL cI a] (eL cI q):=by
 refine pM Tryz.func17 Z (by kernel_rfl) Z (jI (oN as' (jA (jI (oN mv (oN (Pt.lenL aD Z) (jD h λg1 h=>oA (EvA.mkN (c:=cI) (default:Int) aD Z Z g1 Z Z Z) (oN (Pt.asg (hS false 0 0 1 ((V7 (a.length:Int).toNat (default:Int)).length)) Z) (jA ?_)))))))));refine T.jF (G:=Nat) h (λs2 gh=>True) (λs2 gh=>[(3,hS false 0 gh 1 s2.length)]) (λs2 gh=>[bE false gh 1 3 (s2.map cI)]) (λs2 u13 h hg=>?_) (λs2 h=>?_)
 ·refine jI (oN mv (oN (Pt.asg (hS false 0 u13 1 s2.length) Z) (jA (jK ?_))));obtain rfl:=Pw h
  repeat (first|refine iA ?_|refine iB ?_)
  exact jQ (vs:=[hS false 0 u13 1 s2.length]) (.cons (.tmp Z) .nil) (Fz.own (g:=false) (ver:=u13) (l:=s2) Z Z Z nofun qD)
 refine jI (oN as' (jA (jE ?_)));refine jO (S:=(LI)×Int) (G:=Nat) (kO a) (λs6 gh=>True) (λs6 gh=>[(4,I s6.2),(3,hS false 0 gh 1 s6.1.length),(0,eL cI a)]) (λs6 gh=>[bE false gh 1 3 (s6.1.map cI)]) (s0:=((V7 (a.length:Int).toNat (default:Int)),U)) 0 h trivial (kw Z Z) (λs6 u8 ws6 h hg=>?_);refine jH (jI (oN mv (oN mv (oN (Pt.lenL aD Z) (oN (Pt.ilt Z Z) (jA ?_))))));refine jN Z h (λq9 h=>?_) (λq9 h=>?_)
 ·refine jG (jH (jE (jC (oN mv (oN mv (oN mv (oN mv (jD h λg10 h=>oN (Pt.ixL aD Z Z g10 qD) (oN (lf (I (J a s6.2)) PL Z) (jD h λg11 h=>oN (Pt.ixO (g:=false) aD Z Z nofun g11) (oV (EvA.stO (g:=false) (l:=s6.1) (cs:=[I (J a s6.2)]) (J a s6.2) PL Z Z Z nofun (aH Z g11) Z Z Z) (jA (jC ?_)))))))))))));refine oN mv (jW h λg12 h=>oN (Pt.add Z Z g12) (oN as' (jA ?_)));obtain rfl:=Pw h;exact ⟨((s6.1.set s6.2.toNat (J a s6.2)),(s6.2+(1:Int))),u8,Z,trivial,BL Z (Ps Z (Ps (congrArg (hS false 0 u8 1) (by simp:s6.1.length=(s6.1.set s6.2.toNat (J a s6.2)).length)) (Ps Z Pq)))⟩
 refine jM (lX h λh=>?_)
 cases h
 exact ⟨u8,trivial,kw Z Z⟩
theorem rT (rcf56:aj->Option aa) (ih56:∀ (a:aj) {q},rcf56 a=some q->au Tryz.prog 56 [.agg (aj.c a)] (.agg (aa.c q))) (a:List TXlaws_RelExpr) {q:(List TXimpl_RelExpr)} (h:iP rcf56 a=some q):au Tryz.prog 107 [eL TXlaws_RelExpr.c a] (eL TXimpl_RelExpr.c q):=by
 refine pM Tryz.func107 Z (by kernel_rfl) Z (jI (oN as' (jA (jI (oN mv (oN (Pt.lenL Ms Z) (jD h λg1 h=>oA (EvA.mkZ De Z Z g1 Z Z) (oN (Pt.asg (hS false 0 0 3 ((a.length:Int).toNat)) Z) (jA (T.cut (e0:=ai [(3,hS false 0 0 3 ((V7 (a.length:Int).toNat (default:aa)).length)),(0,eL TXlaws_RelExpr.c a)]) (H0:=[bE false 0 3 63 ((V7 (a.length:Int).toNat (default:aa)).map aa.c)]) (ow Z (.cons (.rows (.repG (f:=aa.c) (.cons (.fz .v) (.cons (.fz .v) (.cons (.fz .nil0) .nil))) _)) .nil) (ae (.eqv (congrArg (hS false 0 0 3) (by simp:(a.length:Int).toNat=(V7 (a.length:Int).toNat (default:aa)).length)) (.hS (g:=false) (b:=0) (ver:=0) (s:=3) (n:=(V7 (a.length:Int).toNat (default:aa)).length) Z)) (ae (.fz (qC Z)) aN))) ?_))))))))));refine T.jF (G:=Nat) h (λs2 gh=>True) (λs2 gh=>[(3,hS false 0 gh 3 s2.length)]) (λs2 gh=>[bE false gh 3 63 (s2.map aa.c)]) (λs2 u14 h hg=>?_) (λs2 h=>?_)
 ·refine jI (oN mv (oN (Pt.asg (hS false 0 u14 3 s2.length) Z) (jA (jK ?_))));obtain rfl:=Pw h
  repeat (first|refine iA ?_|refine iB ?_)
  exact jQ (vs:=[hS false 0 u14 3 s2.length]) (.cons (.tmp Z) .nil) (Fz.eqv (Fz.own (g:=false) (ver:=u14) (l:=s2) Z Z Z nofun aa.isF) (EqS.eL aa.inn_c _))
 refine jI (oN as' (jA (jE ?_)));refine jO (S:=(List aa)×Int) (G:=Nat) (cG rcf56 a) (λs6 gh=>True) (λs6 gh=>[(4,I s6.2),(3,hS false 0 gh 3 s6.1.length),(0,eL TXlaws_RelExpr.c a)]) (λs6 gh=>[bE false gh 3 63 (s6.1.map aa.c)]) (s0:=((V7 (a.length:Int).toNat (default:aa)),U)) 0 h trivial (kw Z Z) (λs6 u8 ws6 h hg=>?_);refine jH (jI (oN mv (oN mv (oN (Pt.lenL Ms Z) (oN (Pt.ilt Z Z) (jA ?_))))));refine jN Z h (λq9 h=>?_) (λq9 h=>?_)
 ·refine jG (jH (jE (jC (oN mv (oN mv (oN mv (oN mv (jD h λg10 h=>oN (Pt.res (Pt.ixL Ms Z Z g10 TXlaws_RelExpr.len) (r' := .fp (aj.c (J a s6.2).out) 0) (λ_ _ hr=>qd (TXlaws_RelExpr.out_c _) hr)) (oN (lf (.agg (aj.c ((J a s6.2).out))) NC Z) (oC h (λ_=>ih56 _) Z Z Z Z λv11 _ h=>jD h λg12 h=>oN (Pt.ixO (g:=false) De Z Z nofun g12) (oV (EvA.stO (g:=false) (l:=s6.1) (cs:=[I v11.Op,St v11.Name,eL TXimpl_RelExpr.c v11.Kids]) v11 xS Z Z Z nofun (aH Z g12) Z Z Z) (jA ?_))))))))))));refine jC (oN mv (jW h λg13 h=>oN (Pt.add Z Z g13) (oN as' (jA ?_))));obtain rfl:=Pw h;exact ⟨((s6.1.set s6.2.toNat v11),(s6.2+(1:Int))),u8,Z,trivial,BL Z (Ps Z (Ps (congrArg (hS false 0 u8 3) (by simp:s6.1.length=(s6.1.set s6.2.toNat v11).length)) (Ps Z Pq)))⟩
 refine jM (lX h λh=>?_)
 cases h
 exact ⟨u8,trivial,kw Z Z⟩
theorem vE:∀ (nf:Nat) (a:aj) {q} (h:bS nf a=some q),au Tryz.prog 56 [.agg (aj.c a)] (.agg (aa.c q)):=by
 intro nf
 induction nf with
 | zero=>intros;rename_i h;cases h
 | succ nf ih=>
  intro a q h;replace h:iV (bS nf) a=some q:=h;refine pM Tryz.func56 Z (by kernel_rfl) Z (jI (oN (Pt.bxF [I a.Op,St a.Name,eL TXlaws_RelExpr.c a.Kids] Z Z Z) (oA (EvA.al NV Z Z) (jA (jI (oA (EvA.al NV Z Z) (jA (jI (oN (fa ND Z) (oN (lf (I a.Op) PL Z) (oN (fa tv Z) (oV (sr [I a.Op,St (⟨#[]⟩:ByteArray),.nil] PL Z Z Z Z) (jA (jI (oN (fa ND Z) ?_)))))))))))))));refine oN (lf (St a.Name) ty9 Z) (oN (fa tv Z) (oV (sr [I a.Op,St a.Name,.nil] ty9 Z Z Z Z) (jA (jI (oN (fa ND Z) (oN (lf (eL TXlaws_RelExpr.c a.Kids) O1 Z) (oC h (λ_=>rT _ ih _) Z Z Z Z λv1 _ h=>oN (fa tv Z) (oV (sr [I a.Op,St a.Name,eL TXimpl_RelExpr.c v1] FM Z Z Z Z) (jA (jI (oA (lh (.agg [I a.Op,St a.Name,eL TXimpl_RelExpr.c v1]) xS Z Z Z) (oV (sr [I a.Op,St a.Name,eL TXimpl_RelExpr.c v1] xS Z Z Z Z) (jA (jK ?_))))))))))))));obtain rfl:=Pw h
  repeat (first|refine iA ?_|refine iB ?_)
  exact jQ (vs:=[.agg [I a.Op,St a.Name,eL TXimpl_RelExpr.c v1]]) (.cons (.cell (.agg [I a.Op,St a.Name,eL TXimpl_RelExpr.c v1]) xS Z Z Z Z Z Z) .nil) (qC Z)
theorem wM (a:aj) {q} (h:oI a=some q):au Tryz.prog 56 [.agg (aj.c a)] (.agg (aa.c q)):=by
 obtain ⟨nf,h⟩:=mb h;exact vE nf a h
theorem AZ (a:ay) {q} (h:pO a=some q):au Tryz.prog 29 [.agg (ay.c a)] (.agg (ah.c q)):=by
 refine pM Tryz.func29 Z (by kernel_rfl) Z (jI (oN (Pt.bxF (ay.c (⟨a.Kind,a.Expr⟩:ay)) Z Z Z) (oA (EvA.al NW Z Z) (jA (jI (oA (EvA.al NW Z Z) (jA (jI (oN (fa Pj Z) (oN (lf (I a.Kind) PL Z) (oN (fa Gy Z) (oV (sr [I a.Kind,I U,St (⟨#[]⟩:ByteArray),.nil] PL Z Z Z Z) (jA (jI (oN (Pt.fafpS 3 Tryz.underlying55 Z (by kernel_rfl) Z Z (row2:=aj.c a.Expr)) ?_)))))))))))))));refine oN (lf (.agg (aj.c a.Expr)) NC Z) (oC h (λ_=>wM _) Z Z Z Z λv1 _ h=>oN (fa Gy Z) (oV (sr (ah.c (⟨a.Kind,v1⟩:ah)) xS Z Z Z Z) (jA (jI (oA (lh (.agg (ah.c (⟨a.Kind,v1⟩:ah))) Jc Z Z Z) (oV (sr (ah.c (⟨a.Kind,v1⟩:ah)) Jc Z Z Z Z) (jA (jK ?_))))))));obtain rfl:=Pw h
 repeat (first|refine iA ?_|refine iB ?_)
 exact jQ (vs:=[.agg (ah.c (⟨a.Kind,v1⟩:ah))]) (.cons (.cell (.agg (ah.c (⟨a.Kind,v1⟩:ah))) Jc Z Z Z Z Z Z) .nil) (qC Z)
theorem oZ (a:List ay) {q} (h:iM a=some q):au Tryz.prog 11 [eL ay.c a] (eL ah.c q):=by
 refine pM Tryz.func11 Z (by kernel_rfl) Z (jI (oN as' (jA (jI (oN mv (oN (Pt.lenL Mr Z) (jD h λg1 h=>oA (EvA.mkZ zU Z Z g1 Z Z) (oN (Pt.asg (hS false 0 0 4 ((a.length:Int).toNat)) Z) (jA (T.cut (e0:=ai [(3,hS false 0 0 4 ((V7 (a.length:Int).toNat (default:ah)).length)),(0,eL ay.c a)]) (H0:=[bE false 0 4 65 ((V7 (a.length:Int).toNat (default:ah)).map ah.c)]) (ow Z (.cons (.rows (.repG (f:=ah.c) (.cons (.fz .v) (.cons (.fz .v) (.cons (.fz .v) (.cons (.fz .nil0) .nil)))) _)) .nil) (ae (.eqv (congrArg (hS false 0 0 4) (by simp:(a.length:Int).toNat=(V7 (a.length:Int).toNat (default:ah)).length)) (.hS (g:=false) (b:=0) (ver:=0) (s:=4) (n:=(V7 (a.length:Int).toNat (default:ah)).length) Z)) (ae (.fz (qC Z)) aN))) ?_))))))))));refine T.jF (G:=Nat) h (λs2 gh=>True) (λs2 gh=>[(3,hS false 0 gh 4 s2.length)]) (λs2 gh=>[bE false gh 4 65 (s2.map ah.c)]) (λs2 u14 h hg=>?_) (λs2 h=>?_)
 ·refine jI (oN mv (oN (Pt.asg (hS false 0 u14 4 s2.length) Z) (jA (jK ?_))));obtain rfl:=Pw h
  repeat (first|refine iA ?_|refine iB ?_)
  exact jQ (vs:=[hS false 0 u14 4 s2.length]) (.cons (.tmp Z) .nil) (Fz.own (g:=false) (ver:=u14) (l:=s2) Z Z Z nofun ah.isF)
 refine jI (oN as' (jA (jE ?_)));refine jO (S:=(List ah)×Int) (G:=Nat) (jT a) (λs6 gh=>True) (λs6 gh=>[(4,I s6.2),(3,hS false 0 gh 4 s6.1.length),(0,eL ay.c a)]) (λs6 gh=>[bE false gh 4 65 (s6.1.map ah.c)]) (s0:=((V7 (a.length:Int).toNat (default:ah)),U)) 0 h trivial (kw Z Z) (λs6 u8 ws6 h hg=>?_);refine jH (jI (oN mv (oN mv (oN (Pt.lenL Mr Z) (oN (Pt.ilt Z Z) (jA ?_))))));refine jN Z h (λq9 h=>?_) (λq9 h=>?_)
 ·refine jG (jH (jE (jC (oN mv (oN mv (oN mv (oN mv (jD h λg10 h=>oN (Pt.ixL Mr Z Z g10 qD) (oN (lf (.agg (ay.c (J a s6.2))) OH Z) (oC h (λ_=>AZ _) Z Z Z Z λv11 _ h=>jD h λg12 h=>oN (Pt.ixO (g:=false) zU Z Z nofun g12) (oV (EvA.stO (g:=false) (l:=s6.1) (cs:=(ah.c (⟨v11.Kind,v11.Expr⟩:ah))) v11 Jc Z Z Z nofun (aH Z g12) Z Z Z) (jA ?_))))))))))));refine jC (oN mv (jW h λg13 h=>oN (Pt.add Z Z g13) (oN as' (jA ?_))));obtain rfl:=Pw h;exact ⟨((s6.1.set s6.2.toNat v11),(s6.2+(1:Int))),u8,Z,trivial,BL Z (Ps Z (Ps (congrArg (hS false 0 u8 4) (by simp:s6.1.length=(s6.1.set s6.2.toNat v11).length)) (Ps Z Pq)))⟩
 refine jM (lX h λh=>?_)
 cases h
 exact ⟨u8,trivial,kw Z Z⟩
theorem yU (x:Px) {q} (h:nI x=some q):au Tryz.prog 92 [.agg (Px.c x)] (Bo q):=by
 refine pM Tryz.func92 Z (by kernel_rfl) Z (jI (oN (Pt.bxF [I x.Op,I x.Loc,I x.Reg,I x.Val] Z Z Z) (oN as' (jA (jI (oN (fa p6 Z) (oN (lf (I x.Op) PL Z) (oN (Pt.ieq Z Z) (oN mv ?_)))))))));refine TO.jB h 4 (λs1=>[(10,Bo s1)]) (λs1=>[]) (λs1 q2 h js1=>?_) (λs1 q2 h js1=>?_) (λs1 h=>?_)
 ·refine gS Z q2 (gS Z q2 (gS Z q2 (oN (Pt.pickT Z q2 (Bo true) Z) ?_)))
  cases h
  exact js1 _ _ (kw Z Z)
 ·refine gN Z q2 (fa p6 Z) (gN Z q2 (lf (I x.Op) PL Z) (gN Z q2 (Pt.ieq Z Z) (oN (Pt.pickF Z q2 (Bo (x.Op==(5:Int))) Z) ?_)))
  cases h
  exact js1 _ _ (kw Z Z)
 refine oN as' (jA (jK ?_))
 cases h
 exact aF Z Z Z
theorem xZ (x:Px) {q} (h:mg x=some q):au Tryz.prog 93 [.agg (Px.c x)] (Bo q):=by
 refine pM Tryz.func93 Z (by kernel_rfl) Z (jI (oN (Pt.bxF [I x.Op,I x.Loc,I x.Reg,I x.Val] Z Z Z) (oN as' (jA (jI (oN (fa p6 Z) (oN (lf (I x.Op) PL Z) (oN (Pt.ieq Z Z) (oN mv ?_)))))))));refine TO.jB h 4 (λs1=>[(10,Bo s1),(1,.fp (Px.c x) 0)]) (λs1=>[]) (λs1 q2 h js1=>?_) (λs1 q2 h js1=>?_) (λs1 h=>?_)
 ·refine gS Z q2 (gS Z q2 (gS Z q2 (oN (Pt.pickT Z q2 (Bo true) Z) ?_)))
  cases h
  exact js1 _ _ (kw Z Z)
 ·refine gN Z q2 (fa p6 Z) (gN Z q2 (lf (I x.Op) PL Z) (gN Z q2 (Pt.ieq Z Z) (oN (Pt.pickF Z q2 (Bo (x.Op==(3:Int))) Z) ?_)))
  cases h
  exact js1 _ _ (kw Z Z)
 refine oN mv ?_;refine TO.jB h 4 (λs3=>[(15,Bo s3)]) (λs3=>[]) (λs3 q4 h js3=>?_) (λs3 q4 h js3=>?_) (λs3 h=>?_)
 ·refine gS Z q4 (gS Z q4 (gS Z q4 (oN (Pt.pickT Z q4 (Bo true) Z) ?_)))
  cases h
  exact js3 _ _ (kw Z Z)
 ·refine gN Z q4 (fa p6 Z) (gN Z q4 (lf (I x.Op) PL Z) (gN Z q4 (Pt.ieq Z Z) (oN (Pt.pickF Z q4 (Bo (x.Op==(5:Int))) Z) ?_)))
  cases h
  exact js3 _ _ (kw Z Z)
 refine oN as' (jA (jK ?_))
 cases h
 exact aF Z Z Z
theorem dK (p:List (List Px)) {q} (h:bT p=some q):au Tryz.prog 44 [eL (cL Px.c) p] (eL Pz.c q):=by
 refine pM Tryz.func44 Z (by kernel_rfl) Z (jI (oN as' (jA (jI (oA (EvA.mkO (c:=Pz.c) ([]:List Pz) [] pG Z Z Z qD Z Z) (oN (Pt.asg (hS false 0 0 5 (([]:List Pz).length)) Z) (jA ?_)))))));refine T.jF (G:=Nat) h (λs1 gh=>True) (λs1 gh=>[(3,hS false 0 gh 5 s1.length),(0,eL (cL Px.c) p)]) (λs1 gh=>[bE false gh 5 80 (s1.map Pz.c)]) (λs1 u11 h hg=>?_) (λs1 h=>?_)
 ·refine T.jF (G:=Nat) h (λs12 gh=>True) (λs12 gh=>[(3,hS false 0 gh 5 s12.length)]) (λs12 gh=>[bE false gh 5 80 (s12.map Pz.c)]) (λs12 u39 h hg=>?_) (λs12 h=>?_)
  ·refine jI (oN mv (oN (Pt.asg (hS false 0 u39 5 s12.length) Z) (jA (jK ?_))));obtain rfl:=Pw h
   repeat (first|refine iA ?_|refine iB ?_)
   exact jQ (vs:=[hS false 0 u39 5 s12.length]) (.cons (.tmp Z) .nil) (Fz.own (g:=false) (ver:=u39) (l:=s12) Z Z Z nofun Pz.isF)
  refine jI (oN as' (jA (jE ?_)));refine jO (S:=(List Pz)×Int) (G:=Nat) (lC p) (λs16 gh=>True) (λs16 gh=>[(5,I s16.2),(3,hS false 0 gh 5 s16.1.length),(0,eL (cL Px.c) p)]) (λs16 gh=>[bE false gh 5 80 (s16.1.map Pz.c)]) (s0:=(s1,U)) u11 h trivial (kw Z Z) (λs16 u18 ws16 h hg=>?_);refine jH (jI (oN mv (oN mv (oN (Pt.lenL yM Z) (oN (Pt.ilt Z Z) (jA ?_))))));refine jN Z h (λq19 h=>?_) (λq19 h=>?_)
  ·refine jG ?_;refine T.jF (G:=Nat) h (λs20 gh=>True) (λs20 gh=>[(5,I s16.2),(3,hS false 0 gh 5 s20.length),(0,eL (cL Px.c) p)]) (λs20 gh=>[bE false gh 5 80 (s20.map Pz.c)]) (λs20 u37 h hg=>?_) (λs20 h=>?_)
   ·refine jC (oN mv (jW h λg38 h=>oN (Pt.add Z Z g38) (oN as' (jA ?_))));obtain rfl:=Pw h;exact ⟨(s20,(s16.2+V)),u37,Z,trivial,kw Z Z⟩
   refine jE (jI (oN as' (jA (jE ?_))));refine jO (S:=(List Pz)×Int) (G:=Nat) (lw p s16) (λs24 gh=>True) (λs24 gh=>[(6,I s24.2),(5,I s16.2),(3,hS false 0 gh 5 s24.1.length),(0,eL (cL Px.c) p)]) (λs24 gh=>[bE false gh 5 80 (s24.1.map Pz.c)]) (s0:=(s16.1,U)) u18 h trivial (kw Z Z) (λs24 u26 ws24 h hg=>?_);refine jH (jI (oN mv (oN mv (oN mv (jD h λg27 h=>oN (Pt.ixL yM Z Z g27 qD) (oN (lf (eL Px.c (J p s16.2)) Ed Z) (oN (Pt.lenL AP Z) (oN (Pt.ilt Z Z) (jA ?_)))))))));refine jN Z h (λq28 h=>?_) (λq28 h=>?_)
   ·refine jG ?_;refine T.jF (G:=Nat) h (λs29 gh=>True) (λs29 gh=>[(3,hS false 0 gh 5 s29.length),(6,I s24.2),(5,I s16.2),(0,eL (cL Px.c) p)]) (λs29 gh=>[bE false gh 5 80 (s29.map Pz.c)]) (λs29 u35 h hg=>?_) (λs29 h=>?_)
    ·refine jC (oN mv (jW h λg36 h=>oN (Pt.add Z Z g36) (oN as' (jA ?_))));obtain rfl:=Pw h;exact ⟨(s29,(s24.2+V)),u35,Z,trivial,kw Z Z⟩
    refine jE (jI (oN mv (oN mv (oN (Pt.ixL yM Z Z g27 qD) (oN (lf (eL Px.c (J p s16.2)) Ed Z) (oN mv (jD h λg30 h=>oN (Pt.ixL AP Z Z g30 qD) (oN (lf (.agg (Px.c (J (J p s16.2) s24.2))) Bm Z) (oA (EvA.al Mc Z Z) (oV (sr (Px.c (J (J p s16.2) s24.2)) Bm Z Z Z Z) (jA (jI (oN (fa p6 Z) (oA (lh (I ((J (J p s16.2) s24.2).Op)) PL Z Z Z) ?_))))))))))))));refine oN (Pt.ine Z Z) (jA ?_);refine jN Z h (λq31 h=>?_) (λq31 h=>?_)
    ·refine T.clean (H0:=[bE false u26 5 80 (s24.1.map Pz.c),some ⟨0,4,90,[(Px.c (J (J p s16.2) s24.2))]⟩]) (e0:=ai [(7,.hp 1 0 4 0 0),(6,I s24.2),(5,I s16.2),(3,hS false 0 u26 5 s24.1.length),(0,eL (cL Px.c) p)]) Z (Ps Z (Ps Z (Ps Z (Ps Z (Ps Z Pq))))) (jP (dG [dF,dF,dF,dF,([1],false),([1],false),dF,([1],false),dF,dF,dF,([0],true),dF]) (by kernel_rfl) (by kernel_rfl) (fN Z mv (fN Z mv (fN Z mv (fN Z (fa p6 Z) (fR [1] Z (λG hG=>EvA.loadhp (I ((J (J p s16.2) s24.2).Loc)) PL Z (hG.a0 Z) Z Z Z Z) (fR [1] Z (λG hG=>EvA.loadhp (.agg (Px.c (J (J p s16.2) s24.2))) Bm Z (hG.a0 Z) Z Z Z Z) (fC h (λ_=>yU _) Z Z Z Z Z λv32 _ h=>fR [1] Z (λG hG=>EvA.loadhp (.agg (Px.c (J (J p s16.2) s24.2))) Bm Z (hG.a0 Z) Z Z Z Z) (fC h (λ_=>xZ _) Z Z Z Z Z λv33 _ h=>fN Z (Pt.build [I s16.2,I s24.2,I ((J (J p s16.2) s24.2).Loc),Bo v32,Bo v33] Tryz.underlying80 Ee dA Z Z) (fN Z (Pt.mkF (c:=Pz.c) ([(⟨s16.2,s24.2,(J (J p s16.2) s24.2).Loc,v32,v33⟩:Pz)]:List Pz) [[I s16.2,I s24.2,I ((J (J p s16.2) s24.2).Loc),Bo v32,Bo v33]] pG Z Z Z qD Pz.isF Z) (jL h λg34 h=>fW 0 [] Z Z (λG hG=>EvA.app1 (g:=false) (l:=s24.1) (⟨s16.2,s24.2,(J (J p s16.2) s24.2).Loc,v32,v33⟩:Pz) pG (by kernel_rfl) Z Z (hG.a0 Z) nofun (bf.fz (l:=([(⟨s16.2,s24.2,(J (J p s16.2) s24.2).Loc,v32,v33⟩:Pz)]:List Pz)) Z qD) g34) (fN Z (Pt.asg (hS false 0 (u26+1) 5 ((s24.1++[(⟨s16.2,s24.2,(J (J p s16.2) s24.2).Loc,v32,v33⟩:Pz)]).length)) Z) ?_))))))))))));refine jR ?_;obtain rfl:=Pw h;exact ⟨u26+1,trivial,ow Z (.cons (.list (g:=false) (ver:=u26+1) (l:=(s24.1++[(⟨s16.2,s24.2,(J (J p s16.2) s24.2).Loc,v32,v33⟩:Pz)])) Pz.isF) .nil) (ae (.hS (g:=false) (b:=0) (ver:=u26+1) (s:=5) (n:=(s24.1++[(⟨s16.2,s24.2,(J (J p s16.2) s24.2).Loc,v32,v33⟩:Pz)]).length) Z) (ae (.fz (qC Z)) (ae (.fz (qC Z)) (ae (.fz (qC Z)) aN))))⟩
    refine jG ?_;obtain rfl:=Pw h;exact ⟨u26,trivial,ow Z (.cons (.list (g:=false) (ver:=u26) (l:=s24.1) Pz.isF) .nil) (ae (.hS (g:=false) (b:=0) (ver:=u26) (s:=5) (n:=s24.1.length) Z) (ae (.fz (qC Z)) (ae (.fz (qC Z)) (ae (.fz (qC Z)) aN))))⟩
   refine jM (lX h λh=>?_)
   cases h
   exact ⟨u26,trivial,kw Z Z⟩
  refine jM (lX h λh=>?_)
  cases h
  exact ⟨u18,trivial,kw Z Z⟩
 refine jI (oN as' (jA (jE ?_)));refine jO (S:=(List Pz)×Int) (G:=Nat) mh (λs5 gh=>True) (λs5 gh=>[(4,I s5.2),(3,hS false 0 gh 5 s5.1.length),(0,eL (cL Px.c) p)]) (λs5 gh=>[bE false gh 5 80 (s5.1.map Pz.c)]) (s0:=(([]:List Pz),U)) 0 h trivial (kw Z Z) (λs5 u7 ws5 h hg=>?_);let d0:=(⟨(-1:Int),s5.2,s5.2,false,true⟩:Pz);refine jH (jI (oN mv (oN (Pt.ile Z Z) (jA ?_))));refine jN Z h (λq8 h=>?_) (λq8 h=>?_)
 ·refine jG (jH (jE (jC (oN mv (oN mv (oN mv (oN (Pt.build [I (-1:Int),I s5.2,I s5.2,Bo false,Bo true] Tryz.underlying80 Ee dA Z Z) (oN (Pt.mkF (c:=Pz.c) ([d0]:List Pz) [[I (-1:Int),I s5.2,I s5.2,Bo false,Bo true]] pG Z Z Z qD Pz.isF Z) (jL h λg9 h=>oA (EvA.app1 (g:=false) (l:=s5.1) d0 pG (by kernel_rfl) Z Z Z nofun (bf.fz (l:=([d0]:List Pz)) Z qD) g9) (oN (Pt.asg (hS false 0 (u7+1) 5 ((s5.1++[d0]).length)) Z) (jA (jC (oN mv (jW h λg10 h=>?_))))))))))))));refine oN (Pt.add Z Z g10) (oN as' (jA ?_));obtain rfl:=Pw h;exact ⟨((s5.1++[d0]),(s5.2+V)),u7+1,Z,trivial,kw Z Z⟩
 refine jM (lX h λh=>?_)
 cases h
 exact ⟨u7,trivial,kw Z Z⟩
theorem jd (events:List Pz) (loc:Int) {q} (h:bW events loc=some q):au Tryz.prog 46 [eL Pz.c events,I loc] (eL cI q):=by
 refine pM Tryz.func46 Z (by kernel_rfl) Z (jI (oN as' (jA (jI (oA (EvA.mkO (c:=cI) ([]:LI) [] aD Z Z Z qD Z Z) (oN (Pt.asg (hS false 0 0 1 (([]:LI).length)) Z) (jA ?_)))))));refine T.jF (G:=Nat) h (λs1 gh=>True) (λs1 gh=>[(5,hS false 0 gh 1 s1.length)]) (λs1 gh=>[bE false gh 1 3 (s1.map cI)]) (λs1 u17 h hg=>?_) (λs1 h=>?_)
 ·refine jI (oN mv (oN (Pt.asg (hS false 0 u17 1 s1.length) Z) (jA (jK ?_))));obtain rfl:=Pw h
  repeat (first|refine iA ?_|refine iB ?_)
  exact jQ (vs:=[hS false 0 u17 1 s1.length]) (.cons (.tmp Z) .nil) (Fz.own (g:=false) (ver:=u17) (l:=s1) Z Z Z nofun qD)
 refine jI (oN as' (jA (jE ?_)));refine jO (S:=(LI)×Int) (G:=Nat) (lD events loc) (λs5 gh=>True) (λs5 gh=>[(6,I s5.2),(5,hS false 0 gh 1 s5.1.length),(0,eL Pz.c events),(1,I loc)]) (λs5 gh=>[bE false gh 1 3 (s5.1.map cI)]) (s0:=(([]:LI),U)) 0 h trivial (kw Z Z) (λs5 u7 ws5 h hg=>?_);refine jH (jI (oN mv (oN mv (oN (Pt.lenL pG Z) (oN (Pt.ilt Z Z) (jA ?_))))));refine jN Z h (λq8 h=>?_) (λq8 h=>?_)
 ·refine jG ?_;refine T.jF (G:=Nat) h (λs9 gh=>True) (λs9 gh=>[(5,hS false 0 gh 1 s9.length),(6,I s5.2),(0,eL Pz.c events),(1,I loc)]) (λs9 gh=>[bE false gh 1 3 (s9.map cI)]) (λs9 u15 h hg=>?_) (λs9 h=>?_)
  ·refine jC (oN mv (jW h λg16 h=>oN (Pt.add Z Z g16) (oN as' (jA ?_))));obtain rfl:=Pw h;exact ⟨(s9,(s5.2+V)),u15,Z,trivial,kw Z Z⟩
  refine jE (jI (oN mv (oN mv (jD h λg10 h=>oN (Pt.ixL pG Z Z g10 qD) (oN (fa dA Z) (oN (lf (Bo ((J events s5.2).az)) ty4 Z) (oN mv ?_)))))));refine TO.jB h 8 (λs11=>[(27,Bo s11),(6,I s5.2),(5,hS false 0 u7 1 s5.1.length),(0,eL Pz.c events),(1,I loc)]) (λs11=>[bE false u7 1 3 (s5.1.map cI)]) (λs11 q12 h js11=>?_) (λs11 q12 h js11=>?_) (λs11 h=>?_)
  ·refine gN Z q12 mv (gN Z q12 mv (gN Z q12 (Pt.ixL pG Z Z g10 qD) (gN Z q12 (fa dA Z) (gN Z q12 (lf (I ((J events s5.2).Loc)) PL Z) (gN Z q12 mv (gN Z q12 (Pt.ieq Z Z) (oN (Pt.pickT Z q12 (Bo (((J events s5.2).Loc)==loc)) Z) ?_)))))))
   cases h
   exact js11 _ _ (kw Z Z)
  ·refine gS Z q12 (gS Z q12 (gS Z q12 (gS Z q12 (gS Z q12 (gS Z q12 (gS Z q12 (oN (Pt.pickF Z q12 (Bo false) Z) ?_)))))))
   cases h
   exact js11 _ _ (kw Z Z)
  refine jA ?_;refine jN Z h (λq13 h=>?_) (λq13 h=>?_)
  ·refine jC (oN mv (oN mv (oN (Pt.mkF (c:=cI) ([s5.2]:LI) [[I s5.2]] aD Z Z Z qD qD Z) (jL h λg14 h=>oA (EvA.app1 (g:=false) (l:=s5.1) s5.2 aD (by kernel_rfl) Z Z Z nofun (bf.fz (l:=([s5.2]:LI)) Z qD) g14) (oN (Pt.asg (hS false 0 (u7+1) 1 ((s5.1++[s5.2]).length)) Z) (jA ?_))))))
   cases h
   exact ⟨u7+1,trivial,kw Z Z⟩
  refine jG ?_
  cases h
  exact ⟨u7,trivial,kw Z Z⟩
 refine jM (lX h λh=>?_)
 cases h
 exact ⟨u7,trivial,kw Z Z⟩
theorem ll (list:LI) (n:Int) {q} (h:fK list n=some q):au Tryz.prog 45 [eL cI list,I n] (I q):=by
 refine pM Tryz.func45 Z (by kernel_rfl) Z (jI (oN as' (jA ?_)));obtain ⟨Ks1,es1,ws1,h,ks1⟩:=qB h;refine T.join (S:=Unit) (G:=Unit) (λs1=>Ks1 s1=some q) (λs1 gh=>True) (λs1 gh=>[]) (λs1 gh=>[]) (λs1 gh h hg=>?_) ?_
 ·clear ks1;subst es1;refine jI (oN as' (jA (jK ?_)))
  cases h
  exact aF Z Z Z
 refine jI (oN as' (jA (jE ?_)));refine T.lU h (λs4=>[(5,I s4),(0,eL cI list),(1,I n)]) (λs4=>[]) (kw Z Z) (λs4 ws4 h=>?_);refine jH (jI (oN mv (oN mv (oN (Pt.lenL aD Z) (oN (Pt.ilt Z Z) (jA ?_))))));refine jN Z h (λq6 h=>?_) (λq6 h=>?_)
 ·refine jG (jH (jE (jI (oN mv (oN mv (jD h λg7 h=>oN (Pt.ixL aD Z Z g7 qD) (oN (lf (I (J list s4)) PL Z) (oN mv (oN (Pt.ieq Z Z) (jA ?_))))))))));refine jN Z h (λq8 h=>?_) (λq8 h=>?_)
  ·refine jI (oN mv (oN as' (jA (jK (lX h λh=>?_)))));obtain rfl:=Pw h;replace h:=congrArg some (show _=_ from ks1)
   cases h
   exact aF Z Z Z
  refine jG (jC (oN mv (jW h λg9 h=>oN (Pt.add Z Z g9) (oN as' (jA ?_)))));exact lE h (kw Z Z)
 refine jM (lX h λh=>?_)
 cases h
 exact ⟨(),(),ks1,trivial,kw Z Z⟩
theorem yV (list:LI) (writers:LI) {q} (h:nJ list writers=some q):au Tryz.prog 47 [eL cI list,eL cI writers] (Bo q):=by
 refine pM Tryz.func47 Z (by kernel_rfl) Z (jI (oN as' (jA ?_)));obtain ⟨Ks1,es1,ws1,h,ks1⟩:=qB h;refine T.join (S:=Unit) (G:=Unit) (λs1=>Ks1 s1=some q) (λs1 gh=>True) (λs1 gh=>[(0,eL cI list),(1,eL cI writers)]) (λs1 gh=>[]) (λs1 gh h hg=>?_) ?_
 ·clear ks1;subst es1;obtain ⟨Ks7,es7,ws7,h,ks7⟩:=qB h;refine T.join (S:=Unit) (G:=Unit) (λs7=>Ks7 s7=some q) (λs7 gh=>True) (λs7 gh=>[]) (λs7 gh=>[]) (λs7 gh h hg=>?_) ?_
  ·clear ks7;subst es7;refine jI (oN as' (jA (jK ?_)))
   cases h
   exact aF Z Z Z
  refine jI (oN as' (jA (jE ?_)));refine T.lU h (λs10=>[(5,I s10),(0,eL cI list),(1,eL cI writers)]) (λs10=>[]) (kw Z Z) (λs10 ws10 h=>?_);refine jH (jI (oN mv (oN mv (oN (Pt.lenL aD Z) (oN (Pt.ilt Z Z) (jA ?_))))));refine jN Z h (λq12 h=>?_) (λq12 h=>?_)
  ·refine jG (jH (jE (jI (oN mv (oN mv (oN mv (jD h λg13 h=>oN (Pt.ixL aD Z Z g13 qD) (oN (lf (I (J writers s10)) PL Z) (oC h (λ_=>ll _ _) Z Z Z Z λv14 _ h=>oN (Pt.ilt Z Z) (jA ?_))))))))));refine jN Z h (λq15 h=>?_) (λq15 h=>?_)
   ·refine jI (oN as' (jA (jK (lX h λh=>?_))));obtain rfl:=Pw h;replace h:=congrArg some (show _=_ from ks7)
    cases h
    exact aF Z Z Z
   refine jG (jC (oN mv (jW h λg16 h=>oN (Pt.add Z Z g16) (oN as' (jA ?_)))));exact lE h (kw Z Z)
  refine jM (lX h λh=>?_)
  cases h
  exact ⟨(),(),ks7,trivial,kw Z Z⟩
 refine T.jU h (λs2=>[(19,Bo s2),(0,eL cI list),(1,eL cI writers)]) (λs2=>[]) (λs2 h=>?_) (λs2 h=>?_)
 ·refine jN Z h (λq6 h=>?_) (λq6 h=>?_)
  ·refine jI (oN as' (jA (jK ?_)));obtain rfl:=Pw h;replace h:=congrArg some (show _=_ from ks1)
   cases h
   exact aF Z Z Z
  refine jG ?_
  cases h
  exact ⟨(),(),ks1,trivial,kw Z Z⟩
 refine T.drawG (λ_=>([],false)) (by kernel_rfl) (by kernel_rfl) (tN Z mv (tN Z (Pt.lenL aD Z) (tN Z mv (tN Z (Pt.lenL aD Z) (tN Z (Pt.ine Z Z) (tN Z mv ?_))))));rcases yH h with ⟨q3,h⟩ | ⟨q3,h⟩
 ·refine PN Z q3 (PN Z q3 (PN Z q3 (PN Z q3 (PN Z q3 (PN Z q3 (PN Z q3 (tN Z (Pt.pickT Z q3 (Bo true) Z) (TG.nil ?_))))))))
  cases h
  exact ⟨(),trivial,kw Z Z⟩
 refine PM Z q3 Z mv (jD h λg4 h=>PM Z q3 Z (Pt.ixL aD Z Z g4 qD) (PM Z q3 Z (lf (I (J list U)) PL Z) (PM Z q3 Z mv (jD h λg5 h=>PM Z q3 Z (Pt.ixL aD Z Z g5 qD) (PM Z q3 Z (lf (I (J writers U)) PL Z) (PM Z q3 Z (Pt.ine Z Z) (tN Z (Pt.pickF Z q3 (Bo ((J list U) != (J writers U))) Z) (TG.nil ?_))))))))
 cases h
 exact ⟨(),trivial,kw Z Z⟩
theorem wN (p:List (List Px)) (x:Py) {q} (h:kP p x=some q):au Tryz.prog 24 [eL (cL Px.c) p,.agg (Py.c x)] (Bo q):=by
 refine pM Tryz.func24 Z (by kernel_rfl) Z (jI (oN (Pt.bxF (Py.c x) Z Z Z) (oN as' (jA (jH (jI (oN mv (oC h (λ_=>og _) Z Z Z Z λv1 _ h=>oN (Pt.not Z) (jA ?_)))))))));refine jN Z h (λq2 h=>?_) (λq2 h=>?_)
 ·refine jI (oN as' (jA (jK ?_)))
  cases h
  exact aF Z Z Z
 refine jG (jI (oN mv (oC h (λ_=>dK _) Z Z Z Z λv3 _ h=>oN as' (jA (jH (jI (oN (fa r9 Z) (oN (lf (eL cI x.From) mZ Z) (oN (Pt.lenL aD Z) (oN mv (oN (Pt.lenL pG Z) (oN (Pt.ine Z Z) (oN mv ?_)))))))))))));refine TO.jB h 5 (λs4=>[(24,Bo s4),(5,eL Pz.c v3),(3,.fp (Py.c x) 0)]) (λs4=>[]) (λs4 q5 h js4=>?_) (λs4 q5 h js4=>?_) (λs4 h=>?_)
 ·refine gS Z q5 (gS Z q5 (gS Z q5 (gS Z q5 (oN (Pt.pickT Z q5 (Bo true) Z) ?_))))
  cases h
  exact js4 _ _ (kw Z Z)
 ·refine gN Z q5 (fa r9 Z) (gN Z q5 (lf (eL (cL cI) x.Order) zT Z) (gN Z q5 (Pt.lenL gT Z) (gN Z q5 (Pt.ine Z Z) (oN (Pt.pickF Z q5 (Bo ((x.Order.length:Int) != (3:Int))) Z) ?_))))
  cases h
  exact js4 _ _ (kw Z Z)
 refine jA ?_;refine jN Z h (λq6 h=>?_) (λq6 h=>?_)
 ·refine jI (oN as' (jA (jK ?_)))
  cases h
  exact aF Z Z Z
 refine jG ?_;obtain ⟨Ks7,es7,ws7,h,ks7⟩:=qB h;refine T.join (S:=Unit) (G:=Unit) (λs7=>Ks7 s7=some q) (λs7 gh=>True) (λs7 gh=>[(5,eL Pz.c v3),(3,.fp (Py.c x) 0)]) (λs7 gh=>[]) (λs7 gh h hg=>?_) ?_
 ·clear ks7;subst es7;obtain ⟨Ks31,es31,ws31,h,ks31⟩:=qB h;refine T.join (S:=Unit) (G:=Unit) (λs31=>Ks31 s31=some q) (λs31 gh=>True) (λs31 gh=>[]) (λs31 gh=>[]) (λs31 gh h hg=>?_) ?_
  ·clear ks31;subst es31;refine jI (oN as' (jA (jK ?_)))
   cases h
   exact aF Z Z Z
  refine jI (oN as' (jA (jE ?_)));refine T.lU h (λs34=>[(7,I s34),(5,eL Pz.c v3),(3,.fp (Py.c x) 0)]) (λs34=>[]) (kw Z Z) (λs34 ws34 h=>?_);refine jH (jI (oN mv (oN (Pt.ile Z Z) (jA ?_))));refine jN Z h (λq36 h=>?_) (λq36 h=>?_)
  ·refine jG (jH (jE (jH (jP (λ_=>([],false)) (by kernel_rfl) (by kernel_rfl) (fN Z (fa r9 Z) (fN Z (lf (eL (cL cI) x.Order) zT Z) (fN Z mv (jD h λg37 h=>fN Z (Pt.ixL gT Z Z g37 qD) (fN Z (lf (eL cI (J x.Order s34)) mZ Z) (fN Z mv (fN Z mv (fC h (λ_=>jd _ _) Z Z Z Z Z λv38 _ h=>fC h (λ_=>yV _ _) Z Z Z Z Z λv39 _ h=>fN Z (Pt.not Z) ?_))))))))))));refine jR ?_;refine jN Z h (λq40 h=>?_) (λq40 h=>?_)
   ·refine jI (oN as' (jA (jK (lX h λh=>?_))));obtain rfl:=Pw h;replace h:=congrArg some (show _=_ from ks31)
    cases h
    exact aF Z Z Z
   refine jG (jC (oN mv (jW h λg41 h=>oN (Pt.add Z Z g41) (oN as' (jA ?_)))));exact lE h (kw Z Z)
  refine jM (lX h λh=>?_)
  cases h
  exact ⟨(),(),ks31,trivial,kw Z Z⟩
 refine jI (oN as' (jA (jE ?_)));refine T.lU h (λs10=>[(6,I s10),(5,eL Pz.c v3),(3,.fp (Py.c x) 0)]) (λs10=>[]) (kw Z Z) (λs10 ws10 h=>?_);let d0:=x.From.getD s10.toNat default;refine jH (jI (oN mv (oN mv (oN (Pt.lenL pG Z) (oN (Pt.ilt Z Z) (jA ?_))))));refine jN Z h (λq12 h=>?_) (λq12 h=>?_)
 ·refine jG ?_;obtain ⟨Ks13,es13,ws13,h,ks13⟩:=qB h;refine T.join (S:=Unit) (G:=Unit) (λs13=>Ks13 s13=some ws10) (λs13 gh=>True) (λs13 gh=>[(6,I s10),(5,eL Pz.c v3),(3,.fp (Py.c x) 0)]) (λs13 gh=>[]) (λs13 gh h hg=>?_) ?_
  ·clear ks13;subst es13;refine jC (oN mv (jW h λg30 h=>oN (Pt.add Z Z g30) (oN as' (jA ?_))));exact lE h (kw Z Z)
  refine jE ?_;obtain ⟨Ks14,es14,ws14,h,ks14⟩:=qB h;refine T.join (S:=Unit) (G:=Unit) (λs14=>Ks14 s14=some ws13) (λs14 gh=>True) (λs14 gh=>[(6,I s10),(5,eL Pz.c v3),(3,.fp (Py.c x) 0)]) (λs14 gh=>[]) (λs14 gh h hg=>?_) ?_
  ·clear ks14;subst es14;refine jI (oN mv (oN mv (jD h λg22 h=>oN (Pt.ixL pG Z Z g22 qD) (oN (fa dA Z) (oN (lf (Bo ((J v3 s10).Reads)) ty4 Z) (oN (Pt.not Z) (oN mv ?_)))))));refine TO.jB h 7 (λs23=>[(65,Bo s23),(6,I s10),(5,eL Pz.c v3),(3,.fp (Py.c x) 0)]) (λs23=>[]) (λs23 q24 h js23=>?_) (λs23 q24 h js23=>?_) (λs23 h=>?_)
   ·refine gN Z q24 (fa r9 Z) (gN Z q24 (lf (eL cI x.From) mZ Z) (gN Z q24 mv (jD h λg25 h=>gN Z q24 (Pt.ixL aD Z Z g25 qD) (gN Z q24 (lf (I d0) PL Z) (gN Z q24 (Pt.ine Z Z) (oN (Pt.pickT Z q24 (Bo (d0 != (-1:Int))) Z) ?_))))))
    cases h
    exact js23 _ _ (kw Z Z)
   ·refine gS Z q24 (gS Z q24 (gS Z q24 (gS Z q24 (gS Z q24 (gS Z q24 (oN (Pt.pickF Z q24 (Bo false) Z) ?_))))))
    cases h
    exact js23 _ _ (kw Z Z)
   refine oN mv ?_;refine TO.jB h 8 (λs26=>[(74,Bo s26),(6,I s10),(5,eL Pz.c v3),(3,.fp (Py.c x) 0)]) (λs26=>[]) (λs26 q27 h js26=>?_) (λs26 q27 h js26=>?_) (λs26 h=>?_)
   ·refine gS Z q27 (gS Z q27 (gS Z q27 (gS Z q27 (gS Z q27 (gS Z q27 (gS Z q27 (oN (Pt.pickT Z q27 (Bo true) Z) ?_)))))))
    cases h
    exact js26 _ _ (kw Z Z)
   ·refine gN Z q27 (fa r9 Z) (gN Z q27 (lf (eL cI x.From) mZ Z) (gN Z q27 mv (jD h λg28 h=>gN Z q27 (Pt.ixL aD Z Z g28 qD) (gN Z q27 (lf (I d0) PL Z) (gN Z q27 mv (gN Z q27 (Pt.ieq Z Z) (oN (Pt.pickF Z q27 (Bo (d0==s10)) Z) ?_)))))))
    cases h
    exact js26 _ _ (kw Z Z)
   refine jA ?_;refine jN Z h (λq29 h=>?_) (λq29 h=>?_)
   ·refine jI (oN as' (jA (jK ?_)));obtain rfl:=Pw h;replace h:=congrArg some (show _=_ from ks13);refine lX h λh=>?_;obtain rfl:=Pw h;replace h:=congrArg some (show _=_ from ks7)
    cases h
    exact aF Z Z Z
   refine jG ?_
   cases h
   exact ⟨(),(),ks13,trivial,kw Z Z⟩
  refine T.jU h (λs15=>[(51,Bo s15),(6,I s10),(5,eL Pz.c v3),(3,.fp (Py.c x) 0)]) (λs15=>[]) (λs15 h=>?_) (λs15 h=>?_)
  ·refine jN Z h (λq21 h=>?_) (λq21 h=>?_)
   ·refine jI (oN as' (jA (jK ?_)));obtain rfl:=Pw h;replace h:=congrArg some (show _=_ from ks14);obtain rfl:=Pw h;replace h:=congrArg some (show _=_ from ks13);refine lX h λh=>?_;obtain rfl:=Pw h;replace h:=congrArg some (show _=_ from ks7)
    cases h
    exact aF Z Z Z
   refine jG ?_
   cases h
   exact ⟨(),(),ks14,trivial,kw Z Z⟩
  refine T.drawG (λ_=>([],false)) (by kernel_rfl) (by kernel_rfl) (tN Z mv (tN Z mv (jD h λg16 h=>tN Z (Pt.ixL pG Z Z g16 qD) (tN Z (fa dA Z) (tN Z (lf (Bo ((J v3 s10).Reads)) ty4 Z) (tN Z mv ?_))))));rcases yH h with ⟨q17,h⟩ | ⟨q17,h⟩
  ·refine PM Z q17 Z mv (PM Z q17 Z mv (PM Z q17 Z mv (PM Z q17 Z (Pt.ixL pG Z Z g16 qD) (PM Z q17 Z (fa dA Z) (PM Z q17 Z (lf (I ((J v3 s10).Loc)) PL Z) (jB h λv18 cv18 h=>PM Z q17 Z (Pt.call Z Z Z (jd v3 ((J v3 s10).Loc) cv18) Z) (PM Z q17 Z (fa r9 Z) (PM Z q17 Z (lf (eL cI x.From) mZ Z) (PM Z q17 Z mv (jD h λg19 h=>PM Z q17 Z (Pt.ixL aD Z Z g19 qD) (PM Z q17 Z (lf (I d0) PL Z) (jB h λv20 cv20 h=>PM Z q17 Z (Pt.call Z Z Z (ll v18 d0 cv20) Z) ?_))))))))))));refine PM Z q17 Z (Pt.ilt Z Z) (tN Z (Pt.pickT Z q17 (Bo (decide (v20<U))) Z) (TG.nil ?_))
   cases h
   exact ⟨(),trivial,kw Z Z⟩
  refine PN Z q17 (PN Z q17 (PN Z q17 (PN Z q17 (PN Z q17 (PN Z q17 (PN Z q17 (PN Z q17 (PN Z q17 (PN Z q17 (PN Z q17 (PN Z q17 (PN Z q17 (PN Z q17 (tN Z (Pt.pickF Z q17 (Bo false) Z) (TG.nil ?_)))))))))))))))
  cases h
  exact ⟨(),trivial,kw Z Z⟩
 refine jM (lX h λh=>?_)
 cases h
 exact ⟨(),(),ks7,trivial,kw Z Z⟩
theorem A7 (op:Int) {q} (h:mo op=some q):au Tryz.prog 143 [I op] (I q):=by
 refine pM Tryz.func143 Z (by kernel_rfl) Z (jI (oN as' (jA (jH (jI (oN mv (jA (jE (jI (oN (Pt.ieq Z Z) (oN as' (jA ?_))))))))))));refine jN Z h (λq1 h=>?_) (λq1 h=>?_)
 ·refine jI (oN as' (jA (jK ?_)))
  cases h
  exact aF Z Z Z
 refine T.jU h (λs2=>[(6,Bo s2),(3,I op)]) (λs2=>[]) (λs2 h=>?_) (λs2 h=>?_)
 ·refine jN Z h (λq6 h=>?_) (λq6 h=>?_)
  ·refine jI (oN as' (jA (jK ?_)))
   cases h
   exact aF Z Z Z
  refine T.jU h (λs7=>[(11,Bo s7)]) (λs7=>[]) (λs7 h=>?_) (λs7 h=>?_)
  ·refine jN Z h (λq9 h=>?_) (λq9 h=>?_)
   ·refine jI (oN as' (jA (jK ?_)))
    cases h
    exact aF Z Z Z
   refine jG (jI (oN as' (jA (jK ?_))))
   cases h
   exact aF Z Z Z
  refine jI (oN (Pt.ieq Z Z) (oN as' (jA ?_)));refine jN Z h (λq8 h=>?_) (λq8 h=>?_)
  ·refine jG ?_
   cases h
   exact ⟨(),trivial,kw Z Z⟩
  refine jC (oN (Pt.ieq Z Z) (oN as' (jA ?_)))
  cases h
  exact ⟨(),trivial,kw Z Z⟩
 refine jI (oN (Pt.ieq Z Z) (oN as' (jA ?_)));refine jN Z h (λq3 h=>?_) (λq3 h=>?_)
 ·refine jG ?_
  cases h
  exact ⟨(),trivial,kw Z Z⟩
 refine jI (oN (Pt.ieq Z Z) (oN as' (jA ?_)));refine jN Z h (λq4 h=>?_) (λq4 h=>?_)
 ·refine jG ?_
  cases h
  exact ⟨(),trivial,kw Z Z⟩
 refine jI (oN (Pt.ieq Z Z) (oN as' (jA ?_)));refine jN Z h (λq5 h=>?_) (λq5 h=>?_)
 ·refine jG ?_
  cases h
  exact ⟨(),trivial,kw Z Z⟩
 refine jC (oN (Pt.ieq Z Z) (oN as' (jA ?_)))
 cases h
 exact ⟨(),trivial,kw Z Z⟩
theorem yX {q} (h:qX=some q):au Tryz.prog 185 [] (eL cS q):=by
 refine au.mkT Tryz.func185 Z (by kernel_rfl) Z (by kernel_rfl) (e0:=ai []) Pq (jI (oN as' (jA (jI (oN (Pt.mkF (c:=cS) ([(⟨#[112,111]⟩:ByteArray),(⟨#[108,111,99]⟩:ByteArray),(⟨#[101,120,116]⟩:ByteArray),(⟨#[114,102]⟩:ByteArray),(⟨#[99,111]⟩:ByteArray),(⟨#[102,114]⟩:ByteArray),(⟨#[102,101,110,99,101]⟩:ByteArray),(⟨#[119,114]⟩:ByteArray),(⟨#[119,119]⟩:ByteArray),(⟨#[105,100]⟩:ByteArray)]:List ByteArray) [[St (⟨#[112,111]⟩:ByteArray)],[St (⟨#[108,111,99]⟩:ByteArray)],[St (⟨#[101,120,116]⟩:ByteArray)],[St (⟨#[114,102]⟩:ByteArray)],[St (⟨#[99,111]⟩:ByteArray)],[St (⟨#[102,114]⟩:ByteArray)],[St (⟨#[102,101,110,99,101]⟩:ByteArray)],[St (⟨#[119,114]⟩:ByteArray)],[St (⟨#[119,119]⟩:ByteArray)],[St (⟨#[105,100]⟩:ByteArray)]] AR Z Z Z qD qD Z) (oN as' (jA (jK ?_))))))))
 cases h
 exact aF Z Z Z
theorem yY (s:ByteArray) {q} (h:kG s=some q):au Tryz.prog 144 [St s] (Bo q):=by
 refine pM Tryz.func144 Z (by kernel_rfl) Z (jI (oN as' (jA (jI (oC h (λ_=>yX) Z Z Z Z λv1 _ h=>oN as' (jA ?_))))));obtain ⟨Ks2,es2,ws2,h,ks2⟩:=qB h;refine T.join (S:=Unit) (G:=Unit) (λs2=>Ks2 s2=some q) (λs2 gh=>True) (λs2 gh=>[]) (λs2 gh=>[]) (λs2 gh h hg=>?_) ?_
 ·clear ks2;subst es2;refine jI (oN as' (jA (jK ?_)))
  cases h
  exact aF Z Z Z
 refine jI (oN as' (jA (jE ?_)));refine T.lU h (λs5=>[(4,I s5),(3,eL cS v1),(0,St s)]) (λs5=>[]) (kw Z Z) (λs5 ws5 h=>?_);refine jH (jI (oN mv (oN mv (oN (Pt.lenL AR Z) (oN (Pt.ilt Z Z) (jA ?_))))));refine jN Z h (λq7 h=>?_) (λq7 h=>?_)
 ·refine jG (jH (jE (jI (oN mv (oN mv (jD h λg8 h=>oN (Pt.ixL AR Z Z g8 qD) (oN (lf (St (J v1 s5)) ty9 Z) (oN mv (oN (Pt.seq Z Z) (jA ?_))))))))));refine jN Z h (λq9 h=>?_) (λq9 h=>?_)
  ·refine jI (oN as' (jA (jK (lX h λh=>?_))));obtain rfl:=Pw h;replace h:=congrArg some (show _=_ from ks2)
   cases h
   exact aF Z Z Z
  refine jG (jC (oN mv (jW h λg10 h=>oN (Pt.add Z Z g10) (oN as' (jA ?_)))));exact lE h (kw Z Z)
 refine jM (lX h λh=>?_)
 cases h
 exact ⟨(),(),ks2,trivial,kw Z Z⟩
theorem yc:∀ (nf:Nat) (e_:aa) (depth:Int) {q} (h:eH nf e_ depth=some q),au Tryz.prog 94 [.agg (aa.c e_),I depth] (Bo q):=by
 intro nf
 induction nf with
 | zero=>intros;rename_i h;cases h
 | succ nf ih=>
  intro e_ depth q h;replace h:kQ (eH nf) e_ depth=some q:=h;refine pM Tryz.func94 Z (by kernel_rfl) Z (jI (oN (Pt.bxF (aa.c e_) Z Z Z) (oN as' (jA ?_))));obtain ⟨Ks1,es1,ws1,h,ks1⟩:=qB h;refine T.join (S:=Unit) (G:=Unit) (λs1=>Ks1 s1=some q) (λs1 gh=>True) (λs1 gh=>[(2,.fp (aa.c e_) 0),(1,I depth)]) (λs1 gh=>[]) (λs1 gh h hg=>?_) ?_
  ·clear ks1;subst es1;obtain ⟨Ks10,es10,ws10,h,ks10⟩:=qB h;refine T.join (S:=Unit) (G:=Unit) (λs10=>Ks10 s10=some q) (λs10 gh=>True) (λs10 gh=>[]) (λs10 gh=>[]) (λs10 gh h hg=>?_) ?_
   ·clear ks10;subst es10;refine jI (oN as' (jA (jK ?_)))
    cases h
    exact aF Z Z Z
   refine jI (oN as' (jA (jE ?_)));refine T.lU h (λs13=>[(5,I s13),(2,.fp (aa.c e_) 0),(1,I depth)]) (λs13=>[]) (kw Z Z) (λs13 ws13 h=>?_);refine jH (jI (oN mv (oN (fa tv Z) (oN (lf (eL TXimpl_RelExpr.c e_.Kids) FM Z) (oN (Pt.lenL De Z) (oN (Pt.ilt Z Z) (jA ?_)))))));refine jN Z h (λq15 h=>?_) (λq15 h=>?_)
   ·refine jG (jH (jE (jI (oN (fa tv Z) (oN (lf (eL TXimpl_RelExpr.c e_.Kids) FM Z) (oN mv (jD h λg16 h=>oN (Pt.res (Pt.ixL De Z Z g16 TXimpl_RelExpr.len) (r' := .fp (aa.c (J e_.Kids s13).out) 0) (λ_ _ hr=>qd (TXimpl_RelExpr.out_c _) hr)) (oN (lf (.agg (aa.c ((J e_.Kids s13).out))) xS Z) (oN mv (jW h λg17 h=>oN (Pt.sub Z Z g17) (oC h (λ_=>ih _ _) Z Z Z Z λv18 _ h=>oN (Pt.not Z) (jA ?_))))))))))));refine jN Z h (λq19 h=>?_) (λq19 h=>?_)
    ·refine jH (T.clean (H0:=[]) (e0:=ai []) Z Pq (jC (oN as' (jA (jK (lX h λh=>?_))))));obtain rfl:=Pw h;replace h:=congrArg some (show _=_ from ks10)
     cases h
     exact aF Z Z Z
    refine jG (jC (oN mv (jW h λg20 h=>oN (Pt.add Z Z g20) (oN as' (jA ?_)))));exact lE h (kw Z Z)
   refine jM (lX h λh=>?_)
   cases h
   exact ⟨(),(),ks10,trivial,kw Z Z⟩
  refine T.jU h (λs2=>[(35,Bo s2),(2,.fp (aa.c e_) 0),(1,I depth)]) (λs2=>[]) (λs2 h=>?_) (λs2 h=>?_)
  ·refine jN Z h (λq9 h=>?_) (λq9 h=>?_)
   ·refine jI (oN as' (jA (jK ?_)));obtain rfl:=Pw h;replace h:=congrArg some (show _=_ from ks1)
    cases h
    exact aF Z Z Z
   refine jG ?_
   cases h
   exact ⟨(),(),ks1,trivial,kw Z Z⟩
  refine T.drawG (λ_=>([],false)) (by kernel_rfl) (by kernel_rfl) (tN Z mv (tN Z (Pt.ilt Z Z) (tN Z mv ?_)));rcases yH h with ⟨q3,h⟩ | ⟨q3,h⟩
  ·refine PN Z q3 (PN Z q3 (PN Z q3 (PN Z q3 (PN Z q3 (PN Z q3 (PN Z q3 (tN Z (Pt.pickT Z q3 (Bo true) Z) (tN Z mv (PN Z Z (PN Z Z (PN Z Z (PN Z Z (PN Z Z (PN Z Z (PN Z Z ?_)))))))))))))));refine tN Z (Pt.pickT Z Z (Bo true) Z) (tN Z mv (PN Z Z (PN Z Z (PN Z Z (PN Z Z (tgU Z (tgU Z (tgU Z (PN Z Z (tN Z (Pt.pickT Z Z (Bo true) Z) (TG.nil ?_)))))))))))
   cases h
   exact ⟨(),trivial,kw Z Z⟩
  refine PM Z q3 Z (fa tv Z) (PM Z q3 Z (lf (eL TXimpl_RelExpr.c e_.Kids) FM Z) (PM Z q3 Z (Pt.lenL De Z) (PM Z q3 Z (fa tv Z) (PM Z q3 Z (lf (I e_.Op) PL Z) (jB h λv4 cv4 h=>PM Z q3 Z (Pt.call Z Z Z (A7 e_.Op cv4) Z) (PM Z q3 Z (Pt.ine Z Z) (tN Z (Pt.pickF Z q3 (Bo ((e_.Kids.length:Int) != v4)) Z) (tN Z mv ?_))))))));rcases yH h with ⟨q5,h⟩ | ⟨q5,h⟩
  ·refine PN Z q5 (PN Z q5 (PN Z q5 (PN Z q5 (PN Z q5 (PN Z q5 (PN Z q5 (tN Z (Pt.pickT Z q5 (Bo true) Z) (tN Z mv (PN Z Z (PN Z Z (PN Z Z (PN Z Z (tgU Z (tgU Z (tgU Z ?_)))))))))))))));refine PN Z Z (tN Z (Pt.pickT Z Z (Bo true) Z) (TG.nil ?_))
   cases h
   exact ⟨(),trivial,kw Z Z⟩
  refine PM Z q5 Z (fa tv Z) (PM Z q5 Z (lf (I e_.Op) PL Z) (PM Z q5 Z (Pt.ieq Z Z) (PM Z q5 Z (fa tv Z) (PM Z q5 Z (lf (St e_.Name) ty9 Z) (jB h λv6 cv6 h=>PM Z q5 Z (Pt.call Z Z Z (yY e_.Name cv6) Z) (PM Z q5 Z (Pt.bne bt4 Z Z) (tN Z (Pt.pickF Z q5 (Bo (!((e_.Op==V)==v6))) Z) (tN Z mv ?_))))))));rcases yH h with ⟨q7,h⟩ | ⟨q7,h⟩
  ·refine PN Z q7 (PN Z q7 (PN Z q7 (PN Z q7 (tgU Z (tgU Z (tgU Z (PN Z q7 (tN Z (Pt.pickT Z q7 (Bo true) Z) (TG.nil ?_)))))))))
   cases h
   exact ⟨(),trivial,kw Z Z⟩
  refine PM Z q7 Z (fa tv Z) (PM Z q7 Z (lf (I e_.Op) PL Z) (PM Z q7 Z (Pt.ine Z Z) (PM Z q7 Z mv ?_)));rcases yH h with ⟨q8,h⟩ | ⟨q8,h⟩
  ·refine PM Z q8 Z (fa tv Z) (PM Z q8 Z (lf (St e_.Name) ty9 Z) (PM Z q8 Z (Pt.sne Z Z) (PM Z q7 Z (Pt.pickT Z q8 (Bo (!decide (e_.Name=(⟨#[]⟩:ByteArray)))) Z) (tN Z (Pt.pickF Z q7 (Bo (!decide (e_.Name=(⟨#[]⟩:ByteArray)))) Z) (TG.nil ?_)))))
   cases h
   exact ⟨(),trivial,kw Z Z⟩
  refine PN Z q8 (PN Z q8 (PN Z q8 (PM Z q7 Z (Pt.pickF Z q8 (Bo false) Z) (tN Z (Pt.pickF Z q7 (Bo false) Z) (TG.nil ?_)))))
  cases h
  exact ⟨(),trivial,kw Z Z⟩
theorem yZ (e_:aa) (depth:Int) {q} (h:uS e_ depth=some q):au Tryz.prog 94 [.agg (aa.c e_),I depth] (Bo q):=by
 obtain ⟨nf,h⟩:=mb h;exact yc nf e_ depth h
theorem yd:∀ (nf:Nat) (e_:aa) (most:Int) {q} (h:eM nf e_ most=some q),au Tryz.prog 95 [.agg (aa.c e_),I most] (I q):=by
 intro nf
 induction nf with
 | zero=>intros;rename_i h;cases h
 | succ nf ih=>
  intro e_ most q h;replace h:kR (eM nf) e_ most=some q:=h;refine pM Tryz.func95 Z (by kernel_rfl) Z (jI (oN (Pt.bxF (aa.c e_) Z Z Z) (oN as' (jA (jI (oN as' (jA ?_)))))));refine T.jU h (λs1=>[(5,I s1)]) (λs1=>[]) (λs1 h=>?_) (λs1 h=>?_)
  ·refine jI (oN mv (oN as' (jA (jK ?_))))
   cases h
   exact aF Z Z Z
  refine jI (oN as' (jA (jE ?_)));refine T.lU h (λs4=>[(6,I s4.1),(5,I s4.2),(2,.fp (aa.c e_) 0),(1,I most)]) (λs4=>[]) (kw Z Z) (λs4 ws4 h=>?_);refine jH (jI (oN mv (oN (fa tv Z) (oN (lf (eL TXimpl_RelExpr.c e_.Kids) FM Z) (oN (Pt.lenL De Z) (oN (Pt.ilt Z Z) (oN mv ?_)))))));refine TO.jB h 4 (λs6=>[(16,Bo s6),(6,I s4.1),(5,I s4.2),(2,.fp (aa.c e_) 0),(1,I most)]) (λs6=>[]) (λs6 q7 h js6=>?_) (λs6 q7 h js6=>?_) (λs6 h=>?_)
  ·refine gN Z q7 mv (gN Z q7 mv (gN Z q7 (Pt.ile Z Z) (oN (Pt.pickT Z q7 (Bo (decide (s4.2<=most))) Z) ?_)))
   cases h
   exact js6 _ _ (kw Z Z)
  ·refine gS Z q7 (gS Z q7 (gS Z q7 (oN (Pt.pickF Z q7 (Bo false) Z) ?_)))
   cases h
   exact js6 _ _ (kw Z Z)
  refine jA ?_;refine jN Z h (λq8 h=>?_) (λq8 h=>?_)
  ·refine jG (jH (jE (jC (oN mv (oN (fa tv Z) (oN (lf (eL TXimpl_RelExpr.c e_.Kids) FM Z) (oN mv (jD h λg9 h=>oN (Pt.res (Pt.ixL De Z Z g9 TXimpl_RelExpr.len) (r' := .fp (aa.c (J e_.Kids s4.1).out) 0) (λ_ _ hr=>qd (TXimpl_RelExpr.out_c _) hr)) (oN (lf (.agg (aa.c ((J e_.Kids s4.1).out))) xS Z) (oN mv (oN mv (jW h λg10 h=>oN (Pt.sub Z Z g10) (oC h (λ_=>ih _ _) Z Z Z Z λv11 _ h=>?_)))))))))))));refine jW h λg12 h=>oN (Pt.add Z Z g12) (oN as' (jA (jC (oN mv (jW h λg13 h=>oN (Pt.add Z Z g13) (oN as' (jA ?_)))))));exact lE h (kw Z Z)
  refine jM (lX h λh=>?_)
  cases h
  exact ⟨(),trivial,kw Z Z⟩
theorem za (e_:aa) (most:Int) {q} (h:uT e_ most=some q):au Tryz.prog 95 [.agg (aa.c e_),I most] (I q):=by
 obtain ⟨nf,h⟩:=mb h;exact yd nf e_ most h
theorem ui (e_:aa) {q} (h:gY e_=some q):au Tryz.prog 48 [.agg (aa.c e_)] (Bo q):=by
 refine pM Tryz.func48 Z (by kernel_rfl) Z (jI (oN (Pt.bxF (aa.c e_) Z Z Z) (oN as' (jA (jI (oN (lf (.agg (aa.c e_)) xS Z) (oC h (λ_=>yZ _ _) Z Z Z Z λv1 _ h=>oN mv ?_)))))));refine TO.jB h 4 (λs2=>[(9,Bo s2)]) (λs2=>[]) (λs2 q3 h js2=>?_) (λs2 q3 h js2=>?_) (λs2 h=>?_)
 ·refine gN Z q3 (lf (.agg (aa.c e_)) xS Z) (jB h λv4 cv4 h=>gN Z q3 (Pt.call Z Z Z (za e_ (40:Int) cv4) Z) (gN Z q3 (Pt.ile Z Z) (oN (Pt.pickT Z q3 (Bo (decide (v4<=(40:Int)))) Z) ?_)))
  cases h
  exact js2 _ _ (kw Z Z)
 ·refine gS Z q3 (gS Z q3 (gS Z q3 (oN (Pt.pickF Z q3 (Bo false) Z) ?_)))
  cases h
  exact js2 _ _ (kw Z Z)
 refine oN as' (jA (jK ?_))
 cases h
 exact aF Z Z Z
theorem vF (m:List ah) {q} (h:gp m=some q):au Tryz.prog 25 [eL ah.c m] (Bo q):=by
 refine pM Tryz.func25 Z (by kernel_rfl) Z (jI (oN as' (jA ?_)));obtain ⟨Ks1,es1,ws1,h,ks1⟩:=qB h;refine T.join (S:=Unit) (G:=Unit) (λs1=>Ks1 s1=some q) (λs1 gh=>True) (λs1 gh=>[(0,eL ah.c m)]) (λs1 gh=>[]) (λs1 gh h hg=>?_) ?_
 ·clear ks1;subst es1;refine jI (oN mv (oN (Pt.lenL zU Z) (oN (Pt.igt Z Z) (oN mv ?_))));refine TO.jB h 4 (λs17=>[(44,Bo s17)]) (λs17=>[]) (λs17 q18 h js17=>?_) (λs17 q18 h js17=>?_) (λs17 h=>?_)
  ·refine gN Z q18 mv (gN Z q18 (Pt.lenL zU Z) (gN Z q18 (Pt.ile Z Z) (oN (Pt.pickT Z q18 (Bo (decide ((m.length:Int)<=(5:Int)))) Z) ?_)))
   cases h
   exact js17 _ _ (kw Z Z)
  ·refine gS Z q18 (gS Z q18 (gS Z q18 (oN (Pt.pickF Z q18 (Bo false) Z) ?_)))
   cases h
   exact js17 _ _ (kw Z Z)
  refine oN as' (jA (jK ?_))
  cases h
  exact aF Z Z Z
 refine jI (oN as' (jA (jE ?_)));refine T.lU h (λs4=>[(3,I s4),(0,eL ah.c m)]) (λs4=>[]) (kw Z Z) (λs4 ws4 h=>?_);refine jH (jI (oN mv (oN mv (oN (Pt.lenL zU Z) (oN (Pt.ilt Z Z) (oN mv ?_))))));refine TO.jB h 3 (λs6=>[(11,Bo s6),(3,I s4),(0,eL ah.c m)]) (λs6=>[]) (λs6 q7 h js6=>?_) (λs6 q7 h js6=>?_) (λs6 h=>?_)
 ·refine gN Z q7 mv (gN Z q7 (Pt.ile Z Z) (oN (Pt.pickT Z q7 (Bo (decide (s4<=(5:Int)))) Z) ?_))
  cases h
  exact js6 _ _ (kw Z Z)
 ·refine gS Z q7 (gS Z q7 (oN (Pt.pickF Z q7 (Bo false) Z) ?_))
  cases h
  exact js6 _ _ (kw Z Z)
 refine jA ?_;refine jN Z h (λq8 h=>?_) (λq8 h=>?_)
 ·refine jG (jH (jE (jI (oN mv (oN mv (jD h λg9 h=>oN (Pt.ixL zU Z Z g9 qD) (oN (fa Gy Z) (oN (lf (I ((J m s4).Kind)) PL Z) (oN (Pt.ilt Z Z) (oN mv ?_))))))))));refine TO.jB h 7 (λs10=>[(27,Bo s10),(3,I s4),(0,eL ah.c m)]) (λs10=>[]) (λs10 q11 h js10=>?_) (λs10 q11 h js10=>?_) (λs10 h=>?_)
  ·refine gS Z q11 (gS Z q11 (gS Z q11 (gS Z q11 (gS Z q11 (gS Z q11 (oN (Pt.pickT Z q11 (Bo true) Z) ?_))))))
   cases h
   exact js10 _ _ (kw Z Z)
  ·refine gN Z q11 mv (gN Z q11 mv (gN Z q11 (Pt.ixL zU Z Z g9 qD) (gN Z q11 (fa Gy Z) (gN Z q11 (lf (I ((J m s4).Kind)) PL Z) (gN Z q11 (Pt.igt Z Z) (oN (Pt.pickF Z q11 (Bo (decide ((3:Int)<((J m s4).Kind)))) Z) ?_))))))
   cases h
   exact js10 _ _ (kw Z Z)
  refine oN mv ?_;refine TO.jB h 8 (λs12=>[(36,Bo s12),(3,I s4),(0,eL ah.c m)]) (λs12=>[]) (λs12 q13 h js12=>?_) (λs12 q13 h js12=>?_) (λs12 h=>?_)
  ·refine gS Z q13 (gS Z q13 (gS Z q13 (gS Z q13 (gS Z q13 (gS Z q13 (gS Z q13 (oN (Pt.pickT Z q13 (Bo true) Z) ?_)))))))
   cases h
   exact js12 _ _ (kw Z Z)
  ·refine gN Z q13 mv (gN Z q13 mv (gN Z q13 (Pt.ixL zU Z Z g9 qD) (gN Z q13 (Pt.fafpS 3 Tryz.underlying65 Z (by kernel_rfl) Z Z (row2:=aa.c ((J m s4).Expr))) (gN Z q13 (lf (.agg (aa.c ((J m s4).Expr))) xS Z) (jB h λv14 cv14 h=>gN Z q13 (Pt.call Z Z Z (ui ((J m s4).Expr) cv14) Z) (gN Z q13 (Pt.not Z) (oN (Pt.pickF Z q13 (Bo (!v14)) Z) ?_)))))))
   cases h
   exact js12 _ _ (kw Z Z)
  refine jA ?_;refine jN Z h (λq15 h=>?_) (λq15 h=>?_)
  ·refine jI (oN as' (jA (jK (lX h λh=>?_))));obtain rfl:=Pw h;replace h:=congrArg some (show _=_ from ks1)
   cases h
   exact aF Z Z Z
  refine jG (jC (oN mv (jW h λg16 h=>oN (Pt.add Z Z g16) (oN as' (jA ?_)))));exact lE h (kw Z Z)
 refine jM (lX h λh=>?_)
 cases h
 exact ⟨(),(),ks1,trivial,kw Z Z⟩
theorem uX (p:List (List Px)) (events:List Pz) (t:Int) (index:Int) (reg:Int) {q} (h:nY p events t index reg=some q):au Tryz.prog 131 [eL (cL Px.c) p,eL Pz.c events,I t,I index,I reg] (I q):=by
 refine pM Tryz.func131 Z (by kernel_rfl) Z (jI (oN as' (jA (jI (oN as' (jA ?_))))));refine T.jU h (λs1=>[(11,I s1)]) (λs1=>[]) (λs1 h=>?_) (λs1 h=>?_)
 ·refine jI (oN mv (oN as' (jA (jK ?_))))
  cases h
  exact aF Z Z Z
 refine jI (oN as' (jA (jE ?_)));refine T.lU h (λs4=>[(12,I s4.1),(11,I s4.2),(0,eL (cL Px.c) p),(1,eL Pz.c events),(2,I t),(3,I index),(4,I reg)]) (λs4=>[]) (kw Z Z) (λs4 ws4 h=>?_);let d0:=events.getD s4.1.toNat default;refine jH (jI (oN mv (oN mv (oN (Pt.lenL pG Z) (oN (Pt.ilt Z Z) (jA ?_))))));refine jN Z h (λq6 h=>?_) (λq6 h=>?_)
 ·refine jG ?_;refine T.jU h (λs7=>[(11,I s7),(12,I s4.1),(0,eL (cL Px.c) p),(1,eL Pz.c events),(2,I t),(3,I index),(4,I reg)]) (λs7=>[]) (λs7 h=>?_) (λs7 h=>?_)
  ·refine jC (oN mv (jW h λg16 h=>oN (Pt.add Z Z g16) (oN as' (jA ?_))));exact lE h (kw Z Z)
  refine jE (jI (oN mv (oN mv (jD h λg8 h=>oN (Pt.ixL pG Z Z g8 qD) (oN (lf (.agg (Pz.c d0)) vB Z) (oA (EvA.al Ee Z Z) (oV (sr (Pz.c d0) vB Z Z Z Z) (jA ?_))))))));refine T.jU h (λs9=>[(50,Bo s9),(12,I s4.1),(11,I s4.2),(0,eL (cL Px.c) p),(1,eL Pz.c events),(2,I t),(3,I index),(4,I reg)]) (λs9=>[some ⟨0,5,80,[(Pz.c d0)]⟩]) (λs9 h=>?_) (λs9 h=>?_)
  ·refine jN Z h (λq15 h=>?_) (λq15 h=>?_)
   ·refine jC (oN mv (oN as' (jA ?_)))
    cases h
    exact ⟨(),trivial,ow Z .nil (ae (.fz (qC Z)) (ae (.fz (qC Z)) (ae (.fz (qC Z)) (ae (.fz (qC Z)) (ae (.fz (qC Z)) (ae (.fz (qC Z)) (ae (.fz (qC Z)) aN)))))))⟩
   refine jG ?_
   cases h
   exact ⟨(),trivial,ow Z .nil (ae (.fz (qC Z)) (ae (.fz (qC Z)) (ae (.fz (qC Z)) (ae (.fz (qC Z)) (ae (.fz (qC Z)) (ae (.fz (qC Z)) (ae (.fz (qC Z)) aN)))))))⟩
  refine T.drawG (dG [dF,([0],false),dF,dF,dF,dF,([0],false),dF,dF,dF,dF,dF,([0],false),dF,dF,dF,dF,dF,dF,dF,([0],false),dF,dF,dF,dF,dF,dF]) (by kernel_rfl) (by kernel_rfl) (tN Z (fa dA Z) (tR [0] Z (λG hG=>EvA.loadhp (I (d0.Thread)) PL Z (hG.a0 Z) Z Z Z Z) (tN Z mv (tN Z (Pt.ieq Z Z) (tN Z mv ?_)))));rcases yH h with ⟨q10,h⟩ | ⟨q10,h⟩
  ·refine PM Z q10 Z (fa dA Z) (tgR Z q10 [0] Z (λG hG=>EvA.loadhp (I (d0.Index)) PL Z (hG.a0 Z) Z Z Z Z) (PM Z q10 Z mv (PM Z q10 Z (Pt.ilt Z Z) (tN Z (Pt.pickT Z q10 (Bo (decide ((d0.Index)<index))) Z) (tN Z mv ?_)))));rcases yH h with ⟨q11,h⟩ | ⟨q11,h⟩
   ·refine PM Z q11 Z (fa dA Z) (tgR Z q11 [0] Z (λG hG=>EvA.loadhp (Bo (d0.Reads)) ty4 Z (hG.a0 Z) Z Z Z Z) (tN Z (Pt.pickT Z q11 (Bo (d0.Reads)) Z) (tN Z mv ?_)));rcases yH h with ⟨q12,h⟩ | ⟨q12,h⟩
    ·refine PM Z q12 Z mv (PM Z q12 Z mv (jD h λg13 h=>PM Z q12 Z (Pt.ixL yM Z Z g13 qD) (PM Z q12 Z (lf (eL Px.c (J p t)) Ed Z) (PM Z q12 Z (fa dA Z) (tgR Z q12 [0] Z (λG hG=>EvA.loadhp (I (d0.Index)) PL Z (hG.a0 Z) Z Z Z Z) (jD h λg14 h=>PM Z q12 Z (Pt.ixL AP Z Z g14 qD) (PM Z q12 Z (fa p6 Z) (PM Z q12 Z (lf (I ((J (J p t) (d0.Index)).Reg)) PL Z) (PM Z q12 Z mv (PM Z q12 Z (Pt.ieq Z Z) (tN Z (Pt.pickT Z q12 (Bo (((J (J p t) (d0.Index)).Reg)==reg)) Z) (TG.nil ?_))))))))))))
     cases h
     exact ⟨(),trivial,kw Z Z⟩
    refine PN Z q12 (PN Z q12 (PN Z q12 (PN Z q12 (PN Z q12 (PN Z q12 (PN Z q12 (PN Z q12 (PN Z q12 (PN Z q12 (PN Z q12 (tN Z (Pt.pickF Z q12 (Bo false) Z) (TG.nil ?_))))))))))))
    cases h
    exact ⟨(),trivial,kw Z Z⟩
   refine PN Z q11 (PN Z q11 (tN Z (Pt.pickF Z q11 (Bo false) Z) (tN Z mv (PN Z Z (PN Z Z (PN Z Z (PN Z Z (PN Z Z (PN Z Z (PN Z Z (PN Z Z (PN Z Z (PN Z Z (PN Z Z (tN Z (Pt.pickF Z Z (Bo false) Z) ?_)))))))))))))));refine TG.nil ?_
   cases h
   exact ⟨(),trivial,kw Z Z⟩
  refine PN Z q10 (PN Z q10 (PN Z q10 (PN Z q10 (tN Z (Pt.pickF Z q10 (Bo false) Z) (tN Z mv (PN Z Z (PN Z Z (tN Z (Pt.pickF Z Z (Bo false) Z) (tN Z mv (PN Z Z (PN Z Z (PN Z Z (PN Z Z (PN Z Z (PN Z Z ?_)))))))))))))));refine PN Z Z (PN Z Z (PN Z Z (PN Z Z (PN Z Z (tN Z (Pt.pickF Z Z (Bo false) Z) (TG.nil ?_))))))
  cases h
  exact ⟨(),trivial,kw Z Z⟩
 refine jM (lX h λh=>?_)
 cases h
 exact ⟨(),trivial,kw Z Z⟩
theorem zb (p:List (List Px)) (events:List Pz) (x:Py) (i:Int) (known:LI) {q} (h:nK p events x i known=some q):au Tryz.prog 96 [eL (cL Px.c) p,eL Pz.c events,.agg (Py.c x),I i,eL cI known] (I q):=by
 let d0:=events.getD i.toNat default;refine pM Tryz.func96 Z (by kernel_rfl) Z (jI (oN (Pt.bxF [eL cI x.From,eL (cL cI) x.Order] Z Z Z) (oN as' (jA (jI (oN mv (oN mv (jD h λg1 h=>oN (Pt.ixL pG Z Z g1 qD) (oN (lf (.agg (Pz.c d0)) vB Z) (oA (EvA.al Ee Z Z) (oV (sr (Pz.c d0) vB Z Z Z Z) (jA (jH (jI ?_))))))))))))));refine oN (fa dA Z) (oA (lh (I (d0.Thread)) PL Z Z Z) (oN (Pt.ilt Z Z) (jA ?_)));refine jN Z h (λq2 h=>?_) (λq2 h=>?_)
 ·refine jI (oN as' (jA (jK ?_)))
  cases h
  exact aF Z Z Z
 refine jG (jH (T.reserve (jP (dG [dF,dF,([0],false),dF,dF,dF,([0],false),dF,dF,([1],true),([1],true)]) (by kernel_rfl) (by kernel_rfl) (fN Z mv (fN Z (fa dA Z) (fR [0] Z (λG hG=>EvA.loadhp (I (d0.Thread)) PL Z (hG.a0 Z) Z Z Z Z) (jD h λg3 h=>fN Z (Pt.ixL yM Z Z g3 qD) (fN Z (lf (eL Px.c (J p (d0.Thread))) Ed Z) (fN Z (fa dA Z) (fR [0] Z (λG hG=>EvA.loadhp (I (d0.Index)) PL Z (hG.a0 Z) Z Z Z Z) (jD h λg4 h=>fN Z (Pt.ixL AP Z Z g4 qD) (fN Z (lf (.agg (Px.c (J (J p (d0.Thread)) (d0.Index)))) Bm Z) (fW 1 [] Z Z (λG hG=>EvA.alR 1 Mc Z Z (hG.a0 Z)) ?_)))))))))))));refine fV 1 [] Z Z (λG hG=>EvA.st (cs:=(Px.c (J (J p (d0.Thread)) (d0.Index)))) ⟨0,4,90,[(Px.c (J (J p (d0.Thread)) (d0.Index)))]⟩ Bm Z Z (hG.a0 Z) Z Z Z Z Z Z) (jR (jH (jH (T.clean (H0:=[some ⟨0,5,80,[(Pz.c d0)]⟩,some ⟨0,4,90,[(Px.c (J (J p (d0.Thread)) (d0.Index)))]⟩]) (e0:=ai [(12,.hp 1 0 4 0 0),(11,.hp 0 0 5 0 0),(7,.fp (Py.c x) 0),(0,eL (cL Px.c) p),(1,eL Pz.c events),(4,eL cI known)]) Z (Ps Z (Ps Z (Ps Z (Ps Z (Ps Z (Ps Z Pq)))))) (jC (oN (fa p6 Z) (oA (lh (I ((J (J p (d0.Thread)) (d0.Index)).Op)) PL Z Z Z) (oN (Pt.ine Z Z) (jA ?_)))))))));refine jN Z h (λq5 h=>?_) (λq5 h=>?_)
 ·refine jI (oN (fa p6 Z) (oA (lh (I ((J (J p (d0.Thread)) (d0.Index)).Val)) PL Z Z Z) (oN as' (jA (jK ?_)))))
  cases h
  exact aF Z Z Z
 refine jG (jI (oN mv (oN mv (oN (fa dA Z) (oA (lh (I (d0.Thread)) PL Z Z Z) (oN (fa dA Z) (oA (lh (I (d0.Index)) PL Z Z Z) (oN (fa p6 Z) (oA (lh (I ((J (J p (d0.Thread)) (d0.Index)).Reg)) PL Z Z Z) (oC h (λ_=>uX _ _ _ _ _) Z Z Z Z λv6 _ h=>oN as' (jA (jH (jH (T.clean (H0:=[some ⟨0,5,80,[(Pz.c d0)]⟩,some ⟨0,4,90,[(Px.c (J (J p (d0.Thread)) (d0.Index)))]⟩]) (e0:=ai [(13,I v6),(7,.fp (Py.c x) 0),(4,eL cI known)]) Z (Ps Z (Ps Z (Ps Z Pq))) ?_))))))))))))));refine jC (oN mv (oN (Pt.ilt Z Z) (jA ?_)));refine jN Z h (λq7 h=>?_) (λq7 h=>?_)
 ·refine jI (oN as' (jA (jK ?_)))
  cases h
  exact aF Z Z Z
 refine jG (jI (oN mv (oN (fa r9 Z) (oN (lf (eL cI x.From) mZ Z) (oN mv (jD h λg8 h=>oN (Pt.ixL aD Z Z g8 qD) (oN (lf (I (J x.From v6)) PL Z) (jD h λg9 h=>oN (Pt.ixL aD Z Z g9 qD) (oN (lf (I (J known (J x.From v6))) PL Z) (oN as' (jA (jK ?_))))))))))))
 cases h
 exact aF Z Z Z
theorem rU (p:List (List Px)) (x:Py) {q} (h:dM p x=some q):au Tryz.prog 49 [eL (cL Px.c) p,.agg (Py.c x)] (.tup [eL cI q.1,Bo q.2]):=by
 refine pM Tryz.func49 Z (by kernel_rfl) Z (jI (oN (Pt.bxF [eL cI x.From,eL (cL cI) x.Order] Z Z Z) (oN as' (oN as' (jA (jI (oN mv (oC h (λ_=>dK _) Z Z Z Z λv1 _ h=>oN as' (jA (jI (oA (EvA.mkO (c:=cI) ([]:LI) [] aD Z Z Z qD Z Z) (oN (Pt.asg (hS false 0 0 1 (([]:LI).length)) Z) (jA ?_)))))))))))));refine T.jF (G:=Nat) h (λs2 gh=>True) (λs2 gh=>[(7,hS false 0 gh 1 s2.length),(6,eL Pz.c v1),(3,.fp (Py.c x) 0),(0,eL (cL Px.c) p)]) (λs2 gh=>[bE false gh 1 3 (s2.map cI)]) (λs2 u12 h hg=>?_) (λs2 h=>?_)
 ·refine T.jF (G:=Nat) h (λs13 gh=>True) (λs13 gh=>[(7,hS false 0 gh 1 s13.length),(6,eL Pz.c v1)]) (λs13 gh=>[bE false gh 1 3 (s13.map cI)]) (λs13 u38 h hg=>?_) (λs13 h=>?_)
  ·obtain ⟨Ks39,es39,ws39,h,ks39⟩:=qB h;refine T.join (S:=Unit) (G:=Unit) (λs39=>Ks39 s39=some q) (λs39 gh=>True) (λs39 gh=>[(7,hS false 0 u38 1 s13.length)]) (λs39 gh=>[bE false u38 1 3 (s13.map cI)]) (λs39 gh h hg=>?_) ?_
   ·clear ks39;subst es39;refine jI (oN mv (oN (Pt.asg (hS false 0 u38 1 s13.length) Z) (oN as' (jA (jK ?_)))));obtain rfl:=Pw h
    repeat (first|refine iA ?_|refine iB ?_)
    exact jQ (vs:=[hS false 0 u38 1 s13.length,Bo true]) (.cons (.tmp Z) (.cons (.tmp Z) .nil)) (.tupL (.cons (Fz.own (g:=false) (ver:=u38) (l:=s13) Z Z Z nofun qD) (.cons (qC Z) .nil)))
   refine jI (oN as' (jA (jE ?_)));refine T.lU h (λs42=>[(11,I s42),(7,hS false 0 u38 1 s13.length),(6,eL Pz.c v1)]) (λs42=>[bE false u38 1 3 (s13.map cI)]) (kw Z Z) (λs42 ws42 h=>?_);refine jH (jI (oN mv (oN mv (oN (Pt.lenL pG Z) (oN (Pt.ilt Z Z) (jA ?_))))));refine jN Z h (λq44 h=>?_) (λq44 h=>?_)
   ·refine jG (jH (jE (jI (oN mv (oN mv (jD h λg45 h=>oN (Pt.ixL pG Z Z g45 qD) (oN (fa dA Z) (oN (lf (Bo ((J v1 s42).az)) ty4 Z) (oN mv ?_)))))))));refine TO.jB h 6 (λs46=>[(67,Bo s46),(11,I s42),(7,hS false 0 u38 1 s13.length),(6,eL Pz.c v1)]) (λs46=>[bE false u38 1 3 (s13.map cI)]) (λs46 q47 h js46=>?_) (λs46 q47 h js46=>?_) (λs46 h=>?_)
    ·refine gN Z q47 mv (gN Z q47 mv (jD h λg48 h=>gN Z q47 (Pt.ixO (g:=false) aD Z Z nofun g48) (gA Z q47 (EvA.ldO (g:=false) (l:=s13) (I (J s13 s42)) PL Z Z nofun (aH Z g48) Z) (gN Z q47 (Pt.ilt Z Z) (oN (Pt.pickT Z q47 (Bo (decide ((J s13 s42)<U))) Z) ?_)))))
     cases h
     exact js46 _ _ (kw Z Z)
    ·refine gS Z q47 (gS Z q47 (gS Z q47 (gS Z q47 (gS Z q47 (oN (Pt.pickF Z q47 (Bo false) Z) ?_)))))
     cases h
     exact js46 _ _ (kw Z Z)
    refine jA ?_;refine jN Z h (λq49 h=>?_) (λq49 h=>?_)
    ·refine jI (oN mv (oN (Pt.asg (hS false 0 u38 1 s13.length) Z) (oN as' (jA (jK (lX h λh=>?_))))));obtain rfl:=Pw h;replace h:=congrArg some (show _=_ from ks39);obtain rfl:=Pw h
     repeat (first|refine iA ?_|refine iB ?_)
     exact jQ (vs:=[hS false 0 u38 1 s13.length,Bo false]) (.cons (.tmp Z) (.cons (.tmp Z) .nil)) (.tupL (.cons (Fz.own (g:=false) (ver:=u38) (l:=s13) Z Z Z nofun qD) (.cons (qC Z) .nil)))
    refine jG (jC (oN mv (jW h λg50 h=>oN (Pt.add Z Z g50) (oN as' (jA ?_)))));exact lE h (kw Z Z)
   refine jM (lX h λh=>?_)
   cases h
   exact ⟨(),(),ks39,trivial,kw Z Z⟩
  refine jI (oN as' (jA (jE ?_)));refine jO (S:=(LI)×Int) (G:=Nat) (lF p x v1) (λs17 gh=>True) (λs17 gh=>[(9,I s17.2),(7,hS false 0 gh 1 s17.1.length),(6,eL Pz.c v1),(3,.fp (Py.c x) 0),(0,eL (cL Px.c) p)]) (λs17 gh=>[bE false gh 1 3 (s17.1.map cI)]) (s0:=(s2,U)) u12 h trivial (kw Z Z) (λs17 u19 ws17 h hg=>?_);refine jH (jI (oN mv (oN mv (oN (Pt.lenL pG Z) (oN (Pt.ilt Z Z) (jA ?_))))));refine jN Z h (λq20 h=>?_) (λq20 h=>?_)
  ·refine jG ?_;refine T.jF (G:=Nat) h (λs21 gh=>True) (λs21 gh=>[(9,I s17.2),(7,hS false 0 gh 1 s21.length),(6,eL Pz.c v1),(3,.fp (Py.c x) 0),(0,eL (cL Px.c) p)]) (λs21 gh=>[bE false gh 1 3 (s21.map cI)]) (λs21 u36 h hg=>?_) (λs21 h=>?_)
   ·refine jC (oN mv (jW h λg37 h=>oN (Pt.add Z Z g37) (oN as' (jA ?_))));obtain rfl:=Pw h;exact ⟨(s21,(s17.2+V)),u36,Z,trivial,kw Z Z⟩
   refine jE (jI (oN as' (jA (jE ?_))));refine jO (S:=(LI)×Int) (G:=Nat) (gZ p x v1) (λs25 gh=>True) (λs25 gh=>[(10,I s25.2),(9,I s17.2),(7,hS false 0 gh 1 s25.1.length),(6,eL Pz.c v1),(3,.fp (Py.c x) 0),(0,eL (cL Px.c) p)]) (λs25 gh=>[bE false gh 1 3 (s25.1.map cI)]) (s0:=(s17.1,U)) u19 h trivial (kw Z Z) (λs25 u27 ws25 h hg=>?_);refine jH (jI (oN mv (oN mv (oN (Pt.lenL pG Z) (oN (Pt.ilt Z Z) (jA ?_))))));refine jN Z h (λq28 h=>?_) (λq28 h=>?_)
   ·refine jG ?_;refine T.jF (G:=Nat) h (λs29 gh=>True) (λs29 gh=>[(10,I s25.2),(9,I s17.2),(7,hS false 0 gh 1 s29.length),(6,eL Pz.c v1),(3,.fp (Py.c x) 0),(0,eL (cL Px.c) p)]) (λs29 gh=>[bE false gh 1 3 (s29.map cI)]) (λs29 u34 h hg=>?_) (λs29 h=>?_)
    ·refine jC (oN mv (jW h λg35 h=>oN (Pt.add Z Z g35) (oN as' (jA ?_))));obtain rfl:=Pw h;exact ⟨(s29,(s25.2+V)),u34,Z,trivial,kw Z Z⟩
    refine jE (jI (oN mv (oN mv (jD h λg30 h=>oN (Pt.ixL pG Z Z g30 qD) (oN (fa dA Z) (oN (lf (Bo ((J v1 s25.2).az)) ty4 Z) (jA ?_)))))));refine jN Z h (λq31 h=>?_) (λq31 h=>?_)
    ·refine jC (oN mv (oN mv (oN mv (oN mv (oN (lf (.agg (Py.c x)) pE Z) (oN mv (oN mv (jB h λv32 cv32 h=>oA (EvA.callT Z Z (zb p v1 x s25.2 s25.1 cv32) (.cons (qC Z) (.cons (qC Z) (.cons (qC Z) (.cons (qC Z) (.cons (Fz.own (g:=false) (ver:=u27) (l:=s25.1) Z Z Z nofun qD) .nil))))) Z) (jD h λg33 h=>oN (Pt.ixO (g:=false) aD Z Z nofun g33) (oV (EvA.stO (g:=false) (l:=s25.1) (cs:=[I v32]) v32 PL Z Z Z nofun (aH Z g33) Z Z Z) (jA ?_)))))))))));obtain rfl:=Pw h;exact ⟨u27,trivial,BL Z (Ps Z (Ps Z (Ps (congrArg (hS false 0 u27 1) (by simp:s25.1.length=(s25.1.set s25.2.toNat v32).length)) (Ps Z (Ps Z (Ps Z Pq))))))⟩
    refine jG ?_
    cases h
    exact ⟨u27,trivial,kw Z Z⟩
   refine jM (lX h λh=>?_)
   cases h
   exact ⟨u27,trivial,kw Z Z⟩
  refine jM (lX h λh=>?_)
  cases h
  exact ⟨u19,trivial,kw Z Z⟩
 refine jI (oN as' (jA (jE ?_)));refine jO (S:=(LI)×Int) (G:=Nat) (mq v1) (λs6 gh=>True) (λs6 gh=>[(8,I s6.2),(7,hS false 0 gh 1 s6.1.length),(6,eL Pz.c v1),(3,.fp (Py.c x) 0),(0,eL (cL Px.c) p)]) (λs6 gh=>[bE false gh 1 3 (s6.1.map cI)]) (s0:=(([]:LI),U)) 0 h trivial (kw Z Z) (λs6 u8 ws6 h hg=>?_);refine jH (jI (oN mv (oN mv (oN (Pt.lenL pG Z) (oN (Pt.ilt Z Z) (jA ?_))))));refine jN Z h (λq9 h=>?_) (λq9 h=>?_)
 ·refine jG (jH (jE (jC (oN mv (oN (Pt.mkF (c:=cI) ([(-1:Int)]:LI) [[I (-1:Int)]] aD Z Z Z qD qD Z) (jL h λg10 h=>oA (EvA.app1 (g:=false) (l:=s6.1) (-1:Int) aD (by kernel_rfl) Z Z Z nofun (bf.fz (l:=([(-1:Int)]:LI)) Z qD) g10) (oN (Pt.asg (hS false 0 (u8+1) 1 ((s6.1++[(-1:Int)]).length)) Z) (jA (jC (oN mv (jW h λg11 h=>oN (Pt.add Z Z g11) (oN as' (jA ?_)))))))))))));obtain rfl:=Pw h;exact ⟨((s6.1++[(-1:Int)]),(s6.2+V)),u8+1,Z,trivial,kw Z Z⟩
 refine jM (lX h λh=>?_)
 cases h
 exact ⟨u8,trivial,kw Z Z⟩
theorem rV (x:Py) (loc:Int) (i:Int) (k_:Int) {q} (h:dN x loc i k_=some q):au Tryz.prog 186 [.agg (Py.c x),I loc,I i,I k_] (Bo q):=by
 refine pM Tryz.func186 Z (by kernel_rfl) Z (jI (oN (Pt.bxF [eL cI x.From,eL (cL cI) x.Order] Z Z Z) (oN as' (jA (jH (jP (λ_=>([],false)) (by kernel_rfl) (by kernel_rfl) (fN Z (fa r9 Z) (fN Z (lf (eL (cL cI) x.Order) zT Z) (fN Z mv (jD h λg1 h=>fN Z (Pt.ixL gT Z Z g1 qD) (fN Z (lf (eL cI (J x.Order loc)) mZ Z) (fN Z mv (fC h (λ_=>ll _ _) Z Z Z Z Z λv2 _ h=>fN Z (fa r9 Z) ?_)))))))))))));refine fN Z (lf (eL (cL cI) x.Order) zT Z) (fN Z mv (fN Z (Pt.ixL gT Z Z g1 qD) (fN Z (lf (eL cI (J x.Order loc)) mZ Z) (fN Z mv (fC h (λ_=>ll _ _) Z Z Z Z Z λv3 _ h=>fN Z (Pt.ilt Z Z) (fN Z as' (jR (jK ?_))))))))
 cases h
 exact aF Z Z Z
theorem ze (list:List Px) (from_:Int) (to:Int) {q} (h:kH list from_ to=some q):au Tryz.prog 187 [eL Px.c list,I from_,I to] (Bo q):=by
 refine pM Tryz.func187 Z (by kernel_rfl) Z (jI (oN as' (jA ?_)));obtain ⟨Ks1,es1,ws1,h,ks1⟩:=qB h;refine T.join (S:=Unit) (G:=Unit) (λs1=>Ks1 s1=some q) (λs1 gh=>True) (λs1 gh=>[]) (λs1 gh=>[]) (λs1 gh h hg=>?_) ?_
 ·clear ks1;subst es1;refine jI (oN as' (jA (jK ?_)))
  cases h
  exact aF Z Z Z
 refine jI (oN mv (jW h λg2 h=>oN (Pt.add Z Z g2) (oN as' (jA (jE ?_)))));refine T.lU h (λs5=>[(7,I s5),(0,eL Px.c list),(2,I to)]) (λs5=>[]) (kw Z Z) (λs5 ws5 h=>?_);refine jH (jI (oN mv (oN mv (oN (Pt.ilt Z Z) (jA ?_)))));refine jN Z h (λq7 h=>?_) (λq7 h=>?_)
 ·refine jG (jH (jE (jI (oN mv (oN mv (jD h λg8 h=>oN (Pt.ixL AP Z Z g8 qD) (oN (fa p6 Z) (oN (lf (I ((J list s5).Op)) PL Z) (oN (Pt.ieq Z Z) (jA ?_))))))))));refine jN Z h (λq9 h=>?_) (λq9 h=>?_)
  ·refine jI (oN as' (jA (jK (lX h λh=>?_))));obtain rfl:=Pw h;replace h:=congrArg some (show _=_ from ks1)
   cases h
   exact aF Z Z Z
  refine jG (jC (oN mv (jW h λg10 h=>oN (Pt.add Z Z g10) (oN as' (jA ?_)))));exact lE h (kw Z Z)
 refine jM (lX h λh=>?_)
 cases h
 exact ⟨(),(),ks1,trivial,kw Z Z⟩
theorem A8 (p:List (List Px)) (x:Py) (events:List Pz) (name:ByteArray) (i:Int) (k_:Int) {q} (h:dB p x events name i k_=some q):au Tryz.prog 151 [eL (cL Px.c) p,.agg (Py.c x),eL Pz.c events,St name,I i,I k_] (Bo q):=by
 let d1:=events.getD k_.toNat default;let d0:=events.getD i.toNat default;refine pM Tryz.func151 Z (by kernel_rfl) Z (jI (oN (Pt.bxF [eL cI x.From,eL (cL cI) x.Order] Z Z Z) (oN as' (jA (jI (oN mv (oN mv (jD h λg1 h=>oN (Pt.ixL pG Z Z g1 qD) (oN (lf (.agg (Pz.c d0)) vB Z) (oA (EvA.al Ee Z Z) (oV (sr (Pz.c d0) vB Z Z Z Z) (jA (jI (oN mv ?_))))))))))))));refine oN mv (jD h λg2 h=>oN (Pt.ixL pG Z Z g2 qD) (oN (lf (.agg (Pz.c d1)) vB Z) (oA (EvA.al Ee Z Z) (oV (sr (Pz.c d1) vB Z Z Z Z) (jA (jI (oN (fa dA Z) (oA (lh (I (d0.Thread)) PL Z Z Z) (oN (fa dA Z) (oA (lh (I (d1.Thread)) PL Z Z Z) (oN (Pt.ieq Z Z) (oN mv ?_))))))))))));refine TO.jB h 4 (λs3=>[(33,Bo s3),(14,.hp 1 0 5 0 0),(13,.hp 0 0 5 0 0),(7,.fp (Py.c x) 0),(0,eL (cL Px.c) p),(3,St name),(4,I i),(5,I k_)]) (λs3=>[some ⟨0,5,80,[(Pz.c d0)]⟩,some ⟨0,5,80,[(Pz.c d1)]⟩]) (λs3 q4 h js3=>?_) (λs3 q4 h js3=>?_) (λs3 h=>?_)
 ·refine gN Z q4 (fa dA Z) (gA Z q4 (lh (I (d0.Thread)) PL Z Z Z) (gN Z q4 (Pt.ige Z Z) (oN (Pt.pickT Z q4 (Bo (decide (U<=(d0.Thread)))) Z) ?_)))
  cases h
  exact js3 _ _ (kw Z Z)
 ·refine gS Z q4 (gS Z q4 (gS Z q4 (oN (Pt.pickF Z q4 (Bo false) Z) ?_)))
  cases h
  exact js3 _ _ (kw Z Z)
 refine oN as' (jA ?_);obtain ⟨Ks5,es5,ws5,h,ks5⟩:=qB h;refine T.join (S:=Unit) (G:=Unit) (λs5=>Ks5 s5=some q) (λs5 gh=>True) (λs5 gh=>[(3,St name),(4,I i),(5,I k_)]) (λs5 gh=>[some ⟨0,5,80,[(Pz.c d0)]⟩,some ⟨0,5,80,[(Pz.c d1)]⟩]) (λs5 gh h hg=>?_) ?_
 ·clear ks5;subst es5;refine jI (oN mv (oN (Pt.seq Z Z) (oN mv ?_)));refine TO.jB h 4 (λs51=>[(188,Bo s51)]) (λs51=>[some ⟨0,5,80,[(Pz.c d0)]⟩,some ⟨0,5,80,[(Pz.c d1)]⟩]) (λs51 q52 h js51=>?_) (λs51 q52 h js51=>?_) (λs51 h=>?_)
  ·refine gN Z q52 mv (gN Z q52 mv (gN Z q52 (Pt.ieq Z Z) (oN (Pt.pickT Z q52 (Bo (i==k_)) Z) ?_)))
   cases h
   exact js51 _ _ (kw Z Z)
  ·refine gS Z q52 (gS Z q52 (gS Z q52 (oN (Pt.pickF Z q52 (Bo false) Z) ?_)))
   cases h
   exact js51 _ _ (kw Z Z)
  refine oN as' (jA (jK ?_))
  cases h
  exact aF Z Z Z
 refine jI (oN mv (jA (jE (jI (oN (Pt.seq Z Z) (oN as' (jA ?_)))))));refine jN Z h (λq6 h=>?_) (λq6 h=>?_)
 ·refine jI (oN mv (oN mv ?_));refine TO.jB h 6 (λs7=>[(44,Bo s7)]) (λs7=>[some ⟨0,5,80,[(Pz.c d0)]⟩,some ⟨0,5,80,[(Pz.c d1)]⟩]) (λs7 q8 h js7=>?_) (λs7 q8 h js7=>?_) (λs7 h=>?_)
  ·refine gN Z q8 (fa dA Z) (gA Z q8 (lh (I (d0.Index)) PL Z Z Z) (gN Z q8 (fa dA Z) (gA Z q8 (lh (I (d1.Index)) PL Z Z Z) (gN Z q8 (Pt.ilt Z Z) (oN (Pt.pickT Z q8 (Bo (decide ((d0.Index)<(d1.Index)))) Z) ?_)))))
   cases h
   exact js7 _ _ (kw Z Z)
  ·refine gS Z q8 (gS Z q8 (gS Z q8 (gS Z q8 (gS Z q8 (oN (Pt.pickF Z q8 (Bo false) Z) ?_)))))
   cases h
   exact js7 _ _ (kw Z Z)
  refine oN as' (jA (jK ?_));obtain rfl:=Pw h;replace h:=congrArg some (show _=_ from ks5)
  cases h
  exact aF Z Z Z
 refine jI (oN (Pt.seq Z Z) (oN as' (jA ?_)));refine jN Z h (λq9 h=>?_) (λq9 h=>?_)
 ·refine jI (oN (fa dA Z) (oA (lh (I (d0.Loc)) PL Z Z Z) (oN (fa dA Z) (oA (lh (I (d1.Loc)) PL Z Z Z) (oN (Pt.ieq Z Z) (oN as' (jA (jK ?_))))))));obtain rfl:=Pw h;replace h:=congrArg some (show _=_ from ks5)
  cases h
  exact aF Z Z Z
 refine jI (oN (Pt.seq Z Z) (oN as' (jA ?_)));refine jN Z h (λq10 h=>?_) (λq10 h=>?_)
 ·refine jI (oN mv (oN (Pt.not Z) (oN as' (jA (jK ?_)))));obtain rfl:=Pw h;replace h:=congrArg some (show _=_ from ks5)
  cases h
  exact aF Z Z Z
 refine jI (oN (Pt.seq Z Z) (oN as' (jA ?_)));refine jN Z h (λq11 h=>?_) (λq11 h=>?_)
 ·refine jI (oN (fa dA Z) (oA (lh (Bo (d1.Reads)) ty4 Z Z Z) (oN mv ?_)));refine TO.jB h 8 (λs12=>[(68,Bo s12)]) (λs12=>[some ⟨0,5,80,[(Pz.c d0)]⟩,some ⟨0,5,80,[(Pz.c d1)]⟩]) (λs12 q13 h js12=>?_) (λs12 q13 h js12=>?_) (λs12 h=>?_)
  ·refine gN Z q13 (fa r9 Z) (gN Z q13 (lf (eL cI x.From) mZ Z) (gN Z q13 mv (jD h λg14 h=>gN Z q13 (Pt.ixL aD Z Z g14 qD) (gN Z q13 (lf (I (J x.From k_)) PL Z) (gN Z q13 mv (gN Z q13 (Pt.ieq Z Z) (oN (Pt.pickT Z q13 (Bo ((J x.From k_)==i)) Z) ?_)))))))
   cases h
   exact js12 _ _ (kw Z Z)
  ·refine gS Z q13 (gS Z q13 (gS Z q13 (gS Z q13 (gS Z q13 (gS Z q13 (gS Z q13 (oN (Pt.pickF Z q13 (Bo false) Z) ?_)))))))
   cases h
   exact js12 _ _ (kw Z Z)
  refine oN as' (jA (jK ?_));obtain rfl:=Pw h;replace h:=congrArg some (show _=_ from ks5)
  cases h
  exact aF Z Z Z
 refine jI (oN (Pt.seq Z Z) (oN as' (jA ?_)));refine jN Z h (λq15 h=>?_) (λq15 h=>?_)
 ·refine jI (oN (fa dA Z) (oA (lh (Bo (d0.az)) ty4 Z Z Z) (oN mv ?_)));refine TO.jB h 3 (λs16=>[(76,Bo s16),(14,.hp 1 0 5 0 0),(13,.hp 0 0 5 0 0),(7,.fp (Py.c x) 0),(4,I i),(5,I k_)]) (λs16=>[some ⟨0,5,80,[(Pz.c d0)]⟩,some ⟨0,5,80,[(Pz.c d1)]⟩]) (λs16 q17 h js16=>?_) (λs16 q17 h js16=>?_) (λs16 h=>?_)
  ·refine gN Z q17 (fa dA Z) (gA Z q17 (lh (Bo (d1.az)) ty4 Z Z Z) (oN (Pt.pickT Z q17 (Bo (d1.az)) Z) ?_))
   cases h
   exact js16 _ _ (kw Z Z)
  ·refine gS Z q17 (gS Z q17 (oN (Pt.pickF Z q17 (Bo false) Z) ?_))
   cases h
   exact js16 _ _ (kw Z Z)
  refine oN mv ?_;refine TO.jB h 6 (λs18=>[(83,Bo s18),(13,.hp 0 0 5 0 0),(7,.fp (Py.c x) 0),(4,I i),(5,I k_)]) (λs18=>[some ⟨0,5,80,[(Pz.c d0)]⟩,some ⟨0,5,80,[(Pz.c d1)]⟩]) (λs18 q19 h js18=>?_) (λs18 q19 h js18=>?_) (λs18 h=>?_)
  ·refine gN Z q19 (fa dA Z) (gA Z q19 (lh (I (d0.Loc)) PL Z Z Z) (gN Z q19 (fa dA Z) (gA Z q19 (lh (I (d1.Loc)) PL Z Z Z) (gN Z q19 (Pt.ieq Z Z) (oN (Pt.pickT Z q19 (Bo ((d0.Loc)==(d1.Loc))) Z) ?_)))))
   cases h
   exact js18 _ _ (kw Z Z)
  ·refine gS Z q19 (gS Z q19 (gS Z q19 (gS Z q19 (gS Z q19 (oN (Pt.pickF Z q19 (Bo false) Z) ?_)))))
   cases h
   exact js18 _ _ (kw Z Z)
  refine oN mv ?_;refine TO.jB h 7 (λs20=>[(91,Bo s20)]) (λs20=>[some ⟨0,5,80,[(Pz.c d0)]⟩,some ⟨0,5,80,[(Pz.c d1)]⟩]) (λs20 q21 h js20=>?_) (λs20 q21 h js20=>?_) (λs20 h=>?_)
  ·refine gN Z q21 (lf (.agg (Py.c x)) pE Z) (gN Z q21 (fa dA Z) (gA Z q21 (lh (I (d0.Loc)) PL Z Z Z) (gN Z q21 mv (gN Z q21 mv (jB h λv22 cv22 h=>gN Z q21 (Pt.call Z Z Z (rV x (d0.Loc) i k_ cv22) Z) (oN (Pt.pickT Z q21 (Bo v22) Z) ?_))))))
   cases h
   exact js20 _ _ (kw Z Z)
  ·refine gS Z q21 (gS Z q21 (gS Z q21 (gS Z q21 (gS Z q21 (gS Z q21 (oN (Pt.pickF Z q21 (Bo false) Z) ?_))))))
   cases h
   exact js20 _ _ (kw Z Z)
  refine oN as' (jA (jK ?_));obtain rfl:=Pw h;replace h:=congrArg some (show _=_ from ks5)
  cases h
  exact aF Z Z Z
 refine jI (oN (Pt.seq Z Z) (oN as' (jA ?_)));refine jN Z h (λq23 h=>?_) (λq23 h=>?_)
 ·refine T.jU h (λs24=>[(12,Bo s24)]) (λs24=>[some ⟨0,5,80,[(Pz.c d0)]⟩,some ⟨0,5,80,[(Pz.c d1)]⟩]) (λs24 h=>?_) (λs24 h=>?_)
  ·refine jK ?_;obtain rfl:=Pw h;replace h:=congrArg some (show _=_ from ks5)
   cases h
   exact aF Z Z Z
  refine T.clean (H0:=[some ⟨0,5,80,[(Pz.c d0)]⟩,some ⟨0,5,80,[(Pz.c d1)]⟩]) (e0:=ai [(14,.hp 1 0 5 0 0),(13,.hp 0 0 5 0 0),(7,.fp (Py.c x) 0),(4,I i),(5,I k_)]) Z (Ps Z (Ps Z (Ps Z (Ps Z (Ps Z Pq))))) (T.drawG (dG [dF,([0],false),dF,dF,([1],false),dF,dF,dF,([0],false),dF,([1],false),dF,dF,dF,dF,dF,dF,dF,dF,dF,dF,([0],false),dF,dF,dF,dF,dF,dF,dF,dF,dF]) (by kernel_rfl) (by kernel_rfl) (tN Z (fa dA Z) (tR [0] Z (λG hG=>EvA.loadhp (Bo (d0.Reads)) ty4 Z (hG.a0 Z) Z Z Z Z) (tN Z mv ?_))));rcases yH h with ⟨q25,h⟩ | ⟨q25,h⟩
  ·refine PM Z q25 Z (fa dA Z) (tgR Z q25 [1] Z (λG hG=>EvA.loadhp (Bo (d1.az)) ty4 Z (hG.a0 Z) Z Z Z Z) (tN Z (Pt.pickT Z q25 (Bo (d1.az)) Z) (tN Z mv ?_)));rcases yH h with ⟨q26,h⟩ | ⟨q26,h⟩
   ·refine PM Z q26 Z (fa dA Z) (tgR Z q26 [0] Z (λG hG=>EvA.loadhp (I (d0.Loc)) PL Z (hG.a0 Z) Z Z Z Z) (PM Z q26 Z (fa dA Z) (tgR Z q26 [1] Z (λG hG=>EvA.loadhp (I (d1.Loc)) PL Z (hG.a0 Z) Z Z Z Z) (PM Z q26 Z (Pt.ieq Z Z) (tN Z (Pt.pickT Z q26 (Bo ((d0.Loc)==(d1.Loc))) Z) (tN Z mv ?_))))));rcases yH h with ⟨q27,h⟩ | ⟨q27,h⟩
    ·refine PM Z q27 Z mv (PM Z q27 Z mv (PM Z q27 Z (Pt.ine Z Z) (tN Z (Pt.pickT Z q27 (Bo (i != k_)) Z) (tN Z mv ?_))));rcases yH h with ⟨q28,h⟩ | ⟨q28,h⟩
     ·refine PM Z q28 Z (lf (.agg (Py.c x)) pE Z) (PM Z q28 Z (fa dA Z) (tgR Z q28 [0] Z (λG hG=>EvA.loadhp (I (d0.Loc)) PL Z (hG.a0 Z) Z Z Z Z) (PM Z q28 Z (fa r9 Z) (PM Z q28 Z (lf (eL cI x.From) mZ Z) (PM Z q28 Z mv (jD h λg29 h=>PM Z q28 Z (Pt.ixL aD Z Z g29 qD) (PM Z q28 Z (lf (I (J x.From i)) PL Z) (PM Z q28 Z mv (jB h λv30 cv30 h=>PM Z q28 Z (Pt.call Z Z Z (rV x (d0.Loc) (J x.From i) k_ cv30) Z) (tN Z (Pt.pickT Z q28 (Bo v30) Z) (tN Z as' (TG.nil ?_))))))))))))
      cases h
      exact ⟨(),trivial,kw Z Z⟩
     refine PN Z q28 (PN Z q28 (PN Z q28 (PN Z q28 (PN Z q28 (PN Z q28 (PN Z q28 (PN Z q28 (PN Z q28 (PN Z q28 (tN Z (Pt.pickF Z q28 (Bo false) Z) (tN Z as' (TG.nil ?_))))))))))))
     cases h
     exact ⟨(),trivial,kw Z Z⟩
    refine PN Z q27 (PN Z q27 (PN Z q27 (tN Z (Pt.pickF Z q27 (Bo false) Z) (tN Z mv (PN Z Z (PN Z Z (PN Z Z (PN Z Z (PN Z Z (PN Z Z (PN Z Z (PN Z Z (PN Z Z (PN Z Z (tN Z (Pt.pickF Z Z (Bo false) Z) ?_)))))))))))))));refine tN Z as' (TG.nil ?_)
    cases h
    exact ⟨(),trivial,kw Z Z⟩
   refine PN Z q26 (PN Z q26 (PN Z q26 (PN Z q26 (PN Z q26 (tN Z (Pt.pickF Z q26 (Bo false) Z) (tN Z mv (PN Z Z (PN Z Z (PN Z Z (tN Z (Pt.pickF Z Z (Bo false) Z) (tN Z mv (PN Z Z (PN Z Z (PN Z Z (PN Z Z ?_)))))))))))))));refine PN Z Z (PN Z Z (PN Z Z (PN Z Z (PN Z Z (PN Z Z (tN Z (Pt.pickF Z Z (Bo false) Z) (tN Z as' (TG.nil ?_))))))))
   cases h
   exact ⟨(),trivial,kw Z Z⟩
  refine PN Z q25 (PN Z q25 (tN Z (Pt.pickF Z q25 (Bo false) Z) (tN Z mv (PN Z Z (PN Z Z (PN Z Z (PN Z Z (PN Z Z (tN Z (Pt.pickF Z Z (Bo false) Z) (tN Z mv (PN Z Z (PN Z Z (PN Z Z (tN Z (Pt.pickF Z Z (Bo false) Z) (tN Z mv ?_)))))))))))))));refine PN Z Z (PN Z Z (PN Z Z (PN Z Z (PN Z Z (PN Z Z (PN Z Z (PN Z Z (PN Z Z (PN Z Z (tN Z (Pt.pickF Z Z (Bo false) Z) (tN Z as' (TG.nil ?_))))))))))))
  cases h
  exact ⟨(),trivial,kw Z Z⟩
 refine jI (oN (Pt.seq Z Z) (oN as' (jA ?_)));refine jN Z h (λq31 h=>?_) (λq31 h=>?_)
 ·refine T.jU h (λs32=>[(12,Bo s32)]) (λs32=>[some ⟨0,5,80,[(Pz.c d0)]⟩,some ⟨0,5,80,[(Pz.c d1)]⟩]) (λs32 h=>?_) (λs32 h=>?_)
  ·refine jK ?_;obtain rfl:=Pw h;replace h:=congrArg some (show _=_ from ks5)
   cases h
   exact aF Z Z Z
  refine T.clean (H0:=[some ⟨0,5,80,[(Pz.c d0)]⟩,some ⟨0,5,80,[(Pz.c d1)]⟩]) (e0:=ai [(15,Bo s3),(14,.hp 1 0 5 0 0),(13,.hp 0 0 5 0 0),(0,eL (cL Px.c) p)]) Z (Ps Z (Ps Z (Ps Z (Ps Z Pq)))) (T.drawG (dG [dF,dF,dF,([0],false),dF,([1],false),dF,dF,dF,dF,dF,([0],false),dF,dF,dF,([0],false),dF,([1],false),dF,dF,dF]) (by kernel_rfl) (by kernel_rfl) (tN Z mv (tN Z mv ?_)));rcases yH h with ⟨q33,h⟩ | ⟨q33,h⟩
  ·refine PM Z q33 Z (fa dA Z) (tgR Z q33 [0] Z (λG hG=>EvA.loadhp (I (d0.Index)) PL Z (hG.a0 Z) Z Z Z Z) (PM Z q33 Z (fa dA Z) (tgR Z q33 [1] Z (λG hG=>EvA.loadhp (I (d1.Index)) PL Z (hG.a0 Z) Z Z Z Z) (PM Z q33 Z (Pt.ilt Z Z) (tN Z (Pt.pickT Z q33 (Bo (decide ((d0.Index)<(d1.Index)))) Z) (tN Z mv ?_))))));rcases yH h with ⟨q34,h⟩ | ⟨q34,h⟩
   ·refine PM Z q34 Z mv (PM Z q34 Z (fa dA Z) (tgR Z q34 [0] Z (λG hG=>EvA.loadhp (I (d0.Thread)) PL Z (hG.a0 Z) Z Z Z Z) (jD h λg35 h=>PM Z q34 Z (Pt.ixL yM Z Z g35 qD) (PM Z q34 Z (lf (eL Px.c (J p (d0.Thread))) Ed Z) (PM Z q34 Z (fa dA Z) (tgR Z q34 [0] Z (λG hG=>EvA.loadhp (I (d0.Index)) PL Z (hG.a0 Z) Z Z Z Z) (PM Z q34 Z (fa dA Z) (tgR Z q34 [1] Z (λG hG=>EvA.loadhp (I (d1.Index)) PL Z (hG.a0 Z) Z Z Z Z) (jB h λv36 cv36 h=>PM Z q34 Z (Pt.call Z Z Z (ze (J p (d0.Thread)) (d0.Index) (d1.Index) cv36) Z) (tN Z (Pt.pickT Z q34 (Bo v36) Z) (tN Z as' (TG.nil ?_))))))))))))
    cases h
    exact ⟨(),trivial,kw Z Z⟩
   refine PN Z q34 (PN Z q34 (PN Z q34 (PN Z q34 (PN Z q34 (PN Z q34 (PN Z q34 (PN Z q34 (PN Z q34 (PN Z q34 (tN Z (Pt.pickF Z q34 (Bo false) Z) (tN Z as' (TG.nil ?_))))))))))))
   cases h
   exact ⟨(),trivial,kw Z Z⟩
  refine PN Z q33 (PN Z q33 (PN Z q33 (PN Z q33 (PN Z q33 (tN Z (Pt.pickF Z q33 (Bo false) Z) (tN Z mv (PN Z Z (PN Z Z (PN Z Z (PN Z Z (PN Z Z (PN Z Z (PN Z Z (PN Z Z (PN Z Z ?_)))))))))))))));refine PN Z Z (tN Z (Pt.pickF Z Z (Bo false) Z) (tN Z as' (TG.nil ?_)))
  cases h
  exact ⟨(),trivial,kw Z Z⟩
 refine jH (T.clean (H0:=[some ⟨0,5,80,[(Pz.c d0)]⟩,some ⟨0,5,80,[(Pz.c d1)]⟩]) (e0:=ai [(34,St name),(14,.hp 1 0 5 0 0),(13,.hp 0 0 5 0 0),(3,St name),(4,I i),(5,I k_)]) Z (Ps Z (Ps Z (Ps Z (Ps Z (Ps Z (Ps Z Pq)))))) (jC (oN (Pt.seq Z Z) (oN as' (jA ?_)))));refine jN Z h (λq37 h=>?_) (λq37 h=>?_)
 ·refine jI (oN (fa dA Z) (oA (lh (Bo (d0.az)) ty4 Z Z Z) (oN mv ?_)));refine TO.jB h 4 (λs38=>[(154,Bo s38),(14,.hp 1 0 5 0 0)]) (λs38=>[some ⟨0,5,80,[(Pz.c d0)]⟩,some ⟨0,5,80,[(Pz.c d1)]⟩]) (λs38 q39 h js38=>?_) (λs38 q39 h js38=>?_) (λs38 h=>?_)
  ·refine gN Z q39 (fa dA Z) (gA Z q39 (lh (Bo (d0.Reads)) ty4 Z Z Z) (gN Z q39 (Pt.not Z) (oN (Pt.pickT Z q39 (Bo (!(d0.Reads))) Z) ?_)))
   cases h
   exact js38 _ _ (kw Z Z)
  ·refine gS Z q39 (gS Z q39 (gS Z q39 (oN (Pt.pickF Z q39 (Bo false) Z) ?_)))
   cases h
   exact js38 _ _ (kw Z Z)
  refine oN mv ?_;refine TO.jB h 3 (λs40=>[(158,Bo s40),(14,.hp 1 0 5 0 0)]) (λs40=>[some ⟨0,5,80,[(Pz.c d0)]⟩,some ⟨0,5,80,[(Pz.c d1)]⟩]) (λs40 q41 h js40=>?_) (λs40 q41 h js40=>?_) (λs40 h=>?_)
  ·refine gN Z q41 (fa dA Z) (gA Z q41 (lh (Bo (d1.Reads)) ty4 Z Z Z) (oN (Pt.pickT Z q41 (Bo (d1.Reads)) Z) ?_))
   cases h
   exact js40 _ _ (kw Z Z)
  ·refine gS Z q41 (gS Z q41 (oN (Pt.pickF Z q41 (Bo false) Z) ?_))
   cases h
   exact js40 _ _ (kw Z Z)
  refine oN mv ?_;refine TO.jB h 4 (λs42=>[(163,Bo s42)]) (λs42=>[some ⟨0,5,80,[(Pz.c d0)]⟩,some ⟨0,5,80,[(Pz.c d1)]⟩]) (λs42 q43 h js42=>?_) (λs42 q43 h js42=>?_) (λs42 h=>?_)
  ·refine gN Z q43 (fa dA Z) (gA Z q43 (lh (Bo (d1.az)) ty4 Z Z Z) (gN Z q43 (Pt.not Z) (oN (Pt.pickT Z q43 (Bo (!(d1.az))) Z) ?_)))
   cases h
   exact js42 _ _ (kw Z Z)
  ·refine gS Z q43 (gS Z q43 (gS Z q43 (oN (Pt.pickF Z q43 (Bo false) Z) ?_)))
   cases h
   exact js42 _ _ (kw Z Z)
  refine oN as' (jA (jK ?_));obtain rfl:=Pw h;replace h:=congrArg some (show _=_ from ks5)
  cases h
  exact aF Z Z Z
 refine jI (oN (Pt.seq Z Z) (oN as' (jA ?_)));refine jN Z h (λq44 h=>?_) (λq44 h=>?_)
 ·refine jI (oN (fa dA Z) (oA (lh (Bo (d0.az)) ty4 Z Z Z) (oN mv ?_)));refine TO.jB h 4 (λs45=>[(172,Bo s45),(14,.hp 1 0 5 0 0)]) (λs45=>[some ⟨0,5,80,[(Pz.c d0)]⟩,some ⟨0,5,80,[(Pz.c d1)]⟩]) (λs45 q46 h js45=>?_) (λs45 q46 h js45=>?_) (λs45 h=>?_)
  ·refine gN Z q46 (fa dA Z) (gA Z q46 (lh (Bo (d0.Reads)) ty4 Z Z Z) (gN Z q46 (Pt.not Z) (oN (Pt.pickT Z q46 (Bo (!(d0.Reads))) Z) ?_)))
   cases h
   exact js45 _ _ (kw Z Z)
  ·refine gS Z q46 (gS Z q46 (gS Z q46 (oN (Pt.pickF Z q46 (Bo false) Z) ?_)))
   cases h
   exact js45 _ _ (kw Z Z)
  refine oN mv ?_;refine TO.jB h 3 (λs47=>[(176,Bo s47),(14,.hp 1 0 5 0 0)]) (λs47=>[some ⟨0,5,80,[(Pz.c d0)]⟩,some ⟨0,5,80,[(Pz.c d1)]⟩]) (λs47 q48 h js47=>?_) (λs47 q48 h js47=>?_) (λs47 h=>?_)
  ·refine gN Z q48 (fa dA Z) (gA Z q48 (lh (Bo (d1.az)) ty4 Z Z Z) (oN (Pt.pickT Z q48 (Bo (d1.az)) Z) ?_))
   cases h
   exact js47 _ _ (kw Z Z)
  ·refine gS Z q48 (gS Z q48 (oN (Pt.pickF Z q48 (Bo false) Z) ?_))
   cases h
   exact js47 _ _ (kw Z Z)
  refine oN mv ?_;refine TO.jB h 4 (λs49=>[(181,Bo s49)]) (λs49=>[some ⟨0,5,80,[(Pz.c d0)]⟩,some ⟨0,5,80,[(Pz.c d1)]⟩]) (λs49 q50 h js49=>?_) (λs49 q50 h js49=>?_) (λs49 h=>?_)
  ·refine gN Z q50 (fa dA Z) (gA Z q50 (lh (Bo (d1.Reads)) ty4 Z Z Z) (gN Z q50 (Pt.not Z) (oN (Pt.pickT Z q50 (Bo (!(d1.Reads))) Z) ?_)))
   cases h
   exact js49 _ _ (kw Z Z)
  ·refine gS Z q50 (gS Z q50 (gS Z q50 (oN (Pt.pickF Z q50 (Bo false) Z) ?_)))
   cases h
   exact js49 _ _ (kw Z Z)
  refine oN as' (jA (jK ?_));obtain rfl:=Pw h;replace h:=congrArg some (show _=_ from ks5)
  cases h
  exact aF Z Z Z
 refine jG ?_
 cases h
 exact ⟨(),(),ks5,trivial,kw Z Z⟩
theorem Bx (p:List (List Px)) (x:Py) (name:ByteArray) {q} (h:eZ p x name=some q):au Tryz.prog 100 [eL (cL Px.c) p,.agg (Py.c x),St name] (eL cI q):=by
 refine pM Tryz.func100 Z (by kernel_rfl) Z (jI (oN (Pt.bxF [eL cI x.From,eL (cL cI) x.Order] Z Z Z) (oN as' (jA (jI (oN mv (oC h (λ_=>dK _) Z Z Z Z λv1 _ h=>oN as' (jA (jI (oA (EvA.mkO (c:=cI) ([]:LI) [] aD Z Z Z qD Z Z) (oN (Pt.asg (hS false 0 0 1 (([]:LI).length)) Z) (jA ?_))))))))))));refine T.jF (G:=Nat) h (λs2 gh=>True) (λs2 gh=>[(8,hS false 0 gh 1 s2.length)]) (λs2 gh=>[bE false gh 1 3 (s2.map cI)]) (λs2 u25 h hg=>?_) (λs2 h=>?_)
 ·refine jI (oN mv (oN (Pt.asg (hS false 0 u25 1 s2.length) Z) (jA (jK ?_))));obtain rfl:=Pw h
  repeat (first|refine iA ?_|refine iB ?_)
  exact jQ (vs:=[hS false 0 u25 1 s2.length]) (.cons (.tmp Z) .nil) (Fz.own (g:=false) (ver:=u25) (l:=s2) Z Z Z nofun qD)
 refine jI (oN as' (jA (jE ?_)));refine jO (S:=(LI)×Int) (G:=Nat) (qh p x name v1) (λs6 gh=>True) (λs6 gh=>[(9,I s6.2),(8,hS false 0 gh 1 s6.1.length),(7,eL Pz.c v1),(4,.fp (Py.c x) 0),(0,eL (cL Px.c) p),(2,St name)]) (λs6 gh=>[bE false gh 1 3 (s6.1.map cI)]) (s0:=(([]:LI),U)) 0 h trivial (kw Z Z) (λs6 u8 ws6 h hg=>?_);refine jH (jI (oN mv (oN mv (oN (Pt.lenL pG Z) (oN (Pt.ilt Z Z) (jA ?_))))));refine jN Z h (λq9 h=>?_) (λq9 h=>?_)
 ·refine jG ?_;refine T.jF (G:=Nat) h (λs10 gh=>True) (λs10 gh=>[(8,hS false 0 gh 1 s10.length),(9,I s6.2),(7,eL Pz.c v1),(4,.fp (Py.c x) 0),(0,eL (cL Px.c) p),(2,St name)]) (λs10 gh=>[bE false gh 1 3 (s10.map cI)]) (λs10 u23 h hg=>?_) (λs10 h=>?_)
  ·refine jC (oN mv (jW h λg24 h=>oN (Pt.add Z Z g24) (oN as' (jA ?_))));obtain rfl:=Pw h;exact ⟨(s10,(s6.2+V)),u23,Z,trivial,kw Z Z⟩
  refine jE (jI (oN as' (jA ?_)));refine T.jU h (λs11=>[(10,I s11),(9,I s6.2),(8,hS false 0 u8 1 s6.1.length),(7,eL Pz.c v1),(4,.fp (Py.c x) 0),(0,eL (cL Px.c) p),(2,St name)]) (λs11=>[bE false u8 1 3 (s6.1.map cI)]) (λs11 h=>?_) (λs11 h=>?_)
  ·refine jC (oN mv (oN mv (oN (Pt.mkF (c:=cI) ([s11]:LI) [[I s11]] aD Z Z Z qD qD Z) (jL h λg22 h=>oA (EvA.app1 (g:=false) (l:=s6.1) s11 aD (by kernel_rfl) Z Z Z nofun (bf.fz (l:=([s11]:LI)) Z qD) g22) (oN (Pt.asg (hS false 0 (u8+1) 1 ((s6.1++[s11]).length)) Z) (jA ?_))))))
   cases h
   exact ⟨u8+1,trivial,kw Z Z⟩
  refine jI (oN as' (jA (jE ?_)));refine T.lU h (λs14=>[(11,I s14.1),(10,I s14.2),(9,I s6.2),(8,hS false 0 u8 1 s6.1.length),(7,eL Pz.c v1),(4,.fp (Py.c x) 0),(0,eL (cL Px.c) p),(2,St name)]) (λs14=>[bE false u8 1 3 (s6.1.map cI)]) (kw Z Z) (λs14 ws14 h=>?_);refine jH (jI (oN mv (oN mv (oN (Pt.lenL pG Z) (oN (Pt.ilt Z Z) (jA ?_))))));refine jN Z h (λq16 h=>?_) (λq16 h=>?_)
  ·refine jG ?_;refine T.jU h (λs17=>[(10,I s17),(11,I s14.1),(9,I s6.2),(8,hS false 0 u8 1 s6.1.length),(7,eL Pz.c v1),(4,.fp (Py.c x) 0),(0,eL (cL Px.c) p),(2,St name)]) (λs17=>[bE false u8 1 3 (s6.1.map cI)]) (λs17 h=>?_) (λs17 h=>?_)
   ·refine jC (oN mv (jW h λg21 h=>oN (Pt.add Z Z g21) (oN as' (jA ?_))));exact lE h (kw Z Z)
   refine jE (jI (oN mv (oN (lf (.agg (Py.c x)) pE Z) (oN mv (oN mv (oN mv (oN mv (oC h (λ_=>A8 _ _ _ _ _ _) Z Z Z Z λv18 _ h=>jA ?_))))))));refine jN Z h (λq19 h=>?_) (λq19 h=>?_)
   ·refine jC (oN mv (oN mv (jD h λg20 h=>oN (Pt.shl Z Z g20) (oN (Pt.bor Z Z) (oN as' (jA ?_))))))
    cases h
    exact ⟨(),trivial,kw Z Z⟩
   refine jG ?_
   cases h
   exact ⟨(),trivial,kw Z Z⟩
  refine jM (lX h λh=>?_)
  cases h
  exact ⟨(),trivial,kw Z Z⟩
 refine jM (lX h λh=>?_)
 cases h
 exact ⟨u8,trivial,kw Z Z⟩
theorem fP (r_:LI) (i:Int) (k_:Int) {q} (h:fe r_ i k_=some q):au Tryz.prog 150 [eL cI r_,I i,I k_] (Bo q):=by
 refine pM Tryz.func150 Z (by kernel_rfl) Z (jI (oN as' (jA (jI (oN mv (oN mv (jD h λg1 h=>oN (Pt.ixL aD Z Z g1 qD) (oN (lf (I (J r_ i)) PL Z) (oN mv (jD h λg2 h=>oN (Pt.shr Z Z g2) (oN (Pt.band Z Z) (oN (Pt.ieq Z Z) (oN as' ?_)))))))))))));refine jA (jK ?_)
 cases h
 exact aF Z Z Z
theorem wO (r_:LI) {q} (h:kS r_=some q):au Tryz.prog 101 [eL cI r_] (eL cI q):=by
 refine pM Tryz.func101 Z (by kernel_rfl) Z (jI (oN as' (jA (jI (oN mv (oN (Pt.lenL aD Z) (jD h λg1 h=>oA (EvA.mkN (c:=cI) (default:Int) aD Z Z g1 Z Z Z) (oN (Pt.asg (hS false 0 0 1 ((V7 (r_.length:Int).toNat (default:Int)).length)) Z) (jA ?_)))))))));refine T.jF (G:=Nat) h (λs2 gh=>True) (λs2 gh=>[(3,hS false 0 gh 1 s2.length)]) (λs2 gh=>[bE false gh 1 3 (s2.map cI)]) (λs2 u27 h hg=>?_) (λs2 h=>?_)
 ·refine jI (oN mv (oN (Pt.asg (hS false 0 u27 1 s2.length) Z) (jA (jK ?_))));obtain rfl:=Pw h
  repeat (first|refine iA ?_|refine iB ?_)
  exact jQ (vs:=[hS false 0 u27 1 s2.length]) (.cons (.tmp Z) .nil) (Fz.own (g:=false) (ver:=u27) (l:=s2) Z Z Z nofun qD)
 refine jI (oN as' (jA (jE ?_)));refine jO (S:=(LI)×Int) (G:=Nat) (lG r_) (λs6 gh=>True) (λs6 gh=>[(4,I s6.2),(3,hS false 0 gh 1 s6.1.length),(0,eL cI r_)]) (λs6 gh=>[bE false gh 1 3 (s6.1.map cI)]) (s0:=((V7 (r_.length:Int).toNat (default:Int)),U)) 0 h trivial (kw Z Z) (λs6 u8 ws6 h hg=>?_);refine jH (jI (oN mv (oN mv (oN (Pt.lenL aD Z) (oN (Pt.ilt Z Z) (jA ?_))))));refine jN Z h (λq9 h=>?_) (λq9 h=>?_)
 ·refine jG ?_;refine T.jF (G:=Nat) h (λs10 gh=>True) (λs10 gh=>[(4,I s6.2),(3,hS false 0 gh 1 s10.length),(0,eL cI r_)]) (λs10 gh=>[bE false gh 1 3 (s10.map cI)]) (λs10 u25 h hg=>?_) (λs10 h=>?_)
  ·refine jC (oN mv (jW h λg26 h=>oN (Pt.add Z Z g26) (oN as' (jA ?_))));obtain rfl:=Pw h;exact ⟨(s10,(s6.2+V)),u25,Z,trivial,kw Z Z⟩
  refine jE (jI (oN as' (jA (jE ?_))));refine jO (S:=(LI)×Int) (G:=Nat) (kz r_ s6) (λs14 gh=>True) (λs14 gh=>[(5,I s14.2),(4,I s6.2),(3,hS false 0 gh 1 s14.1.length),(0,eL cI r_)]) (λs14 gh=>[bE false gh 1 3 (s14.1.map cI)]) (s0:=(s6.1,U)) u8 h trivial (kw Z Z) (λs14 u16 ws14 h hg=>?_);refine jH (jI (oN mv (oN mv (oN (Pt.lenL aD Z) (oN (Pt.ilt Z Z) (jA ?_))))));refine jN Z h (λq17 h=>?_) (λq17 h=>?_)
  ·refine jG ?_;refine T.jF (G:=Nat) h (λs18 gh=>True) (λs18 gh=>[(5,I s14.2),(4,I s6.2),(3,hS false 0 gh 1 s18.length),(0,eL cI r_)]) (λs18 gh=>[bE false gh 1 3 (s18.map cI)]) (λs18 u23 h hg=>?_) (λs18 h=>?_)
   ·refine jC (oN mv (jW h λg24 h=>oN (Pt.add Z Z g24) (oN as' (jA ?_))));obtain rfl:=Pw h;exact ⟨(s18,(s14.2+V)),u23,Z,trivial,kw Z Z⟩
   refine jE (jI (oN mv (oN mv (oN mv (oC h (λ_=>fP _ _ _) Z Z Z Z λv19 _ h=>jA ?_)))));refine jN Z h (λq20 h=>?_) (λq20 h=>?_)
   ·refine jP (dG [dF,dF,dF,dF,dF,([0],false),dF,dF,dF,dF,([0],true)]) (by kernel_rfl) (by kernel_rfl) (fN Z mv (fN Z mv (fN Z mv (fN Z mv (jD h λg21 h=>fN Z (Pt.ixO (g:=false) aD Z Z nofun g21) (fR [0] Z (λG hG=>EvA.ldO (g:=false) (l:=s14.1) (I (J s14.1 s14.2)) PL Z (hG.a0 Z) nofun (aH Z g21) Z) (fN Z mv (jD h λg22 h=>fN Z (Pt.shl Z Z g22) (fN Z (Pt.bor Z Z) (fN Z (Pt.ixO (g:=false) aD Z Z nofun g21) (fV 0 [] Z Z (λG hG=>EvA.stO (g:=false) (l:=s14.1) (cs:=[I (Pu .i64 (J s14.1 s14.2) (CB .i64 V s6.2))]) (Pu .i64 (J s14.1 s14.2) (CB .i64 V s6.2)) PL Z Z (hG.a0 Z) nofun (aH Z g21) Z Z Z) (jR ?_))))))))))));obtain rfl:=Pw h;exact ⟨u16,trivial,BL Z (Ps Z (Ps Z (Ps (congrArg (hS false 0 u16 1) (by simp:s14.1.length=(s14.1.set s14.2.toNat (Pu .i64 (J s14.1 s14.2) (CB .i64 (1:Int) s6.2))).length)) (Ps Z Pq))))⟩
   refine jG ?_
   cases h
   exact ⟨u16,trivial,kw Z Z⟩
  refine jM (lX h λh=>?_)
  cases h
  exact ⟨u16,trivial,kw Z Z⟩
 refine jM (lX h λh=>?_)
 cases h
 exact ⟨u8,trivial,kw Z Z⟩
theorem qV (r_:LI) {q} (h:iC r_=some q):au Tryz.prog 102 [eL cI r_] (eL cI q):=by
 refine pM Tryz.func102 Z (by kernel_rfl) Z (jI (oN as' (jA (jI (oA (EvA.mkO (c:=cI) ([]:LI) [] aD Z Z Z qD Z Z) (oN mv (jL h λg1 h=>oA (EvA.appF (l:=([]:LI)) r_ aD (by kernel_rfl) Z Z Z (bf.fz (l:=r_) Z qD) g1) (oN (Pt.asg (hS false 0 (0+1) 1 ((([]:LI)++r_).length)) Z) (jA ?_)))))))));refine T.jF (G:=Nat) h (λs2 gh=>True) (λs2 gh=>[(3,hS false 0 gh 1 s2.length)]) (λs2 gh=>[bE false gh 1 3 (s2.map cI)]) (λs2 u27 h hg=>?_) (λs2 h=>?_)
 ·refine jI (oN mv (oN (Pt.asg (hS false 0 u27 1 s2.length) Z) (jA (jK ?_))));obtain rfl:=Pw h
  repeat (first|refine iA ?_|refine iB ?_)
  exact jQ (vs:=[hS false 0 u27 1 s2.length]) (.cons (.tmp Z) .nil) (Fz.own (g:=false) (ver:=u27) (l:=s2) Z Z Z nofun qD)
 refine jI (oN as' (jA (jE ?_)));refine jO (S:=(LI)×Int) (G:=Nat) lH (λs6 gh=>True) (λs6 gh=>[(4,I s6.2),(3,hS false 0 gh 1 s6.1.length)]) (λs6 gh=>[bE false gh 1 3 (s6.1.map cI)]) (s0:=((([]:LI)++r_),U)) (0+1) h trivial (kw Z Z) (λs6 u8 ws6 h hg=>?_);refine jH (jI (oN mv (oN mv (oN (Pt.lenO (g:=false) aD Z nofun) (oN (Pt.ilt Z Z) (jA ?_))))));refine jN Z h (λq9 h=>?_) (λq9 h=>?_)
 ·refine jG ?_;refine T.jF (G:=Nat) h (λs10 gh=>True) (λs10 gh=>[(4,I s6.2),(3,hS false 0 gh 1 s10.length)]) (λs10 gh=>[bE false gh 1 3 (s10.map cI)]) (λs10 u25 h hg=>?_) (λs10 h=>?_)
  ·refine jC (oN mv (jW h λg26 h=>oN (Pt.add Z Z g26) (oN as' (jA ?_))));obtain rfl:=Pw h;exact ⟨(s10,(s6.2+V)),u25,Z,trivial,kw Z Z⟩
  refine jE (jI (oN as' (jA (jE ?_))));refine jO (S:=(LI)×Int) (G:=Nat) (f7 s6) (λs14 gh=>True) (λs14 gh=>[(5,I s14.2),(4,I s6.2),(3,hS false 0 gh 1 s14.1.length)]) (λs14 gh=>[bE false gh 1 3 (s14.1.map cI)]) (s0:=(s6.1,U)) u8 h trivial (kw Z Z) (λs14 u16 ws14 h hg=>?_);refine jH (jI (oN mv (oN mv (oN (Pt.lenO (g:=false) aD Z nofun) (oN (Pt.ilt Z Z) (jA ?_))))));refine jN Z h (λq17 h=>?_) (λq17 h=>?_)
  ·refine jG ?_;refine T.jF (G:=Nat) h (λs18 gh=>True) (λs18 gh=>[(5,I s14.2),(4,I s6.2),(3,hS false 0 gh 1 s18.length)]) (λs18 gh=>[bE false gh 1 3 (s18.map cI)]) (λs18 u23 h hg=>?_) (λs18 h=>?_)
   ·refine jC (oN mv (jW h λg24 h=>oN (Pt.add Z Z g24) (oN as' (jA ?_))));obtain rfl:=Pw h;exact ⟨(s18,(s14.2+V)),u23,Z,trivial,kw Z Z⟩
   refine jE (jI (oN mv (oN mv (oN mv (jB h λv19 cv19 h=>oA (EvA.callT Z Z (fP s14.1 s14.2 s6.2 cv19) (.cons (Fz.own (g:=false) (ver:=u16) (l:=s14.1) Z Z Z nofun qD) (.cons (qC Z) (.cons (qC Z) .nil))) Z) (jA ?_))))));refine jN Z h (λq20 h=>?_) (λq20 h=>?_)
   ·refine T.drawH (dG [dF,dF,dF,dF,dF,([0],false),dF,dF,dF,([0],false),dF,dF,([0],true)]) (by kernel_rfl) (by kernel_rfl) (fN Z mv (fN Z mv (fN Z mv (fN Z mv (jD h λg21 h=>fN Z (Pt.ixO (g:=false) aD Z Z nofun g21) (fR [0] Z (λG hG=>EvA.ldO (g:=false) (l:=s14.1) (I (J s14.1 s14.2)) PL Z (hG.a0 Z) nofun (aH Z g21) Z) (fN Z mv (fN Z mv (jD h λg22 h=>fN Z (Pt.ixO (g:=false) aD Z Z nofun g22) (fR [0] Z (λG hG=>EvA.ldO (g:=false) (l:=s14.1) (I (J s14.1 s6.2)) PL Z (hG.a0 Z) nofun (aH Z g22) Z) (fN Z (Pt.bor Z Z) (fN Z (Pt.ixO (g:=false) aD Z Z nofun g21) (fV 0 [] Z Z (λG hG=>EvA.stO (g:=false) (l:=s14.1) (cs:=[I (Pu .i64 (J s14.1 s14.2) (J s14.1 s6.2))]) (Pu .i64 (J s14.1 s14.2) (J s14.1 s6.2)) PL Z Z (hG.a0 Z) nofun (aH Z g21) Z Z Z) ?_)))))))))))));refine jR ?_;obtain rfl:=Pw h;exact ⟨u16,trivial,BL Z (Ps Z (Ps Z (Ps (congrArg (hS false 0 u16 1) (by simp:s14.1.length=(s14.1.set s14.2.toNat (Pu .i64 (J s14.1 s14.2) (J s14.1 s6.2))).length)) Pq)))⟩
   refine jG ?_
   cases h
   exact ⟨u16,trivial,kw Z Z⟩
  refine jM (lX h λh=>?_)
  cases h
  exact ⟨u16,trivial,kw Z Z⟩
 refine jM (lX h λh=>?_)
 cases h
 exact ⟨u8,trivial,kw Z Z⟩
theorem zf (a:LI) (b:LI) {q} (h:nL a b=some q):au Tryz.prog 103 [eL cI a,eL cI b] (eL cI q):=by
 refine pM Tryz.func103 Z (by kernel_rfl) Z (jI (oN as' (jA (jI (oA (EvA.mkO (c:=cI) ([]:LI) [] aD Z Z Z qD Z Z) (oN (Pt.asg (hS false 0 0 1 (([]:LI).length)) Z) (jA ?_)))))));refine T.jF (G:=Nat) h (λs1 gh=>True) (λs1 gh=>[(5,hS false 0 gh 1 s1.length)]) (λs1 gh=>[bE false gh 1 3 (s1.map cI)]) (λs1 u13 h hg=>?_) (λs1 h=>?_)
 ·refine jI (oN mv (oN (Pt.asg (hS false 0 u13 1 s1.length) Z) (jA (jK ?_))));obtain rfl:=Pw h
  repeat (first|refine iA ?_|refine iB ?_)
  exact jQ (vs:=[hS false 0 u13 1 s1.length]) (.cons (.tmp Z) .nil) (Fz.own (g:=false) (ver:=u13) (l:=s1) Z Z Z nofun qD)
 refine jI (oN as' (jA (jE ?_)));refine jO (S:=(LI)×Int) (G:=Nat) (jV a b) (λs5 gh=>True) (λs5 gh=>[(6,I s5.2),(5,hS false 0 gh 1 s5.1.length),(0,eL cI a),(1,eL cI b)]) (λs5 gh=>[bE false gh 1 3 (s5.1.map cI)]) (s0:=(([]:LI),U)) 0 h trivial (kw Z Z) (λs5 u7 ws5 h hg=>?_);refine jH (jI (oN mv (oN mv (oN (Pt.lenL aD Z) (oN (Pt.ilt Z Z) (jA ?_))))));refine jN Z h (λq8 h=>?_) (λq8 h=>?_)
 ·refine jG (jH (jE (jP (dG [dF,dF,dF,dF,dF,dF,dF,dF,dF,dF,dF,([0],true),dF]) (by kernel_rfl) (by kernel_rfl) (fN Z mv (fN Z mv (fN Z mv (jD h λg9 h=>fN Z (Pt.ixL aD Z Z g9 qD) (fN Z (lf (I (J a s5.2)) PL Z) (fN Z mv (fN Z mv (jD h λg10 h=>fN Z (Pt.ixL aD Z Z g10 qD) (fN Z (lf (I (J b s5.2)) PL Z) (fN Z (Pt.bor Z Z) ?_)))))))))))));refine fN Z (Pt.mkF (c:=cI) ([(Pu .i64 (J a s5.2) (J b s5.2))]:LI) [[I (Pu .i64 (J a s5.2) (J b s5.2))]] aD Z Z Z qD qD Z) (jL h λg11 h=>fW 0 [] Z Z (λG hG=>EvA.app1 (g:=false) (l:=s5.1) (Pu .i64 (J a s5.2) (J b s5.2)) aD (by kernel_rfl) Z Z (hG.a0 Z) nofun (bf.fz (l:=([(Pu .i64 (J a s5.2) (J b s5.2))]:LI)) Z qD) g11) (fN Z (Pt.asg (hS false 0 (u7+1) 1 ((s5.1++[(Pu .i64 (J a s5.2) (J b s5.2))]).length)) Z) (jR (T.clean (H0:=[bE false (u7+1) 1 3 ((s5.1++[(Pu .i64 (J a s5.2) (J b s5.2))]).map cI)]) (e0:=ai [(5,hS false 0 (u7+1) 1 ((s5.1++[(Pu .i64 (J a s5.2) (J b s5.2))]).length)),(6,I s5.2),(0,eL cI a),(1,eL cI b)]) Z (Ps Z (Ps Z (Ps Z (Ps Z Pq)))) (jC (oN mv (jW h λg12 h=>oN (Pt.add Z Z g12) (oN as' (jA ?_)))))))));obtain rfl:=Pw h;exact ⟨((s5.1++[(Pu .i64 (J a s5.2) (J b s5.2))]),(s5.2+V)),u7+1,Z,trivial,kw Z Z⟩
 refine jM (lX h λh=>?_)
 cases h
 exact ⟨u7,trivial,kw Z Z⟩
theorem Ba (a:LI) (b:LI) {q} (h:pQ a b=some q):au Tryz.prog 104 [eL cI a,eL cI b] (eL cI q):=by
 refine pM Tryz.func104 Z (by kernel_rfl) Z (jI (oN as' (jA (jI (oA (EvA.mkO (c:=cI) ([]:LI) [] aD Z Z Z qD Z Z) (oN (Pt.asg (hS false 0 0 1 (([]:LI).length)) Z) (jA ?_)))))));refine T.jF (G:=Nat) h (λs1 gh=>True) (λs1 gh=>[(5,hS false 0 gh 1 s1.length)]) (λs1 gh=>[bE false gh 1 3 (s1.map cI)]) (λs1 u13 h hg=>?_) (λs1 h=>?_)
 ·refine jI (oN mv (oN (Pt.asg (hS false 0 u13 1 s1.length) Z) (jA (jK ?_))));obtain rfl:=Pw h
  repeat (first|refine iA ?_|refine iB ?_)
  exact jQ (vs:=[hS false 0 u13 1 s1.length]) (.cons (.tmp Z) .nil) (Fz.own (g:=false) (ver:=u13) (l:=s1) Z Z Z nofun qD)
 refine jI (oN as' (jA (jE ?_)));refine jO (S:=(LI)×Int) (G:=Nat) (kT a b) (λs5 gh=>True) (λs5 gh=>[(6,I s5.2),(5,hS false 0 gh 1 s5.1.length),(0,eL cI a),(1,eL cI b)]) (λs5 gh=>[bE false gh 1 3 (s5.1.map cI)]) (s0:=(([]:LI),U)) 0 h trivial (kw Z Z) (λs5 u7 ws5 h hg=>?_);refine jH (jI (oN mv (oN mv (oN (Pt.lenL aD Z) (oN (Pt.ilt Z Z) (jA ?_))))));refine jN Z h (λq8 h=>?_) (λq8 h=>?_)
 ·refine jG (jH (jE (jP (dG [dF,dF,dF,dF,dF,dF,dF,dF,dF,dF,dF,([0],true),dF]) (by kernel_rfl) (by kernel_rfl) (fN Z mv (fN Z mv (fN Z mv (jD h λg9 h=>fN Z (Pt.ixL aD Z Z g9 qD) (fN Z (lf (I (J a s5.2)) PL Z) (fN Z mv (fN Z mv (jD h λg10 h=>fN Z (Pt.ixL aD Z Z g10 qD) (fN Z (lf (I (J b s5.2)) PL Z) (fN Z (Pt.band Z Z) ?_)))))))))))));refine fN Z (Pt.mkF (c:=cI) ([(eF .i64 (J a s5.2) (J b s5.2))]:LI) [[I (eF .i64 (J a s5.2) (J b s5.2))]] aD Z Z Z qD qD Z) (jL h λg11 h=>fW 0 [] Z Z (λG hG=>EvA.app1 (g:=false) (l:=s5.1) (eF .i64 (J a s5.2) (J b s5.2)) aD (by kernel_rfl) Z Z (hG.a0 Z) nofun (bf.fz (l:=([(eF .i64 (J a s5.2) (J b s5.2))]:LI)) Z qD) g11) (fN Z (Pt.asg (hS false 0 (u7+1) 1 ((s5.1++[(eF .i64 (J a s5.2) (J b s5.2))]).length)) Z) (jR (T.clean (H0:=[bE false (u7+1) 1 3 ((s5.1++[(eF .i64 (J a s5.2) (J b s5.2))]).map cI)]) (e0:=ai [(5,hS false 0 (u7+1) 1 ((s5.1++[(eF .i64 (J a s5.2) (J b s5.2))]).length)),(6,I s5.2),(0,eL cI a),(1,eL cI b)]) Z (Ps Z (Ps Z (Ps Z (Ps Z Pq)))) (jC (oN mv (jW h λg12 h=>oN (Pt.add Z Z g12) (oN as' (jA ?_)))))))));obtain rfl:=Pw h;exact ⟨((s5.1++[(eF .i64 (J a s5.2) (J b s5.2))]),(s5.2+V)),u7+1,Z,trivial,kw Z Z⟩
 refine jM (lX h λh=>?_)
 cases h
 exact ⟨u7,trivial,kw Z Z⟩
theorem zg (a:LI) (b:LI) {q} (h:nM a b=some q):au Tryz.prog 105 [eL cI a,eL cI b] (eL cI q):=by
 refine pM Tryz.func105 Z (by kernel_rfl) Z (jI (oN as' (jA (jI (oA (EvA.mkO (c:=cI) ([]:LI) [] aD Z Z Z qD Z Z) (oN (Pt.asg (hS false 0 0 1 (([]:LI).length)) Z) (jA ?_)))))));refine T.jF (G:=Nat) h (λs1 gh=>True) (λs1 gh=>[(5,hS false 0 gh 1 s1.length)]) (λs1 gh=>[bE false gh 1 3 (s1.map cI)]) (λs1 u13 h hg=>?_) (λs1 h=>?_)
 ·refine jI (oN mv (oN (Pt.asg (hS false 0 u13 1 s1.length) Z) (jA (jK ?_))));obtain rfl:=Pw h
  repeat (first|refine iA ?_|refine iB ?_)
  exact jQ (vs:=[hS false 0 u13 1 s1.length]) (.cons (.tmp Z) .nil) (Fz.own (g:=false) (ver:=u13) (l:=s1) Z Z Z nofun qD)
 refine jI (oN as' (jA (jE ?_)));refine jO (S:=(LI)×Int) (G:=Nat) (jX a b) (λs5 gh=>True) (λs5 gh=>[(6,I s5.2),(5,hS false 0 gh 1 s5.1.length),(0,eL cI a),(1,eL cI b)]) (λs5 gh=>[bE false gh 1 3 (s5.1.map cI)]) (s0:=(([]:LI),U)) 0 h trivial (kw Z Z) (λs5 u7 ws5 h hg=>?_);refine jH (jI (oN mv (oN mv (oN (Pt.lenL aD Z) (oN (Pt.ilt Z Z) (jA ?_))))));refine jN Z h (λq8 h=>?_) (λq8 h=>?_)
 ·refine jG (jH (jE (jP (dG [dF,dF,dF,dF,dF,dF,dF,dF,dF,dF,dF,([0],true),dF]) (by kernel_rfl) (by kernel_rfl) (fN Z mv (fN Z mv (fN Z mv (jD h λg9 h=>fN Z (Pt.ixL aD Z Z g9 qD) (fN Z (lf (I (J a s5.2)) PL Z) (fN Z mv (fN Z mv (jD h λg10 h=>fN Z (Pt.ixL aD Z Z g10 qD) (fN Z (lf (I (J b s5.2)) PL Z) (fN Z (Pt.bandNot Z Z) ?_)))))))))))));refine fN Z (Pt.mkF (c:=cI) ([(oD .i64 (J a s5.2) (J b s5.2))]:LI) [[I (oD .i64 (J a s5.2) (J b s5.2))]] aD Z Z Z qD qD Z) (jL h λg11 h=>fW 0 [] Z Z (λG hG=>EvA.app1 (g:=false) (l:=s5.1) (oD .i64 (J a s5.2) (J b s5.2)) aD (by kernel_rfl) Z Z (hG.a0 Z) nofun (bf.fz (l:=([(oD .i64 (J a s5.2) (J b s5.2))]:LI)) Z qD) g11) (fN Z (Pt.asg (hS false 0 (u7+1) 1 ((s5.1++[(oD .i64 (J a s5.2) (J b s5.2))]).length)) Z) (jR (T.clean (H0:=[bE false (u7+1) 1 3 ((s5.1++[(oD .i64 (J a s5.2) (J b s5.2))]).map cI)]) (e0:=ai [(5,hS false 0 (u7+1) 1 ((s5.1++[(oD .i64 (J a s5.2) (J b s5.2))]).length)),(6,I s5.2),(0,eL cI a),(1,eL cI b)]) Z (Ps Z (Ps Z (Ps Z (Ps Z Pq)))) (jC (oN mv (jW h λg12 h=>oN (Pt.add Z Z g12) (oN as' (jA ?_)))))))));obtain rfl:=Pw h;exact ⟨((s5.1++[(oD .i64 (J a s5.2) (J b s5.2))]),(s5.2+V)),u7+1,Z,trivial,kw Z Z⟩
 refine jM (lX h λh=>?_)
 cases h
 exact ⟨u7,trivial,kw Z Z⟩
theorem wP (a:LI) (b:LI) {q} (h:kU a b=some q):au Tryz.prog 106 [eL cI a,eL cI b] (eL cI q):=by
 refine pM Tryz.func106 Z (by kernel_rfl) Z (jI (oN as' (jA (jI (oA (EvA.mkO (c:=cI) ([]:LI) [] aD Z Z Z qD Z Z) (oN (Pt.asg (hS false 0 0 1 (([]:LI).length)) Z) (jA ?_)))))));refine T.jF (G:=Nat) h (λs1 gh=>True) (λs1 gh=>[(5,hS false 0 gh 1 s1.length)]) (λs1 gh=>[bE false gh 1 3 (s1.map cI)]) (λs1 u24 h hg=>?_) (λs1 h=>?_)
 ·refine jI (oN mv (oN (Pt.asg (hS false 0 u24 1 s1.length) Z) (jA (jK ?_))));obtain rfl:=Pw h
  repeat (first|refine iA ?_|refine iB ?_)
  exact jQ (vs:=[hS false 0 u24 1 s1.length]) (.cons (.tmp Z) .nil) (Fz.own (g:=false) (ver:=u24) (l:=s1) Z Z Z nofun qD)
 refine jI (oN as' (jA (jE ?_)));refine jO (S:=(LI)×Int) (G:=Nat) (ia a b) (λs5 gh=>True) (λs5 gh=>[(6,I s5.2),(5,hS false 0 gh 1 s5.1.length),(0,eL cI a),(1,eL cI b)]) (λs5 gh=>[bE false gh 1 3 (s5.1.map cI)]) (s0:=(([]:LI),U)) 0 h trivial (kw Z Z) (λs5 u7 ws5 h hg=>?_);refine jH (jI (oN mv (oN mv (oN (Pt.lenL aD Z) (oN (Pt.ilt Z Z) (jA ?_))))));refine jN Z h (λq8 h=>?_) (λq8 h=>?_)
 ·refine jG ?_;refine T.jF (G:=Nat) h (λs9 gh=>True) (λs9 gh=>[(5,hS false 0 gh 1 s9.length),(6,I s5.2),(0,eL cI a),(1,eL cI b)]) (λs9 gh=>[bE false gh 1 3 (s9.map cI)]) (λs9 u22 h hg=>?_) (λs9 h=>?_)
  ·refine jC (oN mv (jW h λg23 h=>oN (Pt.add Z Z g23) (oN as' (jA ?_))));obtain rfl:=Pw h;exact ⟨(s9,(s5.2+V)),u22,Z,trivial,kw Z Z⟩
  refine jE (jI (oN as' (jA ?_)));refine T.jU h (λs10=>[(7,I s10),(6,I s5.2),(5,hS false 0 u7 1 s5.1.length),(0,eL cI a),(1,eL cI b)]) (λs10=>[bE false u7 1 3 (s5.1.map cI)]) (λs10 h=>?_) (λs10 h=>?_)
  ·refine jC (oN mv (oN mv (oN (Pt.mkF (c:=cI) ([s10]:LI) [[I s10]] aD Z Z Z qD qD Z) (jL h λg21 h=>oA (EvA.app1 (g:=false) (l:=s5.1) s10 aD (by kernel_rfl) Z Z Z nofun (bf.fz (l:=([s10]:LI)) Z qD) g21) (oN (Pt.asg (hS false 0 (u7+1) 1 ((s5.1++[s10]).length)) Z) (jA ?_))))))
   cases h
   exact ⟨u7+1,trivial,kw Z Z⟩
  refine jI (oN as' (jA (jE ?_)));refine T.lU h (λs13=>[(8,I s13.1),(7,I s13.2),(6,I s5.2),(5,hS false 0 u7 1 s5.1.length),(0,eL cI a),(1,eL cI b)]) (λs13=>[bE false u7 1 3 (s5.1.map cI)]) (kw Z Z) (λs13 ws13 h=>?_);refine jH (jI (oN mv (oN mv (oN (Pt.lenL aD Z) (oN (Pt.ilt Z Z) (jA ?_))))));refine jN Z h (λq15 h=>?_) (λq15 h=>?_)
  ·refine jG ?_;refine T.jU h (λs16=>[(7,I s16),(8,I s13.1),(6,I s5.2),(5,hS false 0 u7 1 s5.1.length),(0,eL cI a),(1,eL cI b)]) (λs16=>[bE false u7 1 3 (s5.1.map cI)]) (λs16 h=>?_) (λs16 h=>?_)
   ·refine jC (oN mv (jW h λg20 h=>oN (Pt.add Z Z g20) (oN as' (jA ?_))));exact lE h (kw Z Z)
   refine jE (jI (oN mv (oN mv (oN mv (oC h (λ_=>fP _ _ _) Z Z Z Z λv17 _ h=>jA ?_)))));refine jN Z h (λq18 h=>?_) (λq18 h=>?_)
   ·refine jC (oN mv (oN mv (oN mv (jD h λg19 h=>oN (Pt.ixL aD Z Z g19 qD) (oN (lf (I (J b s13.1)) PL Z) (oN (Pt.bor Z Z) (oN as' (jA ?_))))))))
    cases h
    exact ⟨(),trivial,kw Z Z⟩
   refine jG ?_
   cases h
   exact ⟨(),trivial,kw Z Z⟩
  refine jM (lX h λh=>?_)
  cases h
  exact ⟨(),trivial,kw Z Z⟩
 refine jM (lX h λh=>?_)
 cases h
 exact ⟨u7,trivial,kw Z Z⟩
theorem zo:∀ (nf:Nat) (p:List (List Px)) (x:Py) (e_:aa) {q} (h:cQ nf p x e_=some q),au Tryz.prog 54 [eL (cL Px.c) p,.agg (Py.c x),.agg (aa.c e_)] (eL cI q):=by
 intro nf
 induction nf with
 | zero=>intros;rename_i h;cases h
 | succ nf ih=>
  intro p x e_ q h;replace h:cO (cQ nf) p x e_=some q:=h;refine pM Tryz.func54 Z (by kernel_rfl) Z (jI (oN (Pt.bxF [eL cI x.From,eL (cL cI) x.Order] Z Z Z) (oN (Pt.bxF (aa.c e_) Z Z Z) (oN as' (jA (jH (jI (oN (fa tv Z) (oN (lf (I e_.Op) PL Z) (oN (Pt.ieq Z Z) (jA ?_)))))))))));refine jN Z h (λq1 h=>?_) (λq1 h=>?_)
  ·refine jI (oN mv (oN (lf (.agg (Py.c x)) pE Z) (oN (fa tv Z) (oN (lf (St e_.Name) ty9 Z) (oC h (λ_=>Bx _ _ _) Z Z Z Z λv2 _ h=>oN as' (jA (jK ?_)))))))
   cases h
   exact aF Z Z Z
  refine jG (jH (jP (λ_=>([],false)) (by kernel_rfl) (by kernel_rfl) (fN Z mv (fN Z (lf (.agg (Py.c x)) pE Z) (fN Z (fa tv Z) (fN Z (lf (eL TXimpl_RelExpr.c e_.Kids) FM Z) (jD h λg3 h=>fN Z (Pt.res (Pt.ixL De Z Z g3 TXimpl_RelExpr.len) (r' := .fp (aa.c (J e_.Kids U).out) 0) (λ_ _ hr=>qd (TXimpl_RelExpr.out_c _) hr)) (fN Z (lf (.agg (aa.c ((J e_.Kids U).out))) xS Z) (fC h (λ_=>ih _ _ _) Z Z Z Z Z λv4 _ h=>fN Z as' (jR (jH (jI (oN (fa tv Z) ?_)))))))))))));refine oN (lf (I e_.Op) PL Z) (jA (jE (jI (oN (Pt.ieq Z Z) (oN as' (jA ?_))))));refine jN Z h (λq5 h=>?_) (λq5 h=>?_)
  ·refine jH (T.clean (H0:=[]) (e0:=ai [(7,eL cI v4)]) Z (Ps Z Pq) (jC (oN mv (oC h (λ_=>wO _) Z Z Z Z λv6 _ h=>oN as' (jA (jK ?_))))))
   cases h
   exact aF Z Z Z
  refine jH (T.clean (H0:=[]) (e0:=ai [(25,I e_.Op),(7,eL cI v4),(5,.fp (aa.c e_) 0),(4,.fp (Py.c x) 0),(0,eL (cL Px.c) p)]) Z (Ps Z (Ps Z (Ps Z (Ps Z (Ps Z Pq))))) (jC (oN (Pt.ieq Z Z) (oN as' (jA ?_)))));refine jN Z h (λq7 h=>?_) (λq7 h=>?_)
  ·refine jI (oN mv (oC h (λ_=>qV _) Z Z Z Z λv8 _ h=>oN as' (jA (jK ?_))))
   cases h
   exact aF Z Z Z
  refine jG (jH (jP (λ_=>([],false)) (by kernel_rfl) (by kernel_rfl) (fN Z mv (fN Z (lf (.agg (Py.c x)) pE Z) (fN Z (fa tv Z) (fN Z (lf (eL TXimpl_RelExpr.c e_.Kids) FM Z) (jD h λg9 h=>fN Z (Pt.res (Pt.ixL De Z Z g9 TXimpl_RelExpr.len) (r' := .fp (aa.c (J e_.Kids V).out) 0) (λ_ _ hr=>qd (TXimpl_RelExpr.out_c _) hr)) (fN Z (lf (.agg (aa.c ((J e_.Kids V).out))) xS Z) (fC h (λ_=>ih _ _ _) Z Z Z Z Z λv10 _ h=>fN Z as' (jR (jH (jI (oN (fa tv Z) ?_)))))))))))));refine oN (lf (I e_.Op) PL Z) (jA (jE (jI (oN (Pt.ieq Z Z) (oN as' (jA ?_))))));refine jN Z h (λq11 h=>?_) (λq11 h=>?_)
  ·refine jH (T.clean (H0:=[]) (e0:=ai [(8,eL cI v10),(7,eL cI v4)]) Z (Ps Z (Ps Z Pq)) (jC (oN mv (oN mv (oC h (λ_=>zf _ _) Z Z Z Z λv12 _ h=>oN as' (jA (jK ?_)))))))
   cases h
   exact aF Z Z Z
  refine jH (T.clean (H0:=[]) (e0:=ai [(42,I e_.Op),(8,eL cI v10),(7,eL cI v4)]) Z (Ps Z (Ps Z (Ps Z Pq))) (jC (oN (Pt.ieq Z Z) (oN as' (jA ?_)))));refine jN Z h (λq13 h=>?_) (λq13 h=>?_)
  ·refine jI (oN mv (oN mv (oC h (λ_=>Ba _ _) Z Z Z Z λv14 _ h=>oN as' (jA (jK ?_)))))
   cases h
   exact aF Z Z Z
  refine jI (oN (Pt.ieq Z Z) (oN as' (jA ?_)));refine jN Z h (λq15 h=>?_) (λq15 h=>?_)
  ·refine jI (oN mv (oN mv (oC h (λ_=>zg _ _) Z Z Z Z λv16 _ h=>oN as' (jA (jK ?_)))))
   cases h
   exact aF Z Z Z
  refine jG (jI (oN mv (oN mv (oC h (λ_=>wP _ _) Z Z Z Z λv17 _ h=>oN as' (jA (jK ?_))))))
  cases h
  exact aF Z Z Z
theorem uj (p:List (List Px)) (x:Py) (e_:aa) {q} (h:pR p x e_=some q):au Tryz.prog 54 [eL (cL Px.c) p,.agg (Py.c x),.agg (aa.c e_)] (eL cI q):=by
 obtain ⟨nf,h⟩:=mb h;exact zo nf p x e_ h
theorem tz (r_:LI) {q} (h:nN r_=some q):au Tryz.prog 146 [eL cI r_] (Bo q):=by
 refine pM Tryz.func146 Z (by kernel_rfl) Z (jI (oN as' (jA ?_)));obtain ⟨Ks1,es1,ws1,h,ks1⟩:=qB h;refine T.join (S:=Unit) (G:=Unit) (λs1=>Ks1 s1=some q) (λs1 gh=>True) (λs1 gh=>[]) (λs1 gh=>[]) (λs1 gh h hg=>?_) ?_
 ·clear ks1;subst es1;refine jI (oN as' (jA (jK ?_)))
  cases h
  exact aF Z Z Z
 refine jI (oN as' (jA (jE ?_)));refine T.lU h (λs4=>[(3,I s4),(0,eL cI r_)]) (λs4=>[]) (kw Z Z) (λs4 ws4 h=>?_);refine jH (jI (oN mv (oN mv (oN (Pt.lenL aD Z) (oN (Pt.ilt Z Z) (jA ?_))))));refine jN Z h (λq6 h=>?_) (λq6 h=>?_)
 ·refine jG (jH (jE (jI (oN mv (oN mv (oN mv (oC h (λ_=>fP _ _ _) Z Z Z Z λv7 _ h=>jA ?_)))))));refine jN Z h (λq8 h=>?_) (λq8 h=>?_)
  ·refine jI (oN as' (jA (jK (lX h λh=>?_))));obtain rfl:=Pw h;replace h:=congrArg some (show _=_ from ks1)
   cases h
   exact aF Z Z Z
  refine jG (jC (oN mv (jW h λg9 h=>oN (Pt.add Z Z g9) (oN as' (jA ?_)))));exact lE h (kw Z Z)
 refine jM (lX h λh=>?_)
 cases h
 exact ⟨(),(),ks1,trivial,kw Z Z⟩
theorem wQ (r_:LI) {q} (h:kV r_=some q):au Tryz.prog 145 [eL cI r_] (Bo q):=by
 refine pM Tryz.func145 Z (by kernel_rfl) Z (jI (oN as' (jA (jI (oN mv (oC h (λ_=>qV _) Z Z Z Z λv1 _ h=>oC h (λ_=>tz _) Z Z Z Z λv2 _ h=>oN as' (jA (jK ?_))))))))
 cases h
 exact aF Z Z Z
theorem zq (r_:LI) {q} (h:nO r_=some q):au Tryz.prog 147 [eL cI r_] (I q):=by
 refine pM Tryz.func147 Z (by kernel_rfl) Z (jI (oN as' (jA (jI (oN as' (jA ?_))))));refine T.jU h (λs1=>[(3,I s1)]) (λs1=>[]) (λs1 h=>?_) (λs1 h=>?_)
 ·refine jI (oN mv (oN as' (jA (jK ?_))))
  cases h
  exact aF Z Z Z
 refine jI (oN as' (jA (jE ?_)));refine T.lU h (λs4=>[(4,I s4.1),(3,I s4.2),(0,eL cI r_)]) (λs4=>[]) (kw Z Z) (λs4 ws4 h=>?_);refine jH (jI (oN mv (oN mv (oN (Pt.lenL aD Z) (oN (Pt.ilt Z Z) (jA ?_))))));refine jN Z h (λq6 h=>?_) (λq6 h=>?_)
 ·refine jG ?_;refine T.jU h (λs7=>[(4,I s4.1),(3,I s7),(0,eL cI r_)]) (λs7=>[]) (λs7 h=>?_) (λs7 h=>?_)
  ·refine jC (oN mv (jW h λg18 h=>oN (Pt.add Z Z g18) (oN as' (jA ?_))));exact lE h (kw Z Z)
  refine jE (jI (oN as' (jA (jE ?_))));refine T.lU h (λs10=>[(5,I s10.1),(4,I s4.1),(3,I s10.2),(0,eL cI r_)]) (λs10=>[]) (kw Z Z) (λs10 ws10 h=>?_);refine jH (jI (oN mv (oN mv (oN (Pt.lenL aD Z) (oN (Pt.ilt Z Z) (jA ?_))))));refine jN Z h (λq12 h=>?_) (λq12 h=>?_)
  ·refine jG ?_;refine T.jU h (λs13=>[(3,I s13),(5,I s10.1),(4,I s4.1),(0,eL cI r_)]) (λs13=>[]) (λs13 h=>?_) (λs13 h=>?_)
   ·refine jC (oN mv (jW h λg17 h=>oN (Pt.add Z Z g17) (oN as' (jA ?_))));exact lE h (kw Z Z)
   refine jE (jI (oN mv (oN mv (oN mv (oC h (λ_=>fP _ _ _) Z Z Z Z λv14 _ h=>jA ?_)))));refine jN Z h (λq15 h=>?_) (λq15 h=>?_)
   ·refine jC (oN mv (jW h λg16 h=>oN (Pt.add Z Z g16) (oN as' (jA ?_))))
    cases h
    exact ⟨(),trivial,kw Z Z⟩
   refine jG ?_
   cases h
   exact ⟨(),trivial,kw Z Z⟩
  refine jM (lX h λh=>?_)
  cases h
  exact ⟨(),trivial,kw Z Z⟩
 refine jM (lX h λh=>?_)
 cases h
 exact ⟨(),trivial,kw Z Z⟩
theorem zt (kind:Int) (r_:LI) {q} (h:nP kind r_=some q):au Tryz.prog 97 [I kind,eL cI r_] (Bo q):=by
 refine pM Tryz.func97 Z (by kernel_rfl) Z (jI (oN as' (jA (jH (jI (oN mv (jA (jE (jI (oN (Pt.ieq Z Z) (oN as' (jA ?_))))))))))));refine jN Z h (λq1 h=>?_) (λq1 h=>?_)
 ·refine jI (oN mv (oC h (λ_=>wQ _) Z Z Z Z λv2 _ h=>oN as' (jA (jK ?_))))
  cases h
  exact aF Z Z Z
 refine jI (oN (Pt.ieq Z Z) (oN as' (jA ?_)));refine jN Z h (λq3 h=>?_) (λq3 h=>?_)
 ·refine jI (oN mv (oC h (λ_=>tz _) Z Z Z Z λv4 _ h=>oN as' (jA (jK ?_))))
  cases h
  exact aF Z Z Z
 refine jG (jI (oN mv (oC h (λ_=>zq _) Z Z Z Z λv5 _ h=>oN (Pt.ieq Z Z) (oN as' (jA (jK ?_))))))
 cases h
 exact aF Z Z Z
theorem yf (p:List (List Px)) (x:Py) (m:List ah) {q} (h:mr p x m=some q):au Tryz.prog 50 [eL (cL Px.c) p,.agg (Py.c x),eL ah.c m] (I q):=by
 refine pM Tryz.func50 Z (by kernel_rfl) Z (jI (oN (Pt.bxF [eL cI x.From,eL (cL cI) x.Order] Z Z Z) (oN as' (jA ?_))));obtain ⟨Ks1,es1,ws1,h,ks1⟩:=qB h;refine T.join (S:=Unit) (G:=Unit) (λs1=>Ks1 s1=some q) (λs1 gh=>True) (λs1 gh=>[]) (λs1 gh=>[]) (λs1 gh h hg=>?_) ?_
 ·clear ks1;subst es1;refine jI (oN as' (jA (jK ?_)))
  cases h
  exact aF Z Z Z
 refine jI (oN as' (jA (jE ?_)));refine T.lU h (λs4=>[(7,I s4),(4,.fp (Py.c x) 0),(0,eL (cL Px.c) p),(2,eL ah.c m)]) (λs4=>[]) (kw Z Z) (λs4 ws4 h=>?_);refine jH (jI (oN mv (oN mv (oN (Pt.lenL zU Z) (oN (Pt.ilt Z Z) (jA ?_))))));refine jN Z h (λq6 h=>?_) (λq6 h=>?_)
 ·refine jG (jH (jE (jH (jP (λ_=>([],false)) (by kernel_rfl) (by kernel_rfl) (fN Z mv (fN Z mv (jD h λg7 h=>fN Z (Pt.ixL zU Z Z g7 qD) (fN Z (fa Gy Z) (fN Z (lf (I ((J m s4).Kind)) PL Z) (fN Z mv (fN Z (lf (.agg (Py.c x)) pE Z) (fN Z mv (fN Z mv (fN Z (Pt.ixL zU Z Z g7 qD) ?_))))))))))))));refine fN Z (Pt.fafpS 3 Tryz.underlying65 Z (by kernel_rfl) Z Z (row2:=aa.c ((J m s4).Expr))) (fN Z (lf (.agg (aa.c ((J m s4).Expr))) xS Z) (fC h (λ_=>uj _ _ _) Z Z Z Z Z λv8 _ h=>fC h (λ_=>zt _ _) Z Z Z Z Z λv9 _ h=>fN Z (Pt.not Z) (jR ?_)));refine jN Z h (λq10 h=>?_) (λq10 h=>?_)
  ·refine jH (T.clean (H0:=[]) (e0:=ai [(7,I s4)]) Z (Ps Z Pq) (jC (oN mv (oN as' (jA (jK (lX h λh=>?_)))))));obtain rfl:=Pw h;replace h:=congrArg some (show _=_ from ks1)
   cases h
   exact aF Z Z Z
  refine jG (T.clean (H0:=[]) (e0:=ai [(7,I s4),(4,.fp (Py.c x) 0),(0,eL (cL Px.c) p),(2,eL ah.c m)]) Z (Ps Z (Ps Z (Ps Z (Ps Z Pq)))) (jC (oN mv (jW h λg11 h=>oN (Pt.add Z Z g11) (oN as' (jA ?_))))));exact lE h (kw Z Z)
 refine jM (lX h λh=>?_)
 cases h
 exact ⟨(),(),ks1,trivial,kw Z Z⟩
theorem zu:∀ (nf:Nat) (n:Int) {q} (h:gu nf n=some q),au Tryz.prog 51 [I n] (St q):=by
 intro nf
 induction nf with
 | zero=>intros;rename_i h;cases h
 | succ nf ih=>
  intro n q h;replace h:gq (gu nf) n=some q:=h;refine pM Tryz.func51 Z (by kernel_rfl) Z (jI (oN as' (jA (jH (jI (oN mv (oN (Pt.ilt Z Z) (jA ?_))))))));refine jN Z h (λq1 h=>?_) (λq1 h=>?_)
  ·refine jI (oN as' (jA (jK ?_)))
   cases h
   exact aF Z Z Z
  refine jG (jH (jI (oN mv (oN (Pt.ilt Z Z) (jA ?_)))));refine jN Z h (λq2 h=>?_) (λq2 h=>?_)
  ·refine jI (oN mv (jW h λg3 h=>oN (Pt.neg Z g3) (oC h (λ_=>ih _) Z Z Z Z λv4 _ h=>jD h λg5 h=>oN (Pt.cat Z Z g5) (oN as' (jA (jK ?_))))))
   cases h
   exact aF Z Z Z
  refine jG (jI (oN as' (jA ?_)));refine T.jU h (λs6=>[(3,St s6.1),(0,I s6.2)]) (λs6=>[]) (λs6 h=>?_) (λs6 h=>?_)
  ·refine jI (oN mv (jW h λg17 h=>oN (Pt.add Z Z g17) (jW h λg18 h=>oN (Pt.iconv PL.und Tryz.underlying5 Z g18) (oN (Pt.mkF (c:=cY) ([((48:Int)+s6.2)]:LI) [[Y ((48:Int)+s6.2)]] Md Z Z Z qD qD Z) (oA (EvA.b2s (l:=([((48:Int)+s6.2)]:LI)) Tryz.underlying123 Tryz.underlying5 Tryz.underlying9 (G9 Z) (bf.fz (l:=([((48:Int)+s6.2)]:LI)) Z qD)) (oN mv (jD h λg19 h=>oN (Pt.cat Z Z g19) (oN as' (jA (jK ?_))))))))))
   cases h
   exact aF Z Z Z
  refine jE ?_;refine T.lU h (λs9=>[(3,St s9.1),(0,I s9.2)]) (λs9=>[]) (kw Z Z) (λs9 ws9 h=>?_);refine jH (jI (oN mv (oN (Pt.igt Z Z) (jA ?_))));refine jN Z h (λq11 h=>?_) (λq11 h=>?_)
  ·refine jG (jE (jI (oN mv (jD h λg12 h=>oN (Pt.rem Z Z g12) (jW h λg13 h=>oN (Pt.add Z Z g13) (jW h λg14 h=>oN (Pt.iconv PL.und Tryz.underlying5 Z g14) (oN (Pt.mkF (c:=cY) ([((48:Int)+(s9.2.tmod (10:Int)))]:LI) [[Y ((48:Int)+(s9.2.tmod (10:Int)))]] Md Z Z Z qD qD Z) (oA (EvA.b2s (l:=([((48:Int)+(s9.2.tmod (10:Int)))]:LI)) Tryz.underlying123 Tryz.underlying5 Tryz.underlying9 (G9 Z) (bf.fz (l:=([((48:Int)+(s9.2.tmod (10:Int)))]:LI)) Z qD)) (oN mv (jD h λg15 h=>oN (Pt.cat Z Z g15) (oN as' ?_)))))))))));refine jA (jC (oN mv (jW h λg16 h=>oN (Pt.quo Z Z g12 g16) (oN as' (jA ?_)))));exact lE h (kw Z Z)
  refine jM (lX h λh=>?_)
  cases h
  exact ⟨(),trivial,kw Z Z⟩
theorem dW (n:Int) {q} (h:bD n=some q):au Tryz.prog 51 [I n] (St q):=by
 obtain ⟨nf,h⟩:=mb h;exact zu nf n h
theorem Bb (r_:LI) (from_:Int) {q} (h:pU r_ from_=some q):au Tryz.prog 99 [eL cI r_,I from_] (eL cI q):=by
 refine pM Tryz.func99 Z (by kernel_rfl) Z (jI (oN as' (jA (jI (oN mv (oN (Pt.mkF (c:=cI) ([from_]:LI) [[I from_]] aD Z Z Z qD qD Z) (oA (EvA.mkO (c:=(cL cI)) ([([from_]:LI)]:LL) [[eL cI ([from_]:LI)]] gT Z Z Z qD Z Z) (oN (Pt.asg (hS false 0 0 1 (([([from_]:LI)]:LL).length)) Z) (jA (jI (oN as' (jA ?_))))))))))));obtain ⟨Ks1,es1,ws1,h,ks1⟩:=qB h;refine T.join (S:=(LL)) (G:=Nat) (λs1=>Ks1 s1=some q) (λs1 gh=>True) (λs1 gh=>[]) (λs1 gh=>[bE false gh 1 23 (s1.map (cL cI))]) (λs1 u37 h hg=>?_) ?_
 ·clear ks1;subst es1;refine jI (oN (Pt.mkF (c:=cI) ([]:LI) [] aD Z Z Z qD qD Z) (oN as' (jA (jK ?_))))
  cases h
  exact aF Z Z Z
 refine jI (oN as' (jA (jE ?_)));refine jO (S:=(LL)×Int×Int) (G:=Nat) (oJ r_ from_) (λs5 gh=>True) (λs5 gh=>[(7,I s5.2.1),(6,I s5.2.2),(5,hS false 0 gh 1 s5.1.length),(0,eL cI r_),(1,I from_)]) (λs5 gh=>[bE false gh 1 23 (s5.1.map (cL cI))]) (s0:=(([([from_]:LI)]:LL),U,U)) 0 h trivial (kw Z Z) (λs5 u7 ws5 h hg=>?_);let d0:=s5.1.getD s5.2.1.toNat default;refine jH (jI (oN mv (oN mv (oN (Pt.lenO (g:=false) gT Z nofun) (oN (Pt.ilt Z Z) (jA ?_))))));refine jN Z h (λq8 h=>?_) (λq8 h=>?_)
 ·refine jG ?_;obtain ⟨Ks9,es9,ws9,h,ks9⟩:=qB h;refine T.join (S:=(LL)×Int) (G:=Nat) (λs9=>Ks9 s9=some ws5) (λs9 gh=>True) (λs9 gh=>[(7,I s5.2.1),(6,I s9.2),(5,hS false 0 gh 1 s9.1.length),(0,eL cI r_),(1,I from_)]) (λs9 gh=>[bE false gh 1 23 (s9.1.map (cL cI))]) (λs9 u35 h hg=>?_) ?_
  ·clear ks9;subst es9;refine jC (oN mv (jW h λg36 h=>oN (Pt.add Z Z g36) (oN as' (jA ?_))));obtain rfl:=Pw h;exact ⟨(s9.1,(s5.2.1+V),s9.2),u35,Z,trivial,kw Z Z⟩
  refine jE (jH (jP (dG [dF,dF,dF,([0],false),dF,dF,dF,([0],false),dF,dF,dF,dF,dF]) (by kernel_rfl) (by kernel_rfl) (fN Z mv (fN Z mv (jD h λg10 h=>fN Z (Pt.ixO (g:=false) gT Z Z nofun g10) (fR [0] Z (λG hG=>EvA.ldO (g:=false) (l:=s5.1) (eL cI d0) mZ Z (hG.a0 Z) nofun (aH Z g10) Z) (fN Z mv (fN Z mv (fN Z (Pt.ixO (g:=false) gT Z Z nofun g10) (fR [0] Z (λG hG=>EvA.ldO (g:=false) (l:=s5.1) (eL cI d0) mZ Z (hG.a0 Z) nofun (aH Z g10) Z) (fN Z (Pt.lenL aD Z) (jW h λg11 h=>fN Z (Pt.sub Z Z g11) (jD h λg12 h=>?_)))))))))))));refine fN Z (Pt.ixL aD Z Z g12 qD) (fN Z (lf (I (J d0 ((d0.length:Int)-V))) PL Z) (fN Z as' (jR (jH (jH (T.clean (H0:=[bE false u7 1 23 (s5.1.map (cL cI))]) (e0:=ai [(8,I (J d0 ((d0.length:Int)-V))),(7,I s5.2.1),(6,I s5.2.2),(5,hS false 0 u7 1 s5.1.length),(0,eL cI r_),(1,I from_)]) Z (Ps Z (Ps Z (Ps Z (Ps Z (Ps Z (Ps Z Pq)))))) (jC (oN mv (oN mv (oN mv (oC h (λ_=>fP _ _ _) Z Z Z Z λv13 _ h=>jA ?_)))))))))));refine jN Z h (λq14 h=>?_) (λq14 h=>?_)
  ·refine jI (oN mv (oN mv (oN (Pt.ixO (g:=false) gT Z Z nofun g10) (oA (EvA.ldO (g:=false) (l:=s5.1) (eL cI d0) mZ Z Z nofun (aH Z g10) Z) (oN as' (jA (jK ?_)))))));obtain rfl:=Pw h;replace h:=congrArg some (show _=_ from ks9);refine lX h λh=>?_;obtain rfl:=Pw h;replace h:=congrArg some (show _=_ from ks1)
   cases h
   exact aF Z Z Z
  refine jG (jI (oN as' (jA (jE ?_))));refine jO (S:=(LL)×Int×Int) (G:=Nat) (jY r_ s5) (λs18 gh=>True) (λs18 gh=>[(9,I s18.2.1),(8,I (J d0 ((d0.length:Int)-V))),(7,I s5.2.1),(6,I s18.2.2),(5,hS false 0 gh 1 s18.1.length),(0,eL cI r_),(1,I from_)]) (λs18 gh=>[bE false gh 1 23 (s18.1.map (cL cI))]) (s0:=(s5.1,U,s5.2.2)) u7 h trivial (kw Z Z) (λs18 u20 ws18 h hg=>?_);let d1:=s18.1.getD s5.2.1.toNat default;refine jH (jI (oN mv (oN mv (oN (Pt.lenL aD Z) (oN (Pt.ilt Z Z) (jA ?_))))));refine jN Z h (λq21 h=>?_) (λq21 h=>?_)
  ·refine jG ?_;refine T.jF (G:=Nat) h (λs22 gh=>True) (λs22 gh=>[(5,hS false 0 gh 1 s22.1.length),(6,I s22.2),(9,I s18.2.1),(8,I (J d0 ((d0.length:Int)-V))),(7,I s5.2.1),(0,eL cI r_),(1,I from_)]) (λs22 gh=>[bE false gh 1 23 (s22.1.map (cL cI))]) (λs22 u33 h hg=>?_) (λs22 h=>?_)
   ·refine jC (oN mv (jW h λg34 h=>oN (Pt.add Z Z g34) (oN as' (jA ?_))));obtain rfl:=Pw h;exact ⟨(s22.1,(s18.2.1+V),s22.2),u33,Z,trivial,kw Z Z⟩
   refine jE (jI (oN mv (oN mv (oN mv (oC h (λ_=>fP _ _ _) Z Z Z Z λv23 _ h=>oN mv ?_)))));refine TO.jB h 6 (λs24=>[(55,Bo s24),(9,I s18.2.1),(8,I (J d0 ((d0.length:Int)-V))),(7,I s5.2.1),(6,I s18.2.2),(5,hS false 0 u20 1 s18.1.length),(0,eL cI r_),(1,I from_)]) (λs24=>[bE false u20 1 23 (s18.1.map (cL cI))]) (λs24 q25 h js24=>?_) (λs24 q25 h js24=>?_) (λs24 h=>?_)
   ·refine gN Z q25 mv (gN Z q25 mv (jD h λg26 h=>gN Z q25 (Pt.shr Z Z g26) (gN Z q25 (Pt.band Z Z) (gN Z q25 (Pt.ieq Z Z) (oN (Pt.pickT Z q25 (Bo ((eF .i64 (jw .i64 s18.2.2 s18.2.1) V)==U)) Z) ?_)))))
    cases h
    exact js24 _ _ (kw Z Z)
   ·refine gS Z q25 (gS Z q25 (gS Z q25 (gS Z q25 (gS Z q25 (oN (Pt.pickF Z q25 (Bo false) Z) ?_)))))
    cases h
    exact js24 _ _ (kw Z Z)
   refine jA ?_;refine jN Z h (λq27 h=>?_) (λq27 h=>?_)
   ·refine jI (oN mv (oN mv (jD h λg28 h=>oN (Pt.shl Z Z g28) (oN (Pt.bor Z Z) (oN as' (jA (jC (oN mv (oA (EvA.mkO (c:=cI) ([]:LI) [] aD Z Z Z qD Z Z) (oN mv (oN mv (jD h λg29 h=>oN (Pt.ixO (g:=false) gT Z Z nofun g29) (oA (EvA.ldO (g:=false) (l:=s18.1) (eL cI d1) mZ Z Z nofun (aH Z g29) Z) ?_)))))))))))));refine jL h λg30 h=>oA (EvA.appF (l:=([]:LI)) d1 aD (by kernel_rfl) Z Z Z (bf.fz (l:=d1) Z qD) g30) (oN mv (oN (Pt.mkF (c:=cI) ([s18.2.1]:LI) [[I s18.2.1]] aD Z Z Z qD qD Z) (jL h λg31 h=>oA (EvA.app1 (g:=false) (l:=(([]:LI)++d1)) s18.2.1 aD (by kernel_rfl) Z Z Z nofun (bf.fz (l:=([s18.2.1]:LI)) Z qD) g31) (oA (EvA.mkR [[hS false 1 ((0+1)+1) 1 (((([]:LI)++d1)++[s18.2.1]).length)]] gT Z Z Z Z) (jL h λg32 h=>oA (EvA.appR (g:=false) (rows:=s18.1.map (cL cI)) (rows':=s18.1.map (cL cI)++[[hS false 1 ((0+1)+1) 1 (((([]:LI)++d1)++[s18.2.1]).length)]]) (n':=s18.1.length+1) gT (by kernel_rfl) Z Z (by simp) nofun (bf.raw (rows:=[[hS false 1 ((0+1)+1) 1 (((([]:LI)++d1)++[s18.2.1]).length)]]) Z Z Z) g32 Z Z) (oN (Pt.asg (hS false 0 (u20+1) 1 (s18.1.length+1)) Z) (jA ?_)))))));obtain rfl:=Pw h;exact ⟨u20+1,trivial,ow Z (.cons (.snoc qD (.cons (.cons (.fz (Fz.own (g:=false) (ver:=(0+1)+1) (l:=((([]:LI)++d1)++[s18.2.1])) Z Z Z nofun qD)) .nil) .nil)) .nil) (ae (.eqv (congrArg (hS false 0 (u20+1) 1) (by simp:(s18.1.length+1)=(s18.1++[((([]:LI)++d1)++[s18.2.1])]).length)) (.hS (g:=false) (b:=0) (ver:=u20+1) (s:=1) (n:=(s18.1++[((([]:LI)++d1)++[s18.2.1])]).length) Z)) (ae (.fz (qC Z)) (ae (.fz (qC Z)) (ae (.fz (qC Z)) (ae (.fz (qC Z)) (ae (.fz (qC Z)) (ae (.fz (qC Z)) aN)))))))⟩
   refine jG ?_
   cases h
   exact ⟨u20,trivial,kw Z Z⟩
  refine jM (lX h λh=>?_);obtain rfl:=Pw h;exact ⟨(s18.1,s18.2.2),u20,ks9,trivial,kw Z Z⟩
 refine jM (lX h λh=>?_);obtain rfl:=Pw h;exact ⟨s5.1,u7,ks1,trivial,kw Z Z⟩
end
end Go.Proofs.YtpkhamajimidnaaGreatDoor
