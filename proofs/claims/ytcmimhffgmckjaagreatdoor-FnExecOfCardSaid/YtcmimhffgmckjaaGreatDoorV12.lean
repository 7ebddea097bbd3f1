/- Texts joined. No conditions. -/
import Derived.Test.YtcmimhffgmckjaaGreatDoorV11
namespace Go.Proofs.YtcmimhffgmckjaaGreatDoor
noncomputable section
open Go.RowKit
set_option maxRecDepth 100000
theorem zO (p:List (List Mh)) (schedule:LI) {q:Mi×Bool} (h:lT p schedule=some q):aA Tryz.prog 9 [eL (cL Mh.c) p,eL cI schedule] (.tup [.agg (Mi.c q.1),Bo q.2]):=by
 refine pM Tryz.func9 Z (by kernel_rfl) Z (jI (oA (EvA.al EY Z Z) (oN as' (jA (jH (jI (oN mv (oN mv (oC h (fun _=>oQ _ _) Z Z Z Z fun v1 _ h=>oN mv (oN (Mc.ext (eL cI v1.1) Z Z) (oN (Mc.ext (Bo v1.2) Z Z) (oN as' (oN as' (jA ?_))))))))))))));refine jI (oN mv (oN (Mc.not Z) (jA ?_)));refine jN Z h (fun q2 h=>?_) (fun q2 h=>?_)
 ·refine jI (oN (Mc.build [.nil,.nil] Tryz.underlying29 EY wI Z Z) (oV (sr [.nil,.nil] tG Z Z Z Z) (oN as' (jA (jK ?_)))));obtain rfl:=Mg h
  repeat (first|refine cn ?_|refine cu ?_)
  exact jQ (vs:=[.agg [.nil,.nil],Bo false]) (.cons (.cell (.agg [.nil,.nil]) tG Z Z Z Z Z Z) (.cons (.tmp Z) .nil)) (.tupL (.cons (Fz.aggL (.cons (.nil0) (.cons (.nil0) .nil))) (.cons (qC Z) .nil)))
 ·refine jG (jI (oN mv (oN mv (oC h (fun _=>zN _ _) Z Z Z Z fun v3 _ h=>oV (sr (Mi.c v3) tG Z Z Z Z) (oN as' (jA (jK ?_)))))));obtain rfl:=Mg h
  repeat (first|refine cn ?_|refine cu ?_)
  exact jQ (vs:=[.agg (Mi.c v3),Bo true]) (.cons (.cell (.agg (Mi.c v3)) tG Z Z Z Z Z Z) (.cons (.tmp Z) .nil)) (.tupL (.cons (qC Z) (.cons (qC Z) .nil)))
theorem yu (p:List (List Mh)) (mP:Int) {q:Mk} (h:fP p mP=some q):aA Tryz.prog 84 [eL (cL Mh.c) p,I mP] (.agg (Mk.c q)):=by
 refine pM Tryz.func84 Z (by kernel_rfl) Z (jI (oA (EvA.al BG Z Z) (jA (jH (T.reserve (jP (dG [dF,dF,dF,dF,dF,dF,dF,dF,dF,([1],true),([1],true)]) (by kernel_rfl) (by kernel_rfl) (fN Z mv (fN Z (Mc.lenL lF Z) (jD h fun g1 h=>fN Z (Mc.msF (c:=cI) (default:Int) bf Z Z g1 Z Z qD) (fN Z mv (fN Z (Mc.lenL lF Z) (jW h fun g2 h=>fN Z (Mc.mul Z Z g2) (jD h fun g3 h=>?_)))))))))))));refine fN Z (Mc.msF (c:=cI) (default:Int) bf Z Z g3 Z Z qD) (jD h fun g4 h=>fN Z (Mc.msF (c:=cI) (default:Int) bf Z Z g4 Z Z qD) (fN Z (Mc.build [eL cI (List.replicate (p.length:Int).toNat (default:Int)),eL cI (List.replicate ((p.length:Int)*(3:Int)).toNat (default:Int)),eL cI (List.replicate (3:Int).toNat (default:Int)),.nil] Tryz.underlying103 BG tH Z Z) (fW 1 [] Z Z (fun G hG=>EvA.alR 1 BG Z Z (hG.a0 Z)) (fV 1 [] Z Z (fun G hG=>EvA.st (cs:=[eL cI (List.replicate (p.length:Int).toNat (default:Int)),eL cI (List.replicate ((p.length:Int)*(3:Int)).toNat (default:Int)),eL cI (List.replicate (3:Int).toNat (default:Int)),.nil]) ⟨0,4,103,[[eL cI (List.replicate (p.length:Int).toNat (default:Int)),eL cI (List.replicate ((p.length:Int)*(3:Int)).toNat (default:Int)),eL cI (List.replicate (3:Int).toNat (default:Int)),.nil]]⟩ sF Z Z (hG.a0 Z) Z Z Z Z Z Z) (jR (jI (oN mv (jD h fun g5 h=>oN (Mc.msZ (f:=cI) xE Z Z g5 Z) (oN (fa tH Z) (oV (sr [eL cI (List.replicate (p.length:Int).toNat (default:Int)),eL cI (List.replicate ((p.length:Int)*(3:Int)).toNat (default:Int)),eL cI (List.replicate (3:Int).toNat (default:Int)),eL (cL cI) (List.replicate mP.toNat ([]:LI))] Dx Z Z Z Z) (jA (jI (oA (lh (.agg [eL cI (List.replicate (p.length:Int).toNat (default:Int)),eL cI (List.replicate ((p.length:Int)*(3:Int)).toNat (default:Int)),eL cI (List.replicate (3:Int).toNat (default:Int)),eL (cL cI) (List.replicate mP.toNat ([]:LI))]) sF Z Z Z) ?_)))))))))))));refine oV (sr [eL cI (List.replicate (p.length:Int).toNat (default:Int)),eL cI (List.replicate ((p.length:Int)*(3:Int)).toNat (default:Int)),eL cI (List.replicate (3:Int).toNat (default:Int)),eL (cL cI) (List.replicate mP.toNat ([]:LI))] sF Z Z Z Z) (jA (jK ?_));obtain rfl:=Mg h
 repeat (first|refine cn ?_|refine cu ?_)
 exact jQ (vs:=[.agg [eL cI (List.replicate (p.length:Int).toNat (default:Int)),eL cI (List.replicate ((p.length:Int)*(3:Int)).toNat (default:Int)),eL cI (List.replicate (3:Int).toNat (default:Int)),eL (cL cI) (List.replicate mP.toNat ([]:LI))]]) (.cons (.cell (.agg [eL cI (List.replicate (p.length:Int).toNat (default:Int)),eL cI (List.replicate ((p.length:Int)*(3:Int)).toNat (default:Int)),eL cI (List.replicate (3:Int).toNat (default:Int)),eL (cL cI) (List.replicate mP.toNat ([]:LI))]) sF Z Z Z Z Z Z) .nil) (qC Z)
theorem yw (s:Mk) {q:Mk} (h:o5 s=some q):dz Tryz.prog 147 [.agg (Mk.c s)] [] (.agg [hS false 0 (0+1) 1 q.at_.length,hS false 1 (0+1) 1 q.regs.length,hS false 2 (0+1) 1 q.mem.length,.nil]) [bE false (0+1) 1 3 (q.at_.map cI),bE false (0+1) 1 3 (q.regs.map cI),bE false (0+1) 1 3 (q.mem.map cI)]:=by
 refine dz.mkOS Tryz.func147 rfl (by kernel_rfl) rfl (by kernel_rfl) (e0:=au [(0,.agg (Mk.c s))]) (Mb rfl Ma) (jI (oN (Mc.bxF [eL cI s.at_,eL cI s.regs,eL cI s.mem,eL (cL cI) s.buf] rfl rfl rfl) (oA (EvA.al BG rfl rfl) (jA (jH (T.reserve (T.reserve (T.reserve (T.reserve (jP (dG [([1],true),dF,dF,([1],true),([2],true),dF,dF,([2],true),([3],true),dF,dF,([3],true),dF,([4],true),([4],true)]) (by kernel_rfl) (by kernel_rfl) (fW 1 [] rfl rfl (fun G hG=>EvA.mkOR (c:=cI) 1 ([]:LI) [] bf rfl rfl rfl (fun _=>rfl) (fun _=>rfl) rfl (hG.a0 rfl)) (fN rfl (fa tH rfl) (fN rfl (lf (eL cI s.at_) oH rfl) (jL h fun g1 h=>fW 1 [] rfl rfl (fun G hG=>EvA.appF (l:=([]:LI)) s.at_ bf (by kernel_rfl) rfl rfl (hG.a0 rfl) (bG.fz (l:=s.at_) rfl (fun _=>rfl)) g1) ?_))))))))))))));refine fW 2 [] rfl rfl (fun G hG=>EvA.mkOR (c:=cI) 2 ([]:LI) [] bf rfl rfl rfl (fun _=>rfl) (fun _=>rfl) rfl (hG.a0 rfl)) (fN rfl (fa tH rfl) (fN rfl (lf (eL cI s.regs) oH rfl) (jL h fun g2 h=>fW 2 [] rfl rfl (fun G hG=>EvA.appF (l:=([]:LI)) s.regs bf (by kernel_rfl) rfl rfl (hG.a0 rfl) (bG.fz (l:=s.regs) rfl (fun _=>rfl)) g2) (fW 3 [] rfl rfl (fun G hG=>EvA.mkOR (c:=cI) 3 ([]:LI) [] bf rfl rfl rfl (fun _=>rfl) (fun _=>rfl) rfl (hG.a0 rfl)) (fN rfl (fa tH rfl) (fN rfl (lf (eL cI s.mem) oH rfl) (jL h fun g3 h=>fW 3 [] rfl rfl (fun G hG=>EvA.appF (l:=([]:LI)) s.mem bf (by kernel_rfl) rfl rfl (hG.a0 rfl) (bG.fz (l:=s.mem) rfl (fun _=>rfl)) g3) (fN rfl (Mc.build [hS false 1 (0+1) 1 ((([]:LI)++s.at_).length),hS false 2 (0+1) 1 ((([]:LI)++s.regs).length),hS false 3 (0+1) 1 ((([]:LI)++s.mem).length),.nil] Tryz.underlying103 BG tH rfl rfl) (fW 4 [] rfl rfl (fun G hG=>EvA.alR 4 BG rfl rfl (hG.a0 rfl)) (fV 4 [] rfl rfl (fun G hG=>EvA.st (cs:=[hS false 1 (0+1) 1 ((([]:LI)++s.at_).length),hS false 2 (0+1) 1 ((([]:LI)++s.regs).length),hS false 3 (0+1) 1 ((([]:LI)++s.mem).length),.nil]) ⟨0,4,103,[[hS false 1 (0+1) 1 ((([]:LI)++s.at_).length),hS false 2 (0+1) 1 ((([]:LI)++s.regs).length),hS false 3 (0+1) 1 ((([]:LI)++s.mem).length),.nil]]⟩ sF rfl rfl (hG.a0 rfl) rfl rfl rfl rfl rfl rfl) (jR ?_)))))))))));refine T.jU h (fun s4=>[(3,.hp 4 0 4 0 0),(2,.hp 0 0 4 0 0)]) (fun s4=>[some ⟨0,4,103,[[.nil,.nil,.nil,.nil]]⟩,bE false (0+1) 1 3 ((([]:LI)++s.at_).map cI),bE false (0+1) 1 3 ((([]:LI)++s.regs).map cI),bE false (0+1) 1 3 ((([]:LI)++s.mem).map cI),some ⟨0,4,103,[[hS false 1 (0+1) 1 ((([]:LI)++s.at_).length),hS false 2 (0+1) 1 ((([]:LI)++s.regs).length),hS false 3 (0+1) 1 ((([]:LI)++s.mem).length),.nil]]⟩]) (fun s4 h=>?_) (fun s4 h=>?_)
 ·refine jI (oA (lh (.agg [hS false 1 (0+1) 1 ((([]:LI)++s.at_).length),hS false 2 (0+1) 1 ((([]:LI)++s.regs).length),hS false 3 (0+1) 1 ((([]:LI)++s.mem).length),.nil]) sF rfl rfl rfl) (oV (sr [hS false 1 (0+1) 1 ((([]:LI)++s.at_).length),hS false 2 (0+1) 1 ((([]:LI)++s.regs).length),hS false 3 (0+1) 1 ((([]:LI)++s.mem).length),.nil] sF rfl rfl rfl rfl) (jA (jK ?_))));obtain rfl:=Mg h
  repeat (first|refine cn ?_|refine cu ?_)
  exact jQ (vs:=[.agg [hS false 1 (0+1) 1 ((([]:LI)++s.at_).length),hS false 2 (0+1) 1 ((([]:LI)++s.regs).length),hS false 3 (0+1) 1 ((([]:LI)++s.mem).length),.nil]]) (.cons (.cell (.agg [hS false 1 (0+1) 1 ((([]:LI)++s.at_).length),hS false 2 (0+1) 1 ((([]:LI)++s.regs).length),hS false 3 (0+1) 1 ((([]:LI)++s.mem).length),.nil]) sF rfl rfl rfl rfl rfl rfl) .nil) ⟨[1,2,3],OSQ.mk (by decide) (.cons rfl (mZ (fun _=>rfl)) (.cons rfl (mZ (fun _=>rfl)) (.cons rfl (mZ (fun _=>rfl)) .nil))) (Ren.aggL (.cons (FO rfl) (.cons (FO rfl) (.cons (FO rfl) (.cons (.pF rfl) .nil)))))⟩
 ·refine jI (oN as' (jA (jE ?_)));refine T.lU h (fun s6=>[(4,I (0:Int)),(3,.hp 4 0 4 0 0),(2,.hp 0 0 4 0 0),(1,.fp (Mk.c s) 0)]) (fun s6=>[some ⟨0,4,103,[[.nil,.nil,.nil,.nil]]⟩,bE false (0+1) 1 3 ((([]:LI)++s.at_).map cI),bE false (0+1) 1 3 ((([]:LI)++s.regs).map cI),bE false (0+1) 1 3 ((([]:LI)++s.mem).map cI),some ⟨0,4,103,[[hS false 1 (0+1) 1 ((([]:LI)++s.at_).length),hS false 2 (0+1) 1 ((([]:LI)++s.regs).length),hS false 3 (0+1) 1 ((([]:LI)++s.mem).length),.nil]]⟩]) (kw rfl rfl) (fun s6 ws6 h=>?_);refine jH (jI (oN mv (oN (fa tH rfl) (oN (lf (eL (cL cI) s.buf) Dx rfl) (oN (Mc.lenL xE rfl) (oN (Mc.ilt rfl rfl) (jA ?_)))))));refine jN rfl h (fun q8 h=>?_) (fun q8 h=>?_)
  ·cases h
  ·refine jM (lX h fun h=>?_);exact ⟨(),trivial,kw rfl rfl⟩
theorem uZ (t:Int) (reg:Int) {q:Int} (h:nM t reg=some q):aA Tryz.prog 149 [I t,I reg] (I q):=by
 refine pM Tryz.func149 Z (by kernel_rfl) Z (jI (oN as' (jA (jI (oN mv (jW h fun g1 h=>oN (Mc.mul Z Z g1) (oN mv (jW h fun g2 h=>oN (Mc.add Z Z g2) (oN as' (jA (jK ?_)))))))))))
 cases h
 exact bP Z Z Z
theorem yx (s:Mk) (t:Int) (x:Mh) {q:Int} (h:qJ s t x=some q):aA Tryz.prog 151 [.agg (Mk.c s),I t,.agg (Mh.c x)] (I q):=by
 refine pM Tryz.func151 Z (by kernel_rfl) Z (jI (oN (Mc.bxF [eL cI s.at_,eL cI s.regs,eL cI s.mem,eL (cL cI) s.buf] Z Z Z) (oN (Mc.bxF [I x.Op,I x.Loc,I x.Reg,I x.Val] Z Z Z) (oN as' (jA (jH (jI (oN (fa nE Z) (oN (lf (I x.Op) Mx Z) (oN (Mc.ieq Z Z) (jA ?_)))))))))));refine jN Z h (fun q1 h=>?_) (fun q1 h=>?_)
 ·refine jH (jP (fun _=>([],false)) (by kernel_rfl) (by kernel_rfl) (fN Z (fa tH Z) (fN Z (lf (eL cI s.regs) oH Z) (fN Z mv (fN Z (fa nE Z) (fN Z (lf (I x.Reg) Mx Z) (fC h (fun _=>uZ _ _) Z Z Z Z Z fun v2 _ h=>jD h fun g3 h=>fN Z (Mc.ixL bf Z Z g3 qD) (fN Z (lf (I (J s.regs v2)) Mx Z) (fN Z as' (jR (jK ?_)))))))))))
  cases h
  exact bP Z Z Z
 ·refine jG (jI (oN (fa nE Z) (oN (lf (I x.Val) Mx Z) (oN as' (jA (jK ?_))))))
  cases h
  exact bP Z Z Z
set_option maxHeartbeats 4000000 in
theorem BL (p:List (List Mh)) (s:Mk) (t:Int) {q:Mk} (h:rX p s t=some q):aA Tryz.prog 85 [eL (cL Mh.c) p,.agg (Mk.c s),I t] (.agg (Mk.c q)):=by
 refine pM Tryz.func85 Z (by kernel_rfl) Z (jI (oN (Mc.bxF [eL cI s.at_,eL cI s.regs,eL cI s.mem,eL (cL cI) s.buf] Z Z Z) (oA (EvA.al BG Z Z) (jA (jI (oN (lf (.agg (Mk.c s)) sF Z) (jB h fun v1 cv1 h=>oA (EvA.call Z Z Z ((yw s cv1).freshL Z (RowsF.spec (.cons (mZ qD) (.cons (mZ qD) (.cons (mZ qD) .nil)))) 1 Z (Ren.aggL (.cons (FN Z) (.cons (FN Z) (.cons (FN Z) (.cons (.pF Z) .nil))))))) (oA (EvA.al BG Z Z) (oV (sr [hS false 1 (0+1) 1 v1.at_.length,hS false 2 (0+1) 1 v1.regs.length,hS false 3 (0+1) 1 v1.mem.length,.nil] sF Z Z Z Z) (jA (jH (T.reserve (jP (dG [dF,dF,dF,dF,dF,dF,dF,dF,dF,dF,dF,([5],true),([5],true)]) (by kernel_rfl) (by kernel_rfl) (fN Z mv ?_))))))))))))));refine fN Z mv (jD h fun g2 h=>fN Z (Mc.ixL lF Z Z g2 qD) (fN Z (lf (eL Mh.c (J p t)) xC Z) (fN Z (fa tH Z) (fN Z (lf (eL cI s.at_) oH Z) (fN Z mv (jD h fun g3 h=>fN Z (Mc.ixL bf Z Z g3 qD) (fN Z (lf (I (J s.at_ t)) Mx Z) (jD h fun g4 h=>fN Z (Mc.ixL sG Z Z g4 qD) (fN Z (lf (.agg (Mh.c (J (J p t) (J s.at_ t)))) nD Z) (fW 5 [] Z Z (fun G hG=>EvA.alR 5 xD Z Z (hG.a0 Z)) (fV 5 [] Z Z (fun G hG=>EvA.st (cs:=(Mh.c (J (J p t) (J s.at_ t)))) ⟨0,4,97,[(Mh.c (J (J p t) (J s.at_ t)))]⟩ nD Z Z (hG.a0 Z) Z Z Z Z Z Z) (jR ?_))))))))))));refine jH (jP (dG [dF,([4],false),dF,dF,dF,dF,dF,dF,dF,dF,([1],true)]) (by kernel_rfl) (by kernel_rfl) (fN Z (fa tH Z) (fR [4] Z (fun G hG=>EvA.loadhp (hS false 1 (0+1) 1 v1.at_.length) oH Z (hG.a0 Z) Z Z Z Z) (fN Z mv (fN Z (fa tH Z) (fN Z (lf (eL cI s.at_) oH Z) (fN Z mv (fN Z (Mc.ixL bf Z Z g3 qD) (fN Z (lf (I (J s.at_ t)) Mx Z) (jW h fun g5 h=>fN Z (Mc.add Z Z g5) (jD h fun g6 h=>fN Z (Mc.ixO (g:=false) bf Z Z nofun g6) (fV 1 [] Z Z (fun G hG=>EvA.stO (g:=false) (l:=v1.at_) (cs:=[I ((J s.at_ t)+V)]) ((J s.at_ t)+V) Mx Z Z (hG.a0 Z) nofun (ay Z g6) Z Z Z) (jR ?_)))))))))))));refine T.jF (G:=Nat) h (fun s7 gh=>True) (fun s7 gh=>[(8,.hp 5 0 4 0 0),(7,.hp 4 0 4 0 0),(6,.hp 0 0 4 0 0),(4,.fp (Mk.c s) 0),(2,I t)]) (fun s7 gh=>[some ⟨0,4,103,[[.nil,.nil,.nil,.nil]]⟩,bE false (0+1) 1 3 ((v1.at_.set t.toNat ((J s.at_ t)+V)).map cI),bE false gh 1 3 (s7.map cI),bE false (0+1) 1 3 (v1.mem.map cI),some ⟨0,4,103,[[hS false 1 (0+1) 1 ((v1.at_.set t.toNat ((J s.at_ t)+V)).length),hS false 2 gh 1 s7.length,hS false 3 (0+1) 1 v1.mem.length,.nil]]⟩,some ⟨0,4,97,[(Mh.c (J (J p t) (J s.at_ t)))]⟩]) (fun s7 u13 h hg=>?_) (fun s7 h=>?_)
 ·refine T.jF (G:=Nat) h (fun s14 gh=>True) (fun s14 gh=>[(7,.hp 4 0 4 0 0),(6,.hp 0 0 4 0 0)]) (fun s14 gh=>[some ⟨0,4,103,[[.nil,.nil,.nil,.nil]]⟩,bE false (0+1) 1 3 ((v1.at_.set t.toNat ((J s.at_ t)+V)).map cI),bE false u13 1 3 (s7.map cI),bE false gh 1 3 (s14.map cI),some ⟨0,4,103,[[hS false 1 (0+1) 1 ((v1.at_.set t.toNat ((J s.at_ t)+V)).length),hS false 2 u13 1 s7.length,hS false 3 gh 1 s14.length,.nil]]⟩,some ⟨0,4,97,[(Mh.c (J (J p t) (J s.at_ t)))]⟩]) (fun s14 u19 h hg=>?_) (fun s14 h=>?_)
  ·refine jI (oA (lh (.agg [hS false 1 (0+1) 1 ((v1.at_.set t.toNat ((J s.at_ t)+V)).length),hS false 2 u13 1 s7.length,hS false 3 u19 1 s14.length,.nil]) sF Z Z Z) (oV (sr [hS false 1 (0+1) 1 ((v1.at_.set t.toNat ((J s.at_ t)+V)).length),hS false 2 u13 1 s7.length,hS false 3 u19 1 s14.length,.nil] sF Z Z Z Z) (jA (jK ?_))));obtain rfl:=Mg h
   repeat (first|refine cn ?_|refine cu ?_)
   exact jQ (vs:=[.agg [hS false 1 (0+1) 1 ((v1.at_.set t.toNat ((J s.at_ t)+V)).length),hS false 2 u13 1 s7.length,hS false 3 u19 1 s14.length,.nil]]) (.cons (.cell (.agg [hS false 1 (0+1) 1 ((v1.at_.set t.toNat ((J s.at_ t)+V)).length),hS false 2 u13 1 s7.length,hS false 3 u19 1 s14.length,.nil]) sF Z Z Z Z Z Z) .nil) (Fz.aggL (.cons (Fz.own (g:=false) (ver:=0+1) (l:=(v1.at_.set t.toNat ((J s.at_ t)+V))) Z Z Z nofun qD) (.cons (Fz.own (g:=false) (ver:=u13) (l:=s7) Z Z Z nofun qD) (.cons (Fz.own (g:=false) (ver:=u19) (l:=s14) Z Z Z nofun qD) (.cons (.nil0) .nil)))))
  ·refine jI (oA (lh (.agg (Mh.c (J (J p t) (J s.at_ t)))) nD Z Z Z) (oC h (fun _=>rG _) Z Z Z Z fun v15 _ h=>jA ?_));refine jN Z h (fun q16 h=>?_) (fun q16 h=>?_)
   ·refine jP (dG [dF,([4],false),dF,([5],false),dF,dF,([5],false),dF,dF,([3],true)]) (by kernel_rfl) (by kernel_rfl) (fN Z (fa tH Z) (fR [4] Z (fun G hG=>EvA.loadhp (hS false 3 (0+1) 1 v1.mem.length) oH Z (hG.a0 Z) Z Z Z Z) (fN Z (fa nE Z) (fR [5] Z (fun G hG=>EvA.loadhp (I ((J (J p t) (J s.at_ t)).Loc)) Mx Z (hG.a0 Z) Z Z Z Z) (fN Z (lf (.agg (Mk.c s)) sF Z) (fN Z mv (fR [5] Z (fun G hG=>EvA.loadhp (.agg (Mh.c (J (J p t) (J s.at_ t)))) nD Z (hG.a0 Z) Z Z Z Z) (fC h (fun _=>yx _ _ _) Z Z Z Z Z fun v17 _ h=>jD h fun g18 h=>fN Z (Mc.ixO (g:=false) bf Z Z nofun g18) (fV 3 [] Z Z (fun G hG=>EvA.stO (g:=false) (l:=v1.mem) (cs:=[I v17]) v17 Mx Z Z (hG.a0 Z) nofun (ay Z g18) Z Z Z) (jR ?_))))))))))
    cases h
    exact ⟨0+1,trivial,kw (by first | (simp only [List.length_set] <;> rfl) | simp only [lla,List.length_singleton,llc,List.length_nil,List.length_set]) Z⟩
   ·refine jG ?_
    cases h
    exact ⟨0+1,trivial,kw Z Z⟩
 ·refine jH (T.clean (H0:=[some ⟨0,4,103,[[.nil,.nil,.nil,.nil]]⟩,bE false (0+1) 1 3 ((v1.at_.set t.toNat ((J s.at_ t)+V)).map cI),bE false (0+1) 1 3 (v1.regs.map cI),bE false (0+1) 1 3 (v1.mem.map cI),some ⟨0,4,103,[[hS false 1 (0+1) 1 v1.at_.length,hS false 2 (0+1) 1 v1.regs.length,hS false 3 (0+1) 1 v1.mem.length,.nil]]⟩,some ⟨0,4,97,[(Mh.c (J (J p t) (J s.at_ t)))]⟩]) (e0:=au [(8,.hp 5 0 4 0 0),(7,.hp 4 0 4 0 0),(6,.hp 0 0 4 0 0),(4,.fp (Mk.c s) 0),(2,I t)]) Z (Mb Z (Mb Z (Mb Z (Mb Z (Mb Z Ma))))) (jC (oA (lh (.agg (Mh.c (J (J p t) (J s.at_ t)))) nD Z Z Z) (oC h (fun _=>tj _) Z Z Z Z fun v8 _ h=>jA ?_))));refine jN Z h (fun q9 h=>?_) (fun q9 h=>?_)
  ·refine jP (dG [dF,([4],false),dF,dF,([5],false),dF,dF,dF,dF,([5],false),dF,dF,dF,([2],true)]) (by kernel_rfl) (by kernel_rfl) (fN Z (fa tH Z) (fR [4] Z (fun G hG=>EvA.loadhp (hS false 2 (0+1) 1 v1.regs.length) oH Z (hG.a0 Z) Z Z Z Z) (fN Z mv (fN Z (fa nE Z) (fR [5] Z (fun G hG=>EvA.loadhp (I ((J (J p t) (J s.at_ t)).Reg)) Mx Z (hG.a0 Z) Z Z Z Z) (fC h (fun _=>uZ _ _) Z Z Z Z Z fun v10 _ h=>fN Z (fa tH Z) (fN Z (lf (eL cI s.mem) oH Z) (fN Z (fa nE Z) (fR [5] Z (fun G hG=>EvA.loadhp (I ((J (J p t) (J s.at_ t)).Loc)) Mx Z (hG.a0 Z) Z Z Z Z) (jD h fun g11 h=>fN Z (Mc.ixL bf Z Z g11 qD) (fN Z (lf (I (J s.mem ((J (J p t) (J s.at_ t)).Loc))) Mx Z) (jD h fun g12 h=>fN Z (Mc.ixO (g:=false) bf Z Z nofun g12) ?_))))))))))));refine fV 2 [] Z Z (fun G hG=>EvA.stO (g:=false) (l:=v1.regs) (cs:=[I (J s.mem ((J (J p t) (J s.at_ t)).Loc))]) (J s.mem ((J (J p t) (J s.at_ t)).Loc)) Mx Z Z (hG.a0 Z) nofun (ay Z g12) Z Z Z) (jR ?_)
   cases h
   exact ⟨0+1,trivial,kw (by first | (simp only [List.length_set] <;> rfl) | simp only [lla,List.length_singleton,llc,List.length_nil,List.length_set]) Z⟩
  ·refine jG ?_
   cases h
   exact ⟨0+1,trivial,kw (by first | (simp only [List.length_set] <;> rfl) | simp only [lla,List.length_singleton,llc,List.length_nil,List.length_set]) Z⟩
theorem zP (p:List (List Mh)) (s:Mk) {q:Bool} (h:lV p s=some q):aA Tryz.prog 86 [eL (cL Mh.c) p,.agg (Mk.c s)] (Bo q):=by
 refine pM Tryz.func86 Z (by kernel_rfl) Z (jI (oN (Mc.bxF [eL cI s.at_,eL cI s.regs,eL cI s.mem,eL (cL cI) s.buf] Z Z Z) (oN as' (jA ?_))));obtain ⟨Ks1,es1,ws1,h,ks1⟩:=sumL h;refine T.join (S:=Unit) (G:=Unit) (fun s1=>Ks1 s1=some q) (fun s1 gh=>True) (fun s1 gh=>[]) (fun s1 gh=>[]) (fun s1 gh h hg=>?_) ?_
 ·clear ks1;subst es1;refine jI (oN as' (jA (jK ?_)))
  cases h
  exact bP Z Z Z
 ·refine jI (oN as' (jA (jE ?_)));refine T.lU h (fun s4=>[(5,I s4),(3,.fp (Mk.c s) 0),(0,eL (cL Mh.c) p)]) (fun s4=>[]) (kw Z Z) (fun s4 ws4 h=>?_);refine jH (jI (oN mv (oN mv (oN (Mc.lenL lF Z) (oN (Mc.ilt Z Z) (jA ?_))))));refine jN Z h (fun q6 h=>?_) (fun q6 h=>?_)
  ·refine jG (jH (jE (jH (jP (fun _=>([],false)) (by kernel_rfl) (by kernel_rfl) (fN Z (fa tH Z) (fN Z (lf (eL cI s.at_) oH Z) (fN Z mv (jD h fun g7 h=>fN Z (Mc.ixL bf Z Z g7 qD) (fN Z (lf (I (J s.at_ s4)) Mx Z) (fN Z mv (fN Z mv (jD h fun g8 h=>fN Z (Mc.ixL lF Z Z g8 qD) (fN Z (lf (eL Mh.c (J p s4)) xC Z) ?_)))))))))))));refine fN Z (Mc.lenL sG Z) (fN Z (Mc.ilt Z Z) (jR ?_));refine jN Z h (fun q9 h=>?_) (fun q9 h=>?_)
   ·refine jH (T.clean (H0:=[]) (e0:=au []) Z Ma (jC (oN as' (jA (jK (lX h fun h=>?_))))));obtain rfl:=Mg h;replace h:=congrArg some (show _=_ from ks1)
    cases h
    exact bP Z Z Z
   ·refine jG (jC (oN mv (jW h fun g10 h=>oN (Mc.add Z Z g10) (oN as' (jA ?_)))));exact lE h (kw Z Z)
  ·refine jM (lX h fun h=>?_)
   cases h
   exact ⟨(),(),ks1,trivial,kw Z Z⟩
theorem wM (s:Mk) {q:(LI)} (h:iB s=some q):aA Tryz.prog 87 [.agg (Mk.c s)] (eL cI q):=by
 refine pM Tryz.func87 Z (by kernel_rfl) Z (jI (oN (Mc.bxF [eL cI s.at_,eL cI s.regs,eL cI s.mem,eL (cL cI) s.buf] Z Z Z) (oN as' (jA (jH (T.reserve (T.drawH (dG [([0],true),dF,dF,([0],true),dF,dF,([0],true),dF]) (by kernel_rfl) (by kernel_rfl) (fW 0 [] Z Z (fun G hG=>EvA.mkOR (c:=cI) 0 ([]:LI) [] bf Z Z Z qD qD Z (hG.a0 Z)) (fN Z (fa tH Z) (fN Z (lf (eL cI s.regs) oH Z) (jL h fun g1 h=>fW 0 [] Z Z (fun G hG=>EvA.appF (l:=([]:LI)) s.regs bf (by kernel_rfl) Z Z (hG.a0 Z) (bG.fz (l:=s.regs) Z qD) g1) (fN Z (fa tH Z) (fN Z (lf (eL cI s.mem) oH Z) (jL h fun g2 h=>?_))))))))))))));refine fW 0 [] Z Z (fun G hG=>EvA.appF (l:=(([]:LI)++s.regs)) s.mem bf (by kernel_rfl) Z Z (hG.a0 Z) (bG.fz (l:=s.mem) Z qD) g2) (fN Z (Mc.asg (hS false 0 ((0+1)+1) 1 (((([]:LI)++s.regs)++s.mem).length)) Z) (jR (jK ?_)));obtain rfl:=Mg h
 repeat (first|refine cn ?_|refine cu ?_)
 exact jQ (vs:=[hS false 0 ((0+1)+1) 1 (((([]:LI)++s.regs)++s.mem).length)]) (.cons (.tmp Z) .nil) (Fz.own (g:=false) (ver:=(0+1)+1) (l:=((([]:LI)++s.regs)++s.mem)) Z Z Z nofun qD)
set_option maxHeartbeats 4000000 in
theorem uM (p:List (List Mh)) (schedule:LI) {q:(LI)×Bool} (h:bA p schedule=some q):aA Tryz.prog 35 [eL (cL Mh.c) p,eL cI schedule] (.tup [eL cI q.1,Bo q.2]):=by
 refine pM Tryz.func35 Z (by kernel_rfl) Z (jI (oN as' (oN as' (jA (jH (jI (oN mv (oC h (fun _=>jh _) Z Z Z Z fun v1 _ h=>oN (Mc.not Z) (jA ?_)))))))));refine jN Z h (fun q2 h=>?_) (fun q2 h=>?_)
 ·refine jI (oN (Mc.mkF (c:=cI) ([]:LI) [] bf Z Z Z qD qD Z) (oN as' (oN as' (jA (jK ?_)))));obtain rfl:=Mg h
  repeat (first|refine cn ?_|refine cu ?_)
  exact jQ (vs:=[eL cI ([]:LI),Bo false]) (.cons (.tmp Z) (.cons (.tmp Z) .nil)) (.tupL (.cons (qC Z) (.cons (qC Z) .nil)))
 ·refine jG (jI (oN mv (oC h (fun _=>yu _ _) Z Z Z Z fun v3 _ h=>oA (EvA.al BG Z Z) (oV (sr [eL cI v3.at_,eL cI v3.regs,eL cI v3.mem,eL (cL cI) v3.buf] sF Z Z Z Z) (jA ?_)))));obtain ⟨Ks4,es4,ws4,h,ks4⟩:=sumL h;refine T.join (S:=(LI)×(LI)×(LI)×(LL)) (G:=Unit) (fun s4=>Ks4 s4=some q) (fun s4 gh=>True) (fun s4 gh=>[(6,.hp 0 0 4 0 0),(0,eL (cL Mh.c) p)]) (fun s4 gh=>[some ⟨0,4,103,[[eL cI s4.1,eL cI s4.2.1,eL cI s4.2.2.1,eL (cL cI) s4.2.2.2]]⟩]) (fun s4 gh h hg=>?_) ?_
  ·clear ks4;subst es4;refine jH (jI (oN mv (oA (lh (.agg [eL cI s4.1,eL cI s4.2.1,eL cI s4.2.2.1,eL (cL cI) s4.2.2.2]) sF Z Z Z) (oC h (fun _=>zP _ _) Z Z Z Z fun v21 _ h=>oN (Mc.not Z) (jA ?_)))));refine jN Z h (fun q22 h=>?_) (fun q22 h=>?_)
   ·refine jI (oN (Mc.mkF (c:=cI) ([]:LI) [] bf Z Z Z qD qD Z) (oN as' (oN as' (jA (jK ?_)))));obtain rfl:=Mg h
    repeat (first|refine cn ?_|refine cu ?_)
    exact jQ (vs:=[eL cI ([]:LI),Bo false]) (.cons (.tmp Z) (.cons (.tmp Z) .nil)) (.tupL (.cons (qC Z) (.cons (qC Z) .nil)))
   ·refine jG (jI (oA (lh (.agg [eL cI s4.1,eL cI s4.2.1,eL cI s4.2.2.1,eL (cL cI) s4.2.2.2]) sF Z Z Z) (oC h (fun _=>wM _) Z Z Z Z fun v23 _ h=>oN as' (oN as' (jA (jK ?_))))));obtain rfl:=Mg h
    repeat (first|refine cn ?_|refine cu ?_)
    exact jQ (vs:=[eL cI v23,Bo true]) (.cons (.tmp Z) (.cons (.tmp Z) .nil)) (.tupL (.cons (qC Z) (.cons (qC Z) .nil)))
  ·refine jI (oN as' (jA (jE ?_)));refine T.lU h (fun s7=>[(7,I s7.2.2.2.2),(6,.hp 0 0 4 0 0),(0,eL (cL Mh.c) p),(1,eL cI schedule)]) (fun s7=>[some ⟨0,4,103,[[eL cI s7.1,eL cI s7.2.1,eL cI s7.2.2.1,eL (cL cI) s7.2.2.2.1]]⟩]) (kw Z Z) (fun s7 ws7 h=>?_);refine jH (jI (oN mv (oN mv (oN (Mc.lenL bf Z) (oN (Mc.ilt Z Z) (jA ?_))))));refine jN Z h (fun q9 h=>?_) (fun q9 h=>?_)
   ·refine jG ?_;obtain ⟨Ks10,es10,ws10,h,ks10⟩:=sumL h;refine T.join (S:=(LI)×(LI)×(LI)×(LL)) (G:=Unit) (fun s10=>Ks10 s10=some ws7) (fun s10 gh=>True) (fun s10 gh=>[(7,I s7.2.2.2.2),(6,.hp 0 0 4 0 0),(0,eL (cL Mh.c) p),(1,eL cI schedule)]) (fun s10 gh=>[some ⟨0,4,103,[[eL cI s10.1,eL cI s10.2.1,eL cI s10.2.2.1,eL (cL cI) s10.2.2.2]]⟩]) (fun s10 gh h hg=>?_) ?_
    ·clear ks10;subst es10;refine jC (oN mv (jW h fun g20 h=>oN (Mc.add Z Z g20) (oN as' (jA ?_))));exact lE h (kw Z Z)
    ·refine jE (jI (oN mv (oN mv (jD h fun g11 h=>oN (Mc.ixL bf Z Z g11 qD) (oN (lf (I (J schedule s7.2.2.2.2)) Mx Z) (oN as' (jA ?_)))))));obtain ⟨Ks12,es12,ws12,h,ks12⟩:=sumL h;refine T.join (S:=Unit) (G:=Unit) (fun s12=>Ks12 s12=some ws10) (fun s12 gh=>True) (fun s12 gh=>[(8,I (J schedule s7.2.2.2.2)),(7,I s7.2.2.2.2),(6,.hp 0 0 4 0 0),(0,eL (cL Mh.c) p),(1,eL cI schedule)]) (fun s12 gh=>[some ⟨0,4,103,[[eL cI s7.1,eL cI s7.2.1,eL cI s7.2.2.1,eL (cL cI) s7.2.2.2.1]]⟩]) (fun s12 gh h hg=>?_) ?_
     ·clear ks12;subst es12;refine jC (oN mv (oA (lh (.agg [eL cI s7.1,eL cI s7.2.1,eL cI s7.2.2.1,eL (cL cI) s7.2.2.2.1]) sF Z Z Z) (oN mv (oC h (fun _=>BL _ _ _) Z Z Z Z fun v19 _ h=>oV (sr [eL cI v19.at_,eL cI v19.regs,eL cI v19.mem,eL (cL cI) v19.buf] sF Z Z Z Z) (jA ?_)))));obtain rfl:=Mg h;exact ⟨(v19.at_,v19.regs,v19.mem,v19.buf),(),ks10,trivial,kw Z Z⟩
     ·refine T.jU h (fun s13=>[(45,Bo s13),(8,I (J schedule s7.2.2.2.2)),(7,I s7.2.2.2.2),(6,.hp 0 0 4 0 0),(0,eL (cL Mh.c) p),(1,eL cI schedule)]) (fun s13=>[some ⟨0,4,103,[[eL cI s7.1,eL cI s7.2.1,eL cI s7.2.2.1,eL (cL cI) s7.2.2.2.1]]⟩]) (fun s13 h=>?_) (fun s13 h=>?_)
      ·refine jN Z h (fun q18 h=>?_) (fun q18 h=>?_)
       ·refine jI (oN (Mc.mkF (c:=cI) ([]:LI) [] bf Z Z Z qD qD Z) (oN as' (oN as' (jA (jK ?_)))));obtain rfl:=Mg h;replace h:=congrArg some (show _=_ from ks12);obtain rfl:=Mg h;replace h:=congrArg some (show _=_ from ks10);refine lX h fun h=>?_;obtain rfl:=Mg h;replace h:=congrArg some (show _=_ from ks4);obtain rfl:=Mg h
        repeat (first|refine cn ?_|refine cu ?_)
        exact jQ (vs:=[eL cI ([]:LI),Bo false]) (.cons (.tmp Z) (.cons (.tmp Z) .nil)) (.tupL (.cons (qC Z) (.cons (qC Z) .nil)))
       ·refine jG ?_
        cases h
        exact ⟨(),(),ks12,trivial,kw Z Z⟩
      ·refine T.drawG (dG [dF,dF,dF,dF,dF,dF,dF,dF,dF,dF,([0],false),dF,dF,dF,dF,dF,dF,dF,dF,dF,dF]) (by kernel_rfl) (by kernel_rfl) (tN Z mv (tN Z (Mc.ilt Z Z) (tN Z mv ?_)));rcases C8 h with ⟨q14,h⟩ | ⟨q14,h⟩
       ·refine MB Z q14 (MB Z q14 (MB Z q14 (MB Z q14 (tN Z (Mc.pickT Z q14 (Bo true) Z) (tN Z mv (MB Z Z (MB Z Z (MB Z Z (MB Z Z (MB Z Z (MB Z Z (MB Z Z (MB Z Z (MB Z Z (MB Z Z ?_)))))))))))))));refine MB Z Z (tN Z (Mc.pickT Z Z (Bo true) Z) (TG.nil ?_))
        cases h
        exact ⟨(),trivial,kw Z Z⟩
       ·refine My Z q14 Z mv (My Z q14 Z mv (My Z q14 Z (Mc.lenL lF Z) (My Z q14 Z (Mc.ige Z Z) (tN Z (Mc.pickF Z q14 (Bo (decide ((p.length:Int)<=(J schedule s7.2.2.2.2)))) Z) (tN Z mv ?_)))));rcases C8 h with ⟨q15,h⟩ | ⟨q15,h⟩
        ·refine MB Z q15 (MB Z q15 (MB Z q15 (MB Z q15 (MB Z q15 (MB Z q15 (MB Z q15 (MB Z q15 (MB Z q15 (MB Z q15 (MB Z q15 (tN Z (Mc.pickT Z q15 (Bo true) Z) (TG.nil ?_))))))))))))
         cases h
         exact ⟨(),trivial,kw Z Z⟩
        ·refine My Z q15 Z (fa tH Z) (tgR Z q15 [0] Z (fun G hG=>EvA.loadhp (eL cI s7.1) oH Z (hG.a0 Z) Z Z Z Z) (My Z q15 Z mv (jD h fun g16 h=>My Z q15 Z (Mc.ixL bf Z Z g16 qD) (My Z q15 Z (lf (I (J s7.1 (J schedule s7.2.2.2.2))) Mx Z) (My Z q15 Z mv (My Z q15 Z mv (jD h fun g17 h=>My Z q15 Z (Mc.ixL lF Z Z g17 qD) (My Z q15 Z (lf (eL Mh.c (J p (J schedule s7.2.2.2.2))) xC Z) (My Z q15 Z (Mc.lenL sG Z) (My Z q15 Z (Mc.ieq Z Z) (tN Z (Mc.pickF Z q15 (Bo ((J s7.1 (J schedule s7.2.2.2.2))==((J p (J schedule s7.2.2.2.2)).length:Int))) Z) (TG.nil ?_))))))))))))
         cases h
         exact ⟨(),trivial,kw Z Z⟩
   ·refine jM (lX h fun h=>?_);obtain rfl:=Mg h;exact ⟨(s7.1,s7.2.1,s7.2.2.1,s7.2.2.2.1),(),ks4,trivial,kw Z Z⟩
set_option maxHeartbeats 4000000 in
theorem xK (p:List (List Mh)) (schedule:LI) {q:(LI)} (h:lY p schedule=some q):aA Tryz.prog 89 [eL (cL Mh.c) p,eL cI schedule] (eL cI q):=by
 refine pM Tryz.func89 Z (by kernel_rfl) Z (jI (oN as' (jA (jI (oN mv (oC h (fun _=>rH _) Z Z Z Z fun v1 _ h=>oN as' (jA (jI (oN mv (oN (Mc.lenL lF Z) (jD h fun g2 h=>oA (EvA.mkN (c:=cI) (default:Int) bf Z Z g2 Z Z Z) (oN (Mc.asg (hS false 0 0 1 ((List.replicate (p.length:Int).toNat (default:Int)).length)) Z) (jA ?_)))))))))))));refine jI (oA (EvA.mkO (c:=cI) ([]:LI) [] bf Z Z Z qD Z Z) (oN (Mc.asg (hS false 1 0 1 (([]:LI).length)) Z) (jA ?_)));refine T.jF (G:=Nat×Nat) h (fun s3 gh=>True) (fun s3 gh=>[(7,hS false 1 gh.2 1 s3.2.length)]) (fun s3 gh=>[bE false gh.1 1 3 (s3.1.map cI),bE false gh.2 1 3 (s3.2.map cI)]) (fun s3 gh h hg=>?_) (fun s3 h=>?_)
 ·obtain ⟨u37,u38⟩:=gh;refine jI (oN mv (oN (Mc.asg (hS false 1 u38 1 s3.2.length) Z) (jA (jK ?_))));obtain rfl:=Mg h
  repeat (first|refine cn ?_|refine cu ?_)
  exact jQ (vs:=[hS false 1 u38 1 s3.2.length]) (.cons (.tmp Z) .nil) (Fz.own (g:=false) (ver:=u38) (l:=s3.2) Z Z Z nofun qD)
 ·refine jI (oN as' (jA (jE ?_)));refine jO (S:=(LI)×(LI)×Int) (G:=Nat×Nat) (lW schedule v1) (fun s8 gh=>True) (fun s8 gh=>[(8,I s8.2.2),(7,hS false 1 gh.2 1 s8.2.1.length),(6,hS false 0 gh.1 1 s8.1.length),(5,eL Mj.c v1),(1,eL cI schedule)]) (fun s8 gh=>[bE false gh.1 1 3 (s8.1.map cI),bE false gh.2 1 3 (s8.2.1.map cI)]) (s0:=((List.replicate (p.length:Int).toNat (default:Int)),([]:LI),U)) (0,0) h trivial (kw Z Z) (fun s8 gh ws8 h hg=>?_);obtain ⟨u10,u11⟩:=gh;refine jH (jI (oN mv (oN mv (oN (Mc.lenL bf Z) (oN (Mc.ilt Z Z) (jA ?_))))));refine jN Z h (fun q12 h=>?_) (fun q12 h=>?_)
  ·refine jG ?_;refine T.jF (G:=Nat) h (fun s13 gh=>True) (fun s13 gh=>[(8,I s8.2.2),(7,hS false 1 gh 1 s13.length),(6,hS false 0 u10 1 ((s8.1.set ((J schedule s8.2.2).toNat) ((s8.1.getD ((J schedule s8.2.2).toNat) default)+V)).length)),(5,eL Mj.c v1),(1,eL cI schedule)]) (fun s13 gh=>[bE false u10 1 3 ((s8.1.set ((J schedule s8.2.2).toNat) ((s8.1.getD ((J schedule s8.2.2).toNat) default)+V)).map cI),bE false gh 1 3 (s13.map cI)]) (fun s13 u35 h hg=>?_) (fun s13 h=>?_)
   ·refine jC (oN mv (jW h fun g36 h=>oN (Mc.add Z Z g36) (oN as' (jA ?_))));obtain rfl:=Mg h;exact ⟨((s8.1.set ((J schedule s8.2.2).toNat) ((s8.1.getD ((J schedule s8.2.2).toNat) default)+V)),s13,(s8.2.2+V)),(u10,u35),Z,trivial,kw Z Z⟩
   ·refine jE (jI (oN mv (oN mv (jD h fun g14 h=>oN (Mc.ixL bf Z Z g14 qD) (oN (lf (I (J schedule s8.2.2)) Mx Z) (oN as' (jA ?_)))))));refine T.jF (G:=Nat) h (fun s15 gh=>True) (fun s15 gh=>[(9,I (J schedule s8.2.2)),(8,I s8.2.2),(7,hS false 1 gh 1 s15.length),(6,hS false 0 u10 1 s8.1.length),(5,eL Mj.c v1),(1,eL cI schedule)]) (fun s15 gh=>[bE false u10 1 3 (s8.1.map cI),bE false gh 1 3 (s15.map cI)]) (fun s15 u32 h hg=>?_) (fun s15 h=>?_)
    ·refine jC (oN mv (oN mv (oN mv (oN mv (jD h fun g33 h=>oN (Mc.ixO (g:=false) bf Z Z nofun g33) (oA (EvA.ldO (g:=false) (l:=s8.1) (I (s8.1.getD ((J schedule s8.2.2).toNat) default)) Mx Z Z nofun (ay Z g33) Z) (jW h fun g34 h=>oN (Mc.add Z Z g34) (oN (Mc.ixO (g:=false) bf Z Z nofun g33) (oV (EvA.stO (g:=false) (l:=s8.1) (cs:=[I ((s8.1.getD ((J schedule s8.2.2).toNat) default)+V)]) ((s8.1.getD ((J schedule s8.2.2).toNat) default)+V) Mx Z Z Z nofun (ay Z g33) Z Z Z) (jA ?_))))))))));obtain rfl:=Mg h;exact ⟨u32,trivial,yc Z (Mb Z (Mb Z (Mb (congrArg (hS false 0 u10 1) (by simp:s8.1.length=(s8.1.set ((J schedule s8.2.2).toNat) ((s8.1.getD ((J schedule s8.2.2).toNat) default)+(1:Int))).length)) (Mb Z (Mb Z Ma)))))⟩
    ·refine jI (oN as' (jA (jE ?_)));refine jO (S:=(LI)×Int) (G:=Nat) (kW schedule v1 s8) (fun s19 gh=>True) (fun s19 gh=>[(10,I s19.2),(9,I (J schedule s8.2.2)),(8,I s8.2.2),(7,hS false 1 gh 1 s19.1.length),(6,hS false 0 u10 1 s8.1.length),(5,eL Mj.c v1),(1,eL cI schedule)]) (fun s19 gh=>[bE false u10 1 3 (s8.1.map cI),bE false gh 1 3 (s19.1.map cI)]) (s0:=(s8.2.1,U)) u11 h trivial (kw Z Z) (fun s19 u21 ws19 h hg=>?_);refine jH (jI (oN mv (oN mv (oN (Mc.lenL vF Z) (oN (Mc.ilt Z Z) (jA ?_))))));refine jN Z h (fun q22 h=>?_) (fun q22 h=>?_)
     ·refine jG ?_;refine T.jF (G:=Nat) h (fun s23 gh=>True) (fun s23 gh=>[(7,hS false 1 gh 1 s23.length),(10,I s19.2),(9,I (J schedule s8.2.2)),(8,I s8.2.2),(6,hS false 0 u10 1 s8.1.length),(5,eL Mj.c v1),(1,eL cI schedule)]) (fun s23 gh=>[bE false u10 1 3 (s8.1.map cI),bE false gh 1 3 (s23.map cI)]) (fun s23 u30 h hg=>?_) (fun s23 h=>?_)
      ·refine jC (oN mv (jW h fun g31 h=>oN (Mc.add Z Z g31) (oN as' (jA ?_))));obtain rfl:=Mg h;exact ⟨(s23,(s19.2+V)),u30,Z,trivial,kw Z Z⟩
      ·refine jE ?_;refine T.jU h (fun s24=>[(51,Bo s24),(10,I s19.2),(9,I (J schedule s8.2.2)),(8,I s8.2.2),(7,hS false 1 u21 1 s19.1.length),(6,hS false 0 u10 1 s8.1.length),(5,eL Mj.c v1),(1,eL cI schedule)]) (fun s24=>[bE false u10 1 3 (s8.1.map cI),bE false u21 1 3 (s19.1.map cI)]) (fun s24 h=>?_) (fun s24 h=>?_)
       ·refine jN Z h (fun q28 h=>?_) (fun q28 h=>?_)
        ·refine jC (oN mv (oN mv (oN (Mc.mkF (c:=cI) ([s19.2]:LI) [[I s19.2]] bf Z Z Z qD qD Z) (jL h fun g29 h=>oA (EvA.app1 (g:=false) (l:=s19.1) s19.2 bf (by kernel_rfl) Z Z Z nofun (bG.fz (l:=([s19.2]:LI)) Z qD) g29) (oN (Mc.asg (hS false 1 (u21+1) 1 ((s19.1++[s19.2]).length)) Z) (jA ?_))))))
         cases h
         exact ⟨u21+1,trivial,kw Z Z⟩
        ·refine jG ?_
         cases h
         exact ⟨u21,trivial,kw Z Z⟩
       ·refine T.drawG (dG [dF,dF,dF,dF,dF,dF,dF,dF,dF,dF,dF,dF,dF,dF,dF,dF,([0],false),dF,dF]) (by kernel_rfl) (by kernel_rfl) (tN Z mv (tN Z mv (jD h fun g25 h=>tN Z (Mc.ixL vF Z Z g25 qD) (tN Z (fa pO Z) (tN Z (lf (I ((J v1 s19.2).Thread)) Mx Z) (tN Z mv (tN Z (Mc.ieq Z Z) (tN Z mv ?_))))))));rcases C8 h with ⟨q26,h⟩ | ⟨q26,h⟩
        ·refine My Z q26 Z mv (My Z q26 Z mv (My Z q26 Z (Mc.ixL vF Z Z g25 qD) (My Z q26 Z (fa pO Z) (My Z q26 Z (lf (I ((J v1 s19.2).Index)) Mx Z) (My Z q26 Z mv (My Z q26 Z mv (jD h fun g27 h=>My Z q26 Z (Mc.ixO (g:=false) bf Z Z nofun g27) (tgR Z q26 [0] Z (fun G hG=>EvA.ldO (g:=false) (l:=s8.1) (I (s8.1.getD ((J schedule s8.2.2).toNat) default)) Mx Z (hG.a0 Z) nofun (ay Z g27) Z) (My Z q26 Z (Mc.ieq Z Z) (tN Z (Mc.pickT Z q26 (Bo (((J v1 s19.2).Index)==(s8.1.getD ((J schedule s8.2.2).toNat) default))) Z) (TG.nil ?_)))))))))))
         cases h
         exact ⟨(),trivial,kw Z Z⟩
        ·refine MB Z q26 (MB Z q26 (MB Z q26 (MB Z q26 (MB Z q26 (MB Z q26 (MB Z q26 (MB Z q26 (MB Z q26 (MB Z q26 (tN Z (Mc.pickF Z q26 (Bo false) Z) (TG.nil ?_)))))))))))
         cases h
         exact ⟨(),trivial,kw Z Z⟩
     ·refine jM (lX h fun h=>?_)
      cases h
      exact ⟨u21,trivial,kw Z Z⟩
  ·refine jM (lX h fun h=>?_)
   cases h
   exact ⟨(u10,u11),trivial,kw Z Z⟩
set_option maxHeartbeats 4000000 in
theorem yz (p:List (List Mh)) (schedule:LI) {q:Mi} (h:kv p schedule=some q):aA Tryz.prog 36 [eL (cL Mh.c) p,eL cI schedule] (.agg (Mi.c q)):=by
 refine pM Tryz.func36 Z (by kernel_rfl) Z (jI (oA (EvA.al EY Z Z) (jA (jI (oN mv (oC h (fun _=>rH _) Z Z Z Z fun v1 _ h=>oN as' (jA (jH (T.reserve (T.reserve (jC (oN (Mc.build [hS true 1 0 1 (([]:LI).length),hS true 2 0 1 (([]:LL).length)] Tryz.underlying29 EY wI Z Z) (oA (EvA.al EY Z Z) (TO.reid (e0:=au [(6,.hp 3 0 2 0 0),(15,.agg [hS true 1 0 1 (([]:LI).length),hS true 2 0 1 (([]:LL).length)]),(5,eL Mj.c v1),(4,.hp 0 0 2 0 0),(0,eL (cL Mh.c) p),(1,eL cI schedule)]) (Reid.rot (m:=3) (S:=[some ⟨0,2,29,[[.nil,.nil]]⟩,bE true 0 1 3 (([]:LI).map cI),bE true 0 1 24 (Me 3 (fun _=>(true,0,0)) 1 ([]:LL))]) (S':=[some ⟨0,2,29,[[.nil,.nil]]⟩,bE true 0 1 3 (([]:LI).map cI),bE true 0 1 24 (Me 4 (fun _=>(true,0,0)) 1 ([]:LL))]) (K:=([]:AH)) (x:=some ⟨0,2,29,[[.nil,.nil]]⟩) (x':=some ⟨0,2,29,[[.nil,.nil]]⟩) Z Z Z (.some (.rowL (.cons .nil (.cons .nil .nil))) (.bE qD (.nest ((NN.nil (gh:=(fun _=>(true,0,0))) (w:=1) (ty:=3) (f:=cI)).renK Z) .nil))) (NN.nil (gh:=(fun _=>(true,0,0))) (w:=1) (ty:=3) (f:=cI)).kf (.some (.rowL (.cons .nil (.cons .nil .nil))) .nil)) (aB (a0:=.hp (([]:AH).length+3) 0 2 0 0) Z (.hp Mf.new) (aB (a0:=.agg [hS true 1 0 1 (([]:LI).length),hS true 2 0 1 (([]:LL).length)]) Z (Ren.aggL (.cons (aS (Mf.low Z)) (.cons (aS (Mf.low Z)) .nil))) (aT Z Z (aB (a0:=.hp 0 0 2 0 0) Z (.hp (Mf.low Z)) (aT Z Z (aT Z Z iL)))))) ?_))))))))))))));refine oV (sr [hS true 1 0 1 (([]:LI).length),hS true 2 0 1 (([]:LL).length)] tG Z Z Z Z) (jA ?_);refine T.jF (G:=(Bool×Nat)×(Bool×NG×AH×Nat)) h (fun s2 gh=>(gh.1.1=true->s2.1=[])/\NN gh.2.2.2.1 gh.2.2.1 1 3 cI s2.2/\(gh.2.1=true->s2.2=[])) (fun s2 gh=>[(6,.hp 3 0 2 0 0),(5,eL Mj.c v1),(4,.hp 0 0 2 0 0),(0,eL (cL Mh.c) p),(1,eL cI schedule)]) (fun s2 gh=>(some ⟨0,2,29,[[.nil,.nil]]⟩::bE gh.1.1 gh.1.2 1 3 (s2.1.map cI)::bE gh.2.1 gh.2.2.2.2 1 24 (Me 4 gh.2.2.1 1 s2.2)::some ⟨0,2,29,[[hS gh.1.1 1 gh.1.2 1 s2.1.length,hS gh.2.1 2 gh.2.2.2.2 1 s2.2.length]]⟩::gh.2.2.2.1)) (fun s2 gh h hg=>?_) (fun s2 h=>?_)
 ·obtain ⟨⟨b35,u34⟩,⟨b41,y38,kk39,u37⟩⟩:=gh;obtain ⟨n36,hN40,n42⟩:=hg;refine T.jF (G:=(Bool×NG×AH×Nat)) h (fun s43 gh=>NN gh.2.2.1 gh.2.1 1 3 cI s43/\(gh.1=true->s43=[])) (fun s43 gh=>[(6,.hp 3 0 2 0 0),(5,eL Mj.c v1),(4,.hp 0 0 2 0 0),(0,eL (cL Mh.c) p),(1,eL cI schedule)]) (fun s43 gh=>(some ⟨0,2,29,[[.nil,.nil]]⟩::bE b35 u34 1 3 (s2.1.map cI)::bE gh.1 gh.2.2.2 1 24 (Me 4 gh.2.1 1 s43)::some ⟨0,2,29,[[hS b35 1 u34 1 s2.1.length,hS gh.1 2 gh.2.2.2 1 s43.length]]⟩::gh.2.2.1)) (fun s43 gh h hg=>?_) (fun s43 h=>?_)
  ·obtain ⟨b73,y70,kk71,u69⟩:=gh;obtain ⟨hN72,n74⟩:=hg;refine jI (oN mv (oN mv (oC h (fun _=>xK _ _) Z Z Z Z fun v75 _ h=>oN as' (jA ?_))));refine T.jF (G:=(Bool×Nat)×(Bool×NG×AH×Nat)) h (fun s76 gh=>(gh.1.1=true->s76.1=[])/\NN gh.2.2.2.1 gh.2.2.1 1 3 cI s76.2/\(gh.2.1=true->s76.2=[])) (fun s76 gh=>[(6,.hp 3 0 2 0 0),(4,.hp 0 0 2 0 0)]) (fun s76 gh=>(some ⟨0,2,29,[[.nil,.nil]]⟩::bE gh.1.1 gh.1.2 1 3 (s76.1.map cI)::bE gh.2.1 gh.2.2.2.2 1 24 (Me 4 gh.2.2.1 1 s76.2)::some ⟨0,2,29,[[hS gh.1.1 1 gh.1.2 1 s76.1.length,hS gh.2.1 2 gh.2.2.2.2 1 s76.2.length]]⟩::gh.2.2.2.1)) (fun s76 gh h hg=>?_) (fun s76 h=>?_)
   ·obtain ⟨⟨b141,u140⟩,⟨b147,y144,kk145,u143⟩⟩:=gh;obtain ⟨n142,hN146,n148⟩:=hg;refine jI (oA (lh (.agg [hS b141 1 u140 1 s76.1.length,hS b147 2 u143 1 s76.2.length]) tG Z Z Z) (oV (EvA.st (cs:=[hS b141 1 u140 1 s76.1.length,hS b147 2 u143 1 s76.2.length]) ⟨0,2,29,[[hS b141 1 u140 1 s76.1.length,hS b147 2 u143 1 s76.2.length]]⟩ tG Z (by generalize b141=gq0;generalize b147=gq1;cases gq0 <;> cases gq1 <;> rfl) Z Z Z Z Z Z Z) (jA (jK ?_))));obtain rfl:=Mg h
    repeat (first|refine cn ?_|refine cu ?_)
    exact jQ (vs:=[.agg [hS b141 1 u140 1 s76.1.length,hS b147 2 u143 1 s76.2.length]]) (.cons (.cell (.agg [hS b141 1 u140 1 s76.1.length,hS b147 2 u143 1 s76.2.length]) tG Z Z Z Z Z Z) .nil) (Fz.aggL (.cons (Fz.own (g:=b141) (ver:=u140) (l:=s76.1) Z Z Z n142 qD) (.cons (NN.fzG hN146 (S:=[some ⟨0,2,29,[[hS b141 1 u140 1 s76.1.length,hS b147 2 u143 1 s76.2.length]]⟩,bE b141 u140 1 3 (s76.1.map cI),bE b147 u143 1 24 (Me 4 y144 1 s76.2),some ⟨0,2,29,[[hS b141 1 u140 1 s76.1.length,hS b147 2 u143 1 s76.2.length]]⟩]) (g:=b147) (ver:=u143) Z Z n148 qD) .nil)))
   ·refine jI (oN as' (jA (jE ?_)));refine jO (S:=(LI)×(LL)×Int) (G:=(Bool×Nat)×(Bool×NG×AH×Nat)) (l5 v1 v75) (fun s94 gh=>(gh.1.1=true->s94.1=[])/\NN gh.2.2.2.1 gh.2.2.1 1 3 cI s94.2.1/\(gh.2.1=true->s94.2.1=[])) (fun s94 gh=>[(10,I s94.2.2),(9,eL cI v75),(6,.hp 3 0 2 0 0),(5,eL Mj.c v1),(4,.hp 0 0 2 0 0)]) (fun s94 gh=>(some ⟨0,2,29,[[.nil,.nil]]⟩::bE gh.1.1 gh.1.2 1 3 (s94.1.map cI)::bE gh.2.1 gh.2.2.2.2 1 24 (Me 4 gh.2.2.1 1 s94.2.1)::some ⟨0,2,29,[[hS gh.1.1 1 gh.1.2 1 s94.1.length,hS gh.2.1 2 gh.2.2.2.2 1 s94.2.1.length]]⟩::gh.2.2.2.1)) (s0:=(s2.1,s43,U)) ((b35,u34),(b73,y70,kk71,u69)) h ⟨n36,hN72,n74⟩ (kw Z Z) (fun s94 gh ws94 h hg=>?_);obtain ⟨⟨b97,u96⟩,⟨b103,y100,kk101,u99⟩⟩:=gh;obtain ⟨n98,hN102,n104⟩:=hg;refine jH (jI (oN mv (oN mv (oN (Mc.lenL bf Z) (oN (Mc.ilt Z Z) (jA ?_))))));refine jN Z h (fun q105 h=>?_) (fun q105 h=>?_)
    ·refine jG ?_;refine T.jF (G:=(Bool×Nat)×(NG×AH×Nat)) h (fun s106 gh=>(gh.1.1=true->s106.1=[])/\NN gh.2.2.1 gh.2.1 1 3 cI s106.2) (fun s106 gh=>[(10,I s94.2.2),(9,eL cI v75),(6,.hp 3 0 2 0 0),(5,eL Mj.c v1),(4,.hp 0 0 2 0 0)]) (fun s106 gh=>(some ⟨0,2,29,[[.nil,.nil]]⟩::bE gh.1.1 gh.1.2 1 3 (s106.1.map cI)::bE false gh.2.2.2 1 24 (Me 4 gh.2.1 1 s106.2)::some ⟨0,2,29,[[hS gh.1.1 1 gh.1.2 1 s106.1.length,hS false 2 gh.2.2.2 1 s106.2.length]]⟩::gh.2.2.1)) (fun s106 gh h hg=>?_) (fun s106 h=>?_)
     ·obtain ⟨⟨b133,u132⟩,⟨y136,kk137,u135⟩⟩:=gh;obtain ⟨n134,hN138⟩:=hg;refine jC (oN mv (jW h fun g139 h=>oN (Mc.add Z Z g139) (oN as' (jA ?_))));obtain rfl:=Mg h;exact ⟨(s106.1,s106.2,(s94.2.2+V)),((b133,u132),(false,y136,kk137,u135)),Z,⟨n134,hN138,nofun⟩,kw Z Z⟩
     ·refine jE (jI (oN mv (oN mv (oN mv (jD h fun g107 h=>oN (Mc.ixL bf Z Z g107 qD) (oN (lf (I (J v75 s94.2.2)) Mx Z) (jD h fun g108 h=>oN (Mc.ixL vF Z Z g108 qD) (oN (lf (.agg (Mj.c (J v1 (J v75 s94.2.2)))) zG Z) (oA (EvA.al Eh Z Z) (TO.reid (e0:=au [(11,.hp 4 0 5 0 0),(53,.agg (Mj.c (J v1 (J v75 s94.2.2)))),(10,I s94.2.2),(9,eL cI v75),(6,.hp 3 0 2 0 0),(5,eL Mj.c v1),(4,.hp 0 0 2 0 0)]) (Reid.rot (m:=4) (S:=[some ⟨0,2,29,[[.nil,.nil]]⟩,bE b97 u96 1 3 (s94.1.map cI),bE b103 u99 1 24 (Me 4 y100 1 s94.2.1),some ⟨0,2,29,[[hS b97 1 u96 1 s94.1.length,hS b103 2 u99 1 s94.2.1.length]]⟩]) (S':=[some ⟨0,2,29,[[.nil,.nil]]⟩,bE b97 u96 1 3 (s94.1.map cI),bE b103 u99 1 24 (Me 5 y100 1 s94.2.1),some ⟨0,2,29,[[hS b97 1 u96 1 s94.1.length,hS b103 2 u99 1 s94.2.1.length]]⟩]) (K:=kk101) (x:=some ⟨0,5,74,[[I U,I U,I U,Bo false,Bo false]]⟩) (x':=some ⟨0,5,74,[[I U,I U,I U,Bo false,Bo false]]⟩) Z Z Z (.some (.rowL (.cons .nil (.cons .nil .nil))) (.bE qD (.nest (hN102.renK Z) (.some (.rowL (.cons (aS (Mf.low Z)) (.cons (aS (Mf.low Z)) .nil))) .nil)))) hN102.kf (.some (.rowL (.cons (ax 9 _ Z) (.cons (ax 9 _ Z) (.cons (ax 9 _ Z) (.cons (ax 9 _ Z) (.cons (ax 9 _ Z) .nil)))))) .nil)) (aB (a0:=.hp (kk101.length+4) 0 5 0 0) Z (.hp Mf.new) (aT Z Z (aT Z Z (aT Z Z (aB (a0:=.hp 3 0 2 0 0) Z (.hp (Mf.low Z)) (aT Z Z (aB (a0:=.hp 0 0 2 0 0) Z (.hp (Mf.low Z)) iL))))))) (oV (sr (Mj.c (J v1 (J v75 s94.2.2))) zG Z Z Z Z) (jA (jI ?_)))))))))))));refine oN (fa wI Z) (oA (lh (hS b103 2 u99 1 s94.2.1.length) Dx Z Z Z) (oN (fa pO Z) (oA (lh (I ((J v1 (J v75 s94.2.2)).Loc)) Mx Z Z Z) (jD h fun g109 h=>?_))));obtain rfl:=Ar n104 rfl g109;refine oN (Mc.ixO (g:=false) xE Z Z nofun g109) ?_;have n114:=hN102.zY (ay rfl g109);have hX113:=hN102.opened (ay rfl g109);refine TO.reid (e0:=au [(58,.hp 2 u99 1 (((J v1 (J v75 s94.2.2)).Loc).toNat) 0),(11,.hp 4 0 5 0 0),(10,I s94.2.2),(9,eL cI v75),(6,.hp 3 0 2 0 0),(5,eL Mj.c v1),(4,.hp 0 0 2 0 0)]) (Reid.open (m:=5) (S:=[some ⟨0,2,29,[[.nil,.nil]]⟩,bE b97 u96 1 3 (s94.1.map cI),bE false u99 1 24 (Me 5 y100 1 s94.2.1),some ⟨0,2,29,[[hS b97 1 u96 1 s94.1.length,hS false 2 u99 1 s94.2.1.length]]⟩,some ⟨0,5,74,[(Mj.c (J v1 (J v75 s94.2.2)))]⟩]) (S':=[some ⟨0,2,29,[[.nil,.nil]]⟩,bE b97 u96 1 3 (s94.1.map cI),bE false u99 1 24 (nxs 6 y100 1 s94.2.1 (((J v1 (J v75 s94.2.2)).Loc).toNat) (y100 (((J v1 (J v75 s94.2.2)).Loc).toNat)).1 5 ((y100 (((J v1 (J v75 s94.2.2)).Loc).toNat)).2.2) ((s94.2.1.getD (((J v1 (J v75 s94.2.2)).Loc).toNat) []).length)),some ⟨0,2,29,[[hS b97 1 u96 1 s94.1.length,hS false 2 u99 1 s94.2.1.length]]⟩,some ⟨0,5,74,[(Mj.c (J v1 (J v75 s94.2.2)))]⟩]) (K:=kk101) (x:=bE (y100 (((J v1 (J v75 s94.2.2)).Loc).toNat)).1 (y100 (((J v1 (J v75 s94.2.2)).Loc).toNat)).2.2 1 3 ((s94.2.1.getD (((J v1 (J v75 s94.2.2)).Loc).toNat) []).map cI)) Z (hN102.at_ (ay Z g109)) Z (.some (.rowL (.cons .nil (.cons .nil .nil))) (.bE qD (.nest (hN102.renOpn (ay Z g109)) (.some (.rowL (.cons (aS (Opn.low Z)) (.cons (aS (Opn.low Z)) .nil))) (.some (.rowL (.cons (ax 9 _ Z) (.cons (ax 9 _ Z) (.cons (ax 9 _ Z) (.cons (ax 9 _ Z) (.cons (ax 9 _ Z) .nil)))))) .nil))))) hN102.kf) (aB (a0:=.hp 2 u99 1 (((J v1 (J v75 s94.2.2)).Loc).toNat) 0) Z (.hp (Opn.low Z)) (aB (a0:=.hp 4 0 5 0 0) Z (.hp (Opn.low Z)) (aT Z Z (aT Z Z (aB (a0:=.hp 3 0 2 0 0) Z (.hp (Opn.low Z)) (aT Z Z (aB (a0:=.hp 0 0 2 0 0) Z (.hp (Opn.low Z)) iL))))))) ?_;generalize (y100 (((J v1 (J v75 s94.2.2)).Loc).toNat)).1=b110 at n114 ⊢;generalize (y100 (((J v1 (J v75 s94.2.2)).Loc).toNat)).2.2=u111;generalize kk101.set (y100 (((J v1 (J v75 s94.2.2)).Loc).toNat)).2.1 none=kk112 at hX113 ⊢;refine oA (EvA.loadhp (hS b110 5 u111 1 ((s94.2.1.getD (((J v1 (J v75 s94.2.2)).Loc).toNat) []).length)) oH Z Z Z Z (rT (ay Z g109)) Z) (oN (Mc.asg (hS b110 5 u111 1 ((s94.2.1.getD (((J v1 (J v75 s94.2.2)).Loc).toNat) []).length)) Z) (jA ?_));refine T.jF (G:=(Bool×Nat)×(NG×AH×Nat)×(Bool×Nat)) h (fun qw gh=>(gh.1.1=true->qw.1=[])/\NX gh.2.1.2.1 gh.2.1.1 1 3 cI s94.2.1 (((J v1 (J v75 s94.2.2)).Loc).toNat)/\(gh.2.2.1=true->qw.2=[])) (fun qw gh=>[(12,hS gh.2.2.1 5 gh.2.2.2 1 qw.2.length),(11,.hp 4 0 5 0 0),(10,I s94.2.2),(9,eL cI v75),(6,.hp 3 0 2 0 0),(5,eL Mj.c v1),(4,.hp 0 0 2 0 0)]) (fun qw gh=>(some ⟨0,2,29,[[.nil,.nil]]⟩::bE gh.1.1 gh.1.2 1 3 (qw.1.map cI)::bE false gh.2.1.2.2 1 24 (nxs 6 gh.2.1.1 1 s94.2.1 (((J v1 (J v75 s94.2.2)).Loc).toNat) gh.2.2.1 5 gh.2.2.2 qw.2.length)::some ⟨0,2,29,[[hS gh.1.1 1 gh.1.2 1 qw.1.length,hS false 2 gh.2.1.2.2 1 s94.2.1.length]]⟩::some ⟨0,5,74,[(Mj.c (J v1 (J v75 s94.2.2)))]⟩::bE gh.2.2.1 gh.2.2.2 1 3 (qw.2.map cI)::gh.2.1.2.1)) (fun qw gh h hg=>?_) (fun qw h=>?_)
      ·obtain ⟨⟨b121,u120⟩,⟨y124,kk125,u123⟩,⟨b128,u127⟩⟩:=gh;obtain ⟨n122,hN126,n129⟩:=hg;refine jI (oN (fa pO Z) (oA (lh (Bo ((J v1 (J v75 s94.2.2)).db)) ty4 Z Z Z) (jA ?_)));refine jN Z h (fun q130 h=>?_) (fun q130 h=>?_)
       ·refine jP (dG [dF,([3],false),dF,([4],false),dF,dF,dF,dF,dF,dF,([5],true),dF,([2],true)]) (by kernel_rfl) (by kernel_rfl) (fN Z (fa wI Z) (fR [3] Z (fun G hG=>EvA.loadhp (hS false 2 u123 1 s94.2.1.length) Dx Z (hG.a0 Z) Z Z Z Z) (fN Z (fa pO Z) (fR [4] Z (fun G hG=>EvA.loadhp (I ((J v1 (J v75 s94.2.2)).Loc)) Mx Z (hG.a0 Z) Z Z Z Z) (fN Z mv (fN Z mv (fN Z mv (fN Z (Mc.ixL bf Z Z g107 qD) (fN Z (lf (I (J v75 s94.2.2)) Mx Z) (fN Z (Mc.mkF (c:=cI) ([(J v75 s94.2.2)]:LI) [[I (J v75 s94.2.2)]] bf Z Z Z qD qD Z) (jL h fun g131 h=>fW 5 [] Z Z (fun G hG=>EvA.app1 (g:=b128) (l:=qw.2) (J v75 s94.2.2) bf (by kernel_rfl) Z Z (hG.a0 Z) n129 (bG.fz (l:=([(J v75 s94.2.2)]:LI)) Z qD) g131) (fN Z (Mc.ixO (g:=false) xE Z Z nofun g109) (fV 2 [] Z Z (fun G hG=>EvA.st (cs:=[hS false 5 (u127+1) 1 ((qw.2++[(J v75 s94.2.2)]).length)]) ⟨u123,1,24,(nxs 6 y124 1 s94.2.1 (((J v1 (J v75 s94.2.2)).Loc).toNat) false 5 (u127+1) ((qw.2++[(J v75 s94.2.2)]).length))⟩ oH Z Z (hG.a0 Z) Z Z (rT hN126.hi) Z Z (congrArg (ABlk.mk u123 1 24) Bm)) (jR ?_))))))))))))));obtain rfl:=Mg h;exact ⟨((b121,u120),((up 1 ((up 1 y124).put (((J v1 (J v75 s94.2.2)).Loc).toNat) (false,0,u127+1))),(some ⟨0,5,74,[(Mj.c (J v1 (J v75 s94.2.2)))]⟩::(bE false (u127+1) 1 3 ((qw.2++[(J v75 s94.2.2)]).map cI)::kk125)),u123)),⟨n122,((hN126.close (g:=false) (v:=u127+1) (r:=(qw.2++[(J v75 s94.2.2)])) nofun qD).push (fun _ hb=>osi hb ▸ ak Z))⟩,kw (Eq.trans (congrArg (fun n_:Nat=>(some ⟨0,2,29,[[.nil,.nil]]⟩::bE b121 u120 1 3 (qw.1.map cI)::bE false u123 1 24 (Me 4 (up 1 ((up 1 y124).put (((J v1 (J v75 s94.2.2)).Loc).toNat) (false,0,u127+1))) 1 (s94.2.1.set (((J v1 (J v75 s94.2.2)).Loc).toNat) (qw.2++[(J v75 s94.2.2)])))::some ⟨0,2,29,[[hS b121 1 u120 1 qw.1.length,hS false 2 u123 1 n_]]⟩::some ⟨0,5,74,[(Mj.c (J v1 (J v75 s94.2.2)))]⟩::bE false (u127+1) 1 3 ((qw.2++[(J v75 s94.2.2)]).map cI)::kk125:AH)) (by simp:(s94.2.1.set (((J v1 (J v75 s94.2.2)).Loc).toNat) (qw.2++[(J v75 s94.2.2)])).length=s94.2.1.length)) (congrArg (fun r_:List (List AV)=>(some ⟨0,2,29,[[.nil,.nil]]⟩::bE b121 u120 1 3 (qw.1.map cI)::bE false u123 1 24 r_::some ⟨0,2,29,[[hS b121 1 u120 1 qw.1.length,hS false 2 u123 1 s94.2.1.length]]⟩::some ⟨0,5,74,[(Mj.c (J v1 (J v75 s94.2.2)))]⟩::bE false (u127+1) 1 3 ((qw.2++[(J v75 s94.2.2)]).map cI)::kk125:AH)) (show (nxs 6 y124 1 s94.2.1 (((J v1 (J v75 s94.2.2)).Loc).toNat) false 5 (u127+1) ((qw.2++[(J v75 s94.2.2)]).length))=Me 4 (up 1 ((up 1 y124).put (((J v1 (J v75 s94.2.2)).Loc).toNat) (false,0,u127+1))) 1 (s94.2.1.set (((J v1 (J v75 s94.2.2)).Loc).toNat) (qw.2++[(J v75 s94.2.2)])) from ru (m:=5) (gh:=y124) (r:=(qw.2++[(J v75 s94.2.2)])) hN126.hi).symm)) Z⟩
       ·refine jG ?_;obtain rfl:=Mg h;exact ⟨((b121,u120),((up 1 ((up 1 y124).put (((J v1 (J v75 s94.2.2)).Loc).toNat) (b128,0,u127))),(some ⟨0,5,74,[(Mj.c (J v1 (J v75 s94.2.2)))]⟩::(bE b128 u127 1 3 (qw.2.map cI)::kk125)),u123)),⟨n122,((hN126.close (g:=b128) (v:=u127) (r:=qw.2) n129 qD).push (fun _ hb=>osi hb ▸ ak Z))⟩,kw (Eq.trans (congrArg (fun n_:Nat=>(some ⟨0,2,29,[[.nil,.nil]]⟩::bE b121 u120 1 3 (qw.1.map cI)::bE false u123 1 24 (Me 4 (up 1 ((up 1 y124).put (((J v1 (J v75 s94.2.2)).Loc).toNat) (b128,0,u127))) 1 (s94.2.1.set (((J v1 (J v75 s94.2.2)).Loc).toNat) qw.2))::some ⟨0,2,29,[[hS b121 1 u120 1 qw.1.length,hS false 2 u123 1 n_]]⟩::some ⟨0,5,74,[(Mj.c (J v1 (J v75 s94.2.2)))]⟩::bE b128 u127 1 3 (qw.2.map cI)::kk125:AH)) (by simp:(s94.2.1.set (((J v1 (J v75 s94.2.2)).Loc).toNat) qw.2).length=s94.2.1.length)) (congrArg (fun r_:List (List AV)=>(some ⟨0,2,29,[[.nil,.nil]]⟩::bE b121 u120 1 3 (qw.1.map cI)::bE false u123 1 24 r_::some ⟨0,2,29,[[hS b121 1 u120 1 qw.1.length,hS false 2 u123 1 s94.2.1.length]]⟩::some ⟨0,5,74,[(Mj.c (J v1 (J v75 s94.2.2)))]⟩::bE b128 u127 1 3 (qw.2.map cI)::kk125:AH)) (show (nxs 6 y124 1 s94.2.1 (((J v1 (J v75 s94.2.2)).Loc).toNat) b128 5 u127 qw.2.length)=Me 4 (up 1 ((up 1 y124).put (((J v1 (J v75 s94.2.2)).Loc).toNat) (b128,0,u127))) 1 (s94.2.1.set (((J v1 (J v75 s94.2.2)).Loc).toNat) qw.2) from ru (m:=5) (gh:=y124) (r:=qw.2) hN126.hi).symm)) Z⟩
      ·refine jI (oN (fa pO Z) (oA (lh (Bo ((J v1 (J v75 s94.2.2)).Reads)) ty4 Z Z Z) (jA ?_)));refine jN Z h (fun q116 h=>?_) (fun q116 h=>?_)
       ·refine jP (dG [dF,([3],false),dF,dF,dF,dF,dF,dF,dF,dF,dF,([5],false),dF,([1],true)]) (by kernel_rfl) (by kernel_rfl) (fN Z (fa wI Z) (fR [3] Z (fun G hG=>EvA.loadhp (hS b97 1 u96 1 s94.1.length) oH Z (hG.a0 Z) Z Z Z Z) (fN Z mv (fN Z mv (fN Z (Mc.ixL bf Z Z g107 qD) (fN Z (lf (I (J v75 s94.2.2)) Mx Z) (fN Z mv (fN Z mv (fN Z (Mc.lenO (g:=b110) bf Z (Bi n114 Z)) (jW h fun g117 h=>fN Z (Mc.sub Z Z g117) (jD h fun g118 h=>?_)))))))))));obtain rfl:=Ar n114 rfl g118;refine fN Z (Mc.ixO (g:=false) bf Z Z nofun g118) (fR [5] Z (fun G hG=>EvA.ldO (g:=false) (l:=(s94.2.1.getD (((J v1 (J v75 s94.2.2)).Loc).toNat) [])) (I ((s94.2.1.getD (((J v1 (J v75 s94.2.2)).Loc).toNat) []).getD ((((s94.2.1.getD (((J v1 (J v75 s94.2.2)).Loc).toNat) []).length:Int)-V).toNat) default)) Mx Z (hG.a0 Z) nofun (ay Z g118) Z) (jD h fun g119 h=>?_));obtain rfl:=Ar n98 rfl g119;refine fN Z (Mc.ixO (g:=false) bf Z Z nofun g119) (fV 1 [] Z Z (fun G hG=>EvA.stO (g:=false) (l:=s94.1) (cs:=[I ((s94.2.1.getD (((J v1 (J v75 s94.2.2)).Loc).toNat) []).getD ((((s94.2.1.getD (((J v1 (J v75 s94.2.2)).Loc).toNat) []).length:Int)-V).toNat) default)]) ((s94.2.1.getD (((J v1 (J v75 s94.2.2)).Loc).toNat) []).getD ((((s94.2.1.getD (((J v1 (J v75 s94.2.2)).Loc).toNat) []).length:Int)-V).toNat) default) Mx Z Z (hG.a0 Z) nofun (ay Z g119) Z Z Z) (jR ?_));obtain rfl:=Mg h;exact ⟨((false,u96),(y100,kk112,u99),(false,u111)),⟨nofun,hX113,nofun⟩,kw (congrArg (fun n_:Nat=>(some ⟨0,2,29,[[.nil,.nil]]⟩::bE false u96 1 3 ((s94.1.set ((J v75 s94.2.2).toNat) ((s94.2.1.getD (((J v1 (J v75 s94.2.2)).Loc).toNat) []).getD ((((s94.2.1.getD (((J v1 (J v75 s94.2.2)).Loc).toNat) []).length:Int)-(1:Int)).toNat) default)).map cI)::bE false u99 1 24 (nxs 6 y100 1 s94.2.1 (((J v1 (J v75 s94.2.2)).Loc).toNat) false 5 u111 ((s94.2.1.getD (((J v1 (J v75 s94.2.2)).Loc).toNat) []).length))::some ⟨0,2,29,[[hS false 1 u96 1 n_,hS false 2 u99 1 s94.2.1.length]]⟩::some ⟨0,5,74,[(Mj.c (J v1 (J v75 s94.2.2)))]⟩::bE false u111 1 3 ((s94.2.1.getD (((J v1 (J v75 s94.2.2)).Loc).toNat) []).map cI)::kk112:AH)) (by simp:(s94.1.set ((J v75 s94.2.2).toNat) ((s94.2.1.getD (((J v1 (J v75 s94.2.2)).Loc).toNat) []).getD ((((s94.2.1.getD (((J v1 (J v75 s94.2.2)).Loc).toNat) []).length:Int)-(1:Int)).toNat) default)).length=s94.1.length)) Z⟩
       ·refine jG ?_
        cases h
        exact ⟨((b97,u96),(y100,kk112,u99),(b110,u111)),⟨n98,hX113,n114⟩,kw Z Z⟩
    ·refine jM (lX h fun h=>?_)
     cases h
     exact ⟨((b97,u96),(b103,y100,kk101,u99)),⟨n98,hN102,n104⟩,kw Z Z⟩
  ·refine jI (oN as' (jA (jE ?_)));refine jO (S:=(LL)×Int) (G:=(Bool×NG×AH×Nat)) l4 (fun s58 gh=>NN gh.2.2.1 gh.2.1 1 3 cI s58.1/\(gh.1=true->s58.1=[])) (fun s58 gh=>[(8,I s58.2),(6,.hp 3 0 2 0 0),(5,eL Mj.c v1),(4,.hp 0 0 2 0 0),(0,eL (cL Mh.c) p),(1,eL cI schedule)]) (fun s58 gh=>(some ⟨0,2,29,[[.nil,.nil]]⟩::bE b35 u34 1 3 (s2.1.map cI)::bE gh.1 gh.2.2.2 1 24 (Me 4 gh.2.1 1 s58.1)::some ⟨0,2,29,[[hS b35 1 u34 1 s2.1.length,hS gh.1 2 gh.2.2.2 1 s58.1.length]]⟩::gh.2.2.1)) (s0:=(s2.2,U)) (b41,y38,kk39,u37) h ⟨hN40,n42⟩ (kw Z Z) (fun s58 gh ws58 h hg=>?_);obtain ⟨b64,y61,kk62,u60⟩:=gh;obtain ⟨hN63,n65⟩:=hg;refine jH (jI (oN mv (oN (Mc.ile Z Z) (jA ?_))));refine jN Z h (fun q66 h=>?_) (fun q66 h=>?_)
   ·refine jG (jH (jE (jC (oN (fa wI Z) (oA (lh (hS b64 2 u60 1 s58.1.length) Dx Z Z Z) (oN mv (oA (EvA.mkO (c:=cI) ([s58.2]:LI) [[I s58.2]] bf Z Z Z qD Z Z) (TO.reid (e0:=au [(34,hS false 4 0 1 (([s58.2]:LI).length)),(32,hS b64 2 u60 1 s58.1.length),(8,I s58.2),(6,.hp 3 0 2 0 0),(5,eL Mj.c v1),(4,.hp 0 0 2 0 0),(0,eL (cL Mh.c) p),(1,eL cI schedule)]) (Reid.rot (m:=4) (S:=[some ⟨0,2,29,[[.nil,.nil]]⟩,bE b35 u34 1 3 (s2.1.map cI),bE b64 u60 1 24 (Me 4 y61 1 s58.1),some ⟨0,2,29,[[hS b35 1 u34 1 s2.1.length,hS b64 2 u60 1 s58.1.length]]⟩]) (S':=[some ⟨0,2,29,[[.nil,.nil]]⟩,bE b35 u34 1 3 (s2.1.map cI),bE b64 u60 1 24 (Me 5 y61 1 s58.1),some ⟨0,2,29,[[hS b35 1 u34 1 s2.1.length,hS b64 2 u60 1 s58.1.length]]⟩]) (K:=kk62) (x:=bE false 0 1 3 (([s58.2]:LI).map cI)) (x':=bE false 0 1 3 (([s58.2]:LI).map cI)) Z Z Z (.some (.rowL (.cons .nil (.cons .nil .nil))) (.bE qD (.nest (hN63.renK Z) (.some (.rowL (.cons (aS (Mf.low Z)) (.cons (aS (Mf.low Z)) .nil))) .nil)))) hN63.kf (.bE qD .nil)) (aB (a0:=hS false (kk62.length+4) 0 1 (([s58.2]:LI).length)) Z (aS Mf.new) (aB (a0:=hS b64 2 u60 1 s58.1.length) Z (aS (Mf.low Z)) (aT Z Z (aB (a0:=.hp 3 0 2 0 0) Z (.hp (Mf.low Z)) (aT Z Z (aB (a0:=.hp 0 0 2 0 0) Z (.hp (Mf.low Z)) (aT Z Z (aT Z Z iL)))))))) (oA (EvA.mkR [[hS false 4 0 1 (([s58.2]:LI).length)]] xE Z Z Z Z) (TO.reid (e0:=au [(35,hS false 5 0 1 1),(32,hS b64 2 u60 1 s58.1.length),(8,I s58.2),(6,.hp 3 0 2 0 0),(5,eL Mj.c v1),(4,.hp 0 0 2 0 0),(0,eL (cL Mh.c) p),(1,eL cI schedule)]) (Reid.rot (m:=5) (S:=[some ⟨0,2,29,[[.nil,.nil]]⟩,bE b35 u34 1 3 (s2.1.map cI),bE b64 u60 1 24 (Me 5 y61 1 s58.1),some ⟨0,2,29,[[hS b35 1 u34 1 s2.1.length,hS b64 2 u60 1 s58.1.length]]⟩,bE false 0 1 3 (([s58.2]:LI).map cI)]) (S':=[some ⟨0,2,29,[[.nil,.nil]]⟩,bE b35 u34 1 3 (s2.1.map cI),bE b64 u60 1 24 (Me 6 y61 1 s58.1),some ⟨0,2,29,[[hS b35 1 u34 1 s2.1.length,hS b64 2 u60 1 s58.1.length]]⟩,bE false 0 1 3 (([s58.2]:LI).map cI)]) (K:=kk62) (x:=bE false 0 1 24 (([]:LL).map (cL cI)++[[hS false 4 0 1 (([s58.2]:LI).length)]])) (x':=bE false 0 1 24 (([]:LL).map (cL cI)++[[hS false 4 0 1 (([s58.2]:LI).length)]])) Z Z Z (.some (.rowL (.cons .nil (.cons .nil .nil))) (.bE qD (.nest (hN63.renK Z) (.some (.rowL (.cons (aS (Mf.low Z)) (.cons (aS (Mf.low Z)) .nil))) (.bE qD .nil))))) hN63.kf (.nest (.rowsL (.cons (.cons (aS (Mf.low Z)) .nil) .nil)) .nil)) (aB (a0:=hS false (kk62.length+5) 0 1 1) Z (aS Mf.new) (aB (a0:=hS b64 2 u60 1 s58.1.length) Z (aS (Mf.low Z)) (aT Z Z (aB (a0:=.hp 3 0 2 0 0) Z (.hp (Mf.low Z)) (aT Z Z (aB (a0:=.hp 0 0 2 0 0) Z (.hp (Mf.low Z)) (aT Z Z (aT Z Z iL)))))))) ?_))))))))));refine jL h fun g67 h=>oA (EvA.appR (g:=b64) (rows:=(Me 6 y61 1 s58.1)) (rows':=(Me 6 y61 1 s58.1++[[hS false 4 0 1 (([s58.2]:LI).length)]])) (n':=(s58.1++[([s58.2]:LI)]).length) xE (by kernel_rfl) Z Z lJ.symm (fun q=>by rw [n65 q];rfl) (bG.raw (rows:=[[hS false 4 0 1 (([s58.2]:LI).length)]]) Z Z Z) g67 Z (by simp)) (TO.reid (e0:=au [(36,hS false 2 (u60+1) 1 ((s58.1++[([s58.2]:LI)]).length)),(8,I s58.2),(6,.hp 3 0 2 0 0),(5,eL Mj.c v1),(4,.hp 0 0 2 0 0),(0,eL (cL Mh.c) p),(1,eL cI schedule)]) (Reid.take (a:=4) (S:=[some ⟨0,2,29,[[.nil,.nil]]⟩,bE b35 u34 1 3 (s2.1.map cI),bE false (u60+1) 1 24 (Me 6 y61 1 s58.1++[[hS false 4 0 1 (([s58.2]:LI).length)]]),some ⟨0,2,29,[[hS b35 1 u34 1 s2.1.length,hS b64 2 u60 1 s58.1.length]]⟩]) (S':=[some ⟨0,2,29,[[.nil,.nil]]⟩,bE b35 u34 1 3 (s2.1.map cI),bE false (u60+1) 1 24 (Me 4 ((up 1 y61).put s58.1.length (false,0,0)) 1 (s58.1++[([s58.2]:LI)])),some ⟨0,2,29,[[hS b35 1 u34 1 s2.1.length,hS b64 2 u60 1 s58.1.length]]⟩]) (K:=kk62) (x2:=bE false 0 1 3 (([s58.2]:LI).map cI)) (x2':=bE false 0 1 3 (([s58.2]:LI).map cI)) Z Z (.some (.rowL (.cons .nil (.cons .nil .nil))) (.bE qD (.nest (NN.renTk) (.some (.rowL (.cons (aS (Tk.low Z)) (.cons (aS (Tk.low Z)) .nil))) .nil)))) hN63.kf (.bE qD .nil)) (aB (a0:=hS false 2 (u60+1) 1 ((s58.1++[([s58.2]:LI)]).length)) Z (aS (Tk.low Z)) (aT Z Z (aB (a0:=.hp 3 0 2 0 0) Z (.hp (Tk.low Z)) (aT Z Z (aB (a0:=.hp 0 0 2 0 0) Z (.hp (Tk.low Z)) (aT Z Z (aT Z Z iL))))))) (oN (fa wI Z) (oV (sr [hS b35 1 u34 1 s2.1.length,hS false 2 (u60+1) 1 ((s58.1++[([s58.2]:LI)]).length)] Dx Z Z Z Z) (jA (jC (oN mv (jW h fun g68 h=>oN (Mc.add Z Z g68) (oN as' (jA ?_)))))))));obtain rfl:=Mg h;exact ⟨((s58.1++[([s58.2]:LI)]),(s58.2+V)),(false,((up 1 y61).put s58.1.length (false,0,0)),(bE false 0 1 3 (([s58.2]:LI).map cI)::kk62),u60+1),Z,⟨(hN63.snoc (g:=false) (ver:=0) (r:=([s58.2]:LI)) nofun qD),nofun⟩,kw Z Z⟩
   ·refine jM (lX h fun h=>?_)
    cases h
    exact ⟨(b64,y61,kk62,u60),⟨hN63,n65⟩,kw Z Z⟩
 ·refine jI (oN as' (jA (jE ?_)));refine jO (S:=(LI)×(LL)×Int) (G:=(Bool×Nat)×(Bool×NG×AH×Nat)) (lZ v1) (fun s20 gh=>(gh.1.1=true->s20.1=[])/\NN gh.2.2.2.1 gh.2.2.1 1 3 cI s20.2.1/\(gh.2.1=true->s20.2.1=[])) (fun s20 gh=>[(7,I s20.2.2),(6,.hp 3 0 2 0 0),(5,eL Mj.c v1),(4,.hp 0 0 2 0 0),(0,eL (cL Mh.c) p),(1,eL cI schedule)]) (fun s20 gh=>(some ⟨0,2,29,[[.nil,.nil]]⟩::bE gh.1.1 gh.1.2 1 3 (s20.1.map cI)::bE gh.2.1 gh.2.2.2.2 1 24 (Me 4 gh.2.2.1 1 s20.2.1)::some ⟨0,2,29,[[hS gh.1.1 1 gh.1.2 1 s20.1.length,hS gh.2.1 2 gh.2.2.2.2 1 s20.2.1.length]]⟩::gh.2.2.2.1)) (s0:=(([]:LI),([]:LL),U)) ((true,0),(true,(fun _=>(true,0,0)),([]:AH),0)) h ⟨qD,(NN.nil (gh:=(fun _=>(true,0,0))) (w:=1) (ty:=3) (f:=cI)),qD⟩ (kw Z Z) (fun s20 gh ws20 h hg=>?_);obtain ⟨⟨b23,u22⟩,⟨b29,y26,kk27,u25⟩⟩:=gh;obtain ⟨n24,hN28,n30⟩:=hg;refine jH (jI (oN mv (oN mv (oN (Mc.lenL vF Z) (oN (Mc.ilt Z Z) (jA ?_))))));refine jN Z h (fun q31 h=>?_) (fun q31 h=>?_)
  ·refine jG (jH (jE (jC (oN (fa wI Z) (oA (lh (hS b23 1 u22 1 s20.1.length) oH Z Z Z) (oN (Mc.mkF (c:=cI) ([(-1:Int)]:LI) [[I (-1:Int)]] bf Z Z Z qD qD Z) (jL h fun g32 h=>oA (EvA.app1 (g:=b23) (l:=s20.1) (-1:Int) bf (by kernel_rfl) Z Z Z n24 (bG.fz (l:=([(-1:Int)]:LI)) Z qD) g32) (oN (fa wI Z) (oV (sr [hS false 1 (u22+1) 1 ((s20.1++[(-1:Int)]).length),hS b29 2 u25 1 s20.2.1.length] oH Z Z Z Z) (jA (jC (oN mv (jW h fun g33 h=>oN (Mc.add Z Z g33) ?_)))))))))))));refine oN as' (jA ?_);obtain rfl:=Mg h;exact ⟨((s20.1++[(-1:Int)]),s20.2.1,(s20.2.2+V)),((false,u22+1),(b29,y26,kk27,u25)),Z,⟨nofun,hN28,n30⟩,kw Z Z⟩
  ·refine jM (lX h fun h=>?_)
   cases h
   exact ⟨((b23,u22),(b29,y26,kk27,u25)),⟨n24,hN28,n30⟩,kw Z Z⟩
theorem zQ (p:List (List Mh)) (schedule:LI) {q:Mi×Bool} (h:l6 p schedule=some q):aA Tryz.prog 10 [eL (cL Mh.c) p,eL cI schedule] (.tup [.agg (Mi.c q.1),Bo q.2]):=by
 refine pM Tryz.func10 Z (by kernel_rfl) Z (jI (oA (EvA.al EY Z Z) (oN as' (jA (jI (oN mv (oN mv (oC h (fun _=>uM _ _) Z Z Z Z fun v1 _ h=>oN mv (oN (Mc.ext (eL cI v1.1) Z Z) (oN (Mc.ext (Bo v1.2) Z Z) (oN as' (oN as' (jA (jH ?_))))))))))))));refine jI (oN mv (oN (Mc.not Z) (jA ?_)));refine jN Z h (fun q2 h=>?_) (fun q2 h=>?_)
 ·refine jI (oN (Mc.build [.nil,.nil] Tryz.underlying29 EY wI Z Z) (oV (sr [.nil,.nil] tG Z Z Z Z) (oN as' (jA (jK ?_)))));obtain rfl:=Mg h
  repeat (first|refine cn ?_|refine cu ?_)
  exact jQ (vs:=[.agg [.nil,.nil],Bo false]) (.cons (.cell (.agg [.nil,.nil]) tG Z Z Z Z Z Z) (.cons (.tmp Z) .nil)) (.tupL (.cons (Fz.aggL (.cons (.nil0) (.cons (.nil0) .nil))) (.cons (qC Z) .nil)))
 ·refine jG (jI (oN mv (oN mv (oC h (fun _=>yz _ _) Z Z Z Z fun v3 _ h=>oV (sr [eL cI v3.From,eL (cL cI) v3.Order] tG Z Z Z Z) (oN as' (jA (jK ?_)))))));obtain rfl:=Mg h
  repeat (first|refine cn ?_|refine cu ?_)
  exact jQ (vs:=[.agg [eL cI v3.From,eL (cL cI) v3.Order],Bo true]) (.cons (.cell (.agg [eL cI v3.From,eL (cL cI) v3.Order]) tG Z Z Z Z Z Z) (.cons (.tmp Z) .nil)) (.tupL (.cons (qC Z) (.cons (qC Z) .nil)))
theorem vH (x:LI) (y:LI) {q:Bool} (h:ng x y=some q):aA Tryz.prog 39 [eL cI x,eL cI y] (Bo q):=by
 refine pM Tryz.func39 Z (by kernel_rfl) Z (jI (oN as' (jA (jI (oN mv (oN mv (oC h (fun _=>gV _ _) Z Z Z Z fun v1 _ h=>oN as' (jA (jK ?_)))))))))
 cases h
 exact bP Z Z Z
theorem eB (s1_:LL) (s2_:LL) {q:Bool} (h:aJ s1_ s2_=some q):aA Tryz.prog 38 [eL (cL cI) s1_,eL (cL cI) s2_,.fn (.func 39) []] (Bo q):=by
 refine pM Tryz.func38 Z (by kernel_rfl) Z (jI (oN as' (jA (jH (jI (oN mv (oN (Mc.lenL xE Z) (oN mv (oN (Mc.lenL xE Z) (oN (Mc.ine Z Z) (jA ?_)))))))))));refine jN Z h (fun q1 h=>?_) (fun q1 h=>?_)
 ·refine jI (oN as' (jA (jK ?_)))
  cases h
  exact bP Z Z Z
 ·refine jG ?_;obtain ⟨Ks2,es2,ws2,h,ks2⟩:=sumL h;refine T.join (S:=Unit) (G:=Unit) (fun s2=>Ks2 s2=some q) (fun s2 gh=>True) (fun s2 gh=>[]) (fun s2 gh=>[]) (fun s2 gh h hg=>?_) ?_
  ·clear ks2;subst es2;refine jI (oN as' (jA (jK ?_)))
   cases h
   exact bP Z Z Z
  ·refine jI (oN mv (oN (Mc.lenL xE Z) (oN mv (jA (jE ?_)))));refine T.lU h (fun s5=>[(17,I s5),(16,I (s1_.length:Int)),(15,eL (cL cI) s1_),(1,eL (cL cI) s2_),(2,.fn (.func 39) [])]) (fun s5=>[]) (kw Z Z) (fun s5 ws5 h=>?_);refine jI (oN (Mc.ilt Z Z) (jA (jH ?_)));refine jN Z h (fun q7 h=>?_) (fun q7 h=>?_)
   ·refine jG (jH (jE (jI (oN mv (jD h fun g8 h=>oN (Mc.ixL xE Z Z g8 qD) (oN (lf (eL cI (J s1_ s5)) oH Z) (oN as' (oN as' (jA (jI (oN mv (oN mv (jD h fun g9 h=>oN (Mc.ixL xE Z Z g9 qD) ?_)))))))))))));refine oN (lf (eL cI (J s2_ s5)) oH Z) (oN as' (jA (jI (oN mv (oN mv (oN mv (oC h (fun _=>vH _ _) Z Z Z Z fun v10 _ h=>oN (Mc.not Z) (jA ?_))))))));refine jN Z h (fun q11 h=>?_) (fun q11 h=>?_)
    ·refine jH (T.clean (H0:=[]) (e0:=au []) Z Ma (jC (oN as' (jA (jK (lX h fun h=>?_))))));obtain rfl:=Mg h;replace h:=congrArg some (show _=_ from ks2)
     cases h
     exact bP Z Z Z
    ·refine jG (T.clean (H0:=[]) (e0:=au [(17,I s5),(16,I (s1_.length:Int)),(15,eL (cL cI) s1_),(1,eL (cL cI) s2_),(2,.fn (.func 39) [])]) Z (Mb Z (Mb Z (Mb Z (Mb Z (Mb Z Ma))))) (jC (jW h fun g12 h=>oN (Mc.add Z Z g12) (oN mv (jA ?_)))));exact lE h (kw Z Z)
   ·refine jM (lX h fun h=>?_)
    cases h
    exact ⟨(),(),ks2,trivial,kw Z Z⟩
theorem rI (a:Mi) (b:Mi) {q:Bool} (h:gz a b=some q):aA Tryz.prog 11 [.agg (Mi.c a),.agg (Mi.c b)] (Bo q):=by
 refine pM Tryz.func11 Z (by kernel_rfl) Z (jI (oN (Mc.bxF (Mi.c a) Z Z Z) (oN (Mc.bxF (Mi.c b) Z Z Z) (oN as' (jA (jI (oN (fa wI Z) (oN (lf (eL cI a.From) oH Z) (oN (fa wI Z) (oN (lf (eL cI b.From) oH Z) (oC h (fun _=>gV _ _) Z Z Z Z fun v1 _ h=>oN mv ?_)))))))))));refine TO.jB h 6 (fun s2=>[(16,Bo s2)]) (fun s2=>[]) (fun s2 q3 h js2=>?_) (fun s2 q3 h js2=>?_) (fun s2 h=>?_)
 ·refine gN Z q3 (fa wI Z) (gN Z q3 (lf (eL (cL cI) a.Order) Dx Z) (gN Z q3 (fa wI Z) (gN Z q3 (lf (eL (cL cI) b.Order) Dx Z) (jB h fun v4 cv4 h=>gN Z q3 (Mc.call Z Z Z (eB a.Order b.Order cv4) Z) (oN (Mc.pickT Z q3 (Bo v4) Z) ?_)))))
  cases h
  exact js2 _ _ (kw Z Z)
 ·refine gS Z q3 (gS Z q3 (gS Z q3 (gS Z q3 (gS Z q3 (oN (Mc.pickF Z q3 (Bo false) Z) ?_)))))
  cases h
  exact js2 _ _ (kw Z Z)
 ·refine oN as' (jA (jK ?_))
  cases h
  exact bP Z Z Z
set_option maxHeartbeats 4000000 in
theorem qH (p:List (List Mh)) (x:Mi) {q:Bool} (h:fB p x=some q):aA Tryz.prog 20 [eL (cL Mh.c) p,.agg (Mi.c x)] (Bo q):=by
 refine pM Tryz.func20 Z (by kernel_rfl) Z (jI (oN (Mc.bxF [eL cI x.From,eL (cL cI) x.Order] Z Z Z) (oN as' (jA (jH (jI (oN mv (oC h (fun _=>nR _) Z Z Z Z fun v1 _ h=>oN (Mc.not Z) (jA ?_)))))))));refine jN Z h (fun q2 h=>?_) (fun q2 h=>?_)
 ·refine jI (oN as' (jA (jK ?_)))
  cases h
  exact bP Z Z Z
 ·refine jG (jI (oN mv (oC h (fun _=>jl _) Z Z Z Z fun v3 _ h=>oN as' (jA (jH (jI (oN (fa wI Z) (oN (lf (eL cI x.From) oH Z) (oN (Mc.lenL bf Z) (oN mv (oN (Mc.lenL vF Z) (oN (Mc.ine Z Z) (oN mv ?_)))))))))))));refine TO.jB h 5 (fun s4=>[(28,Bo s4),(5,eL Mj.c v3),(3,.fp (Mi.c x) 0)]) (fun s4=>[]) (fun s4 q5 h js4=>?_) (fun s4 q5 h js4=>?_) (fun s4 h=>?_)
  ·refine gS Z q5 (gS Z q5 (gS Z q5 (gS Z q5 (oN (Mc.pickT Z q5 (Bo true) Z) ?_))))
   cases h
   exact js4 _ _ (kw Z Z)
  ·refine gN Z q5 (fa wI Z) (gN Z q5 (lf (eL (cL cI) x.Order) Dx Z) (gN Z q5 (Mc.lenL xE Z) (gN Z q5 (Mc.ine Z Z) (oN (Mc.pickF Z q5 (Bo ((x.Order.length:Int) != (3:Int))) Z) ?_))))
   cases h
   exact js4 _ _ (kw Z Z)
  ·refine jA ?_;refine jN Z h (fun q6 h=>?_) (fun q6 h=>?_)
   ·refine jI (oN as' (jA (jK ?_)))
    cases h
    exact bP Z Z Z
   ·refine jG ?_;obtain ⟨Ks7,es7,ws7,h,ks7⟩:=sumL h;refine T.join (S:=Unit) (G:=Unit) (fun s7=>Ks7 s7=some q) (fun s7 gh=>True) (fun s7 gh=>[(5,eL Mj.c v3),(3,.fp (Mi.c x) 0)]) (fun s7 gh=>[]) (fun s7 gh h hg=>?_) ?_
    ·clear ks7;subst es7;obtain ⟨Ks27,es27,ws27,h,ks27⟩:=sumL h;refine T.join (S:=Unit) (G:=Unit) (fun s27=>Ks27 s27=some q) (fun s27 gh=>True) (fun s27 gh=>[]) (fun s27 gh=>[]) (fun s27 gh h hg=>?_) ?_
     ·clear ks27;subst es27;refine jI (oN as' (jA (jK ?_)))
      cases h
      exact bP Z Z Z
     ·refine jI (oN (fa wI Z) (oN (lf (eL (cL cI) x.Order) Dx Z) (oN (Mc.lenL xE Z) (oN mv (jA (jE ?_))))));refine T.lU h (fun s30=>[(70,I s30),(69,I (x.Order.length:Int)),(68,eL (cL cI) x.Order),(5,eL Mj.c v3)]) (fun s30=>[]) (kw Z Z) (fun s30 ws30 h=>?_);refine jI (oN (Mc.ilt Z Z) (jA (jH ?_)));refine jN Z h (fun q32 h=>?_) (fun q32 h=>?_)
      ·refine jG (jH (jE (jI (oN mv (jD h fun g33 h=>oN (Mc.ixL xE Z Z g33 qD) (oN (lf (eL cI (J x.Order s30)) oH Z) (oN as' (oN as' (jA (jI (oN mv (jB h fun v34 cv34 h=>?_))))))))))));refine oG Z Z Z ((kF (J x.Order s30) cv34).own Z (wz qD) zm 0 Z) (fun g35 v36 n37=>?_);refine oN (Mc.asg (hS g35 0 v36 1 v34.length) Z) (jA (jI (oN mv (jB h fun v38 cv38 h=>oA (EvA.call Z Z Z ((zL v34 g35 v36 (fun x=>List.eq_nil_of_length_eq_zero (n37 x)) cv38).oneE Z (.cons (aS Z) .nil) (wz qD) (wz qD) Z)) (jA (jI (oN mv (oN mv (oN mv (oC h (fun _=>qG _ _) Z Z Z Z fun v39 _ h=>jB h fun v40 cv40 h=>oA (EvA.callT Z Z (gV v38 v39 cv40) (.cons (Fz.own (g:=g35) (ver:=v36) (l:=v38) Z Z (xm cv38).symm (fun x=>xk ((fun x=>List.eq_nil_of_length_eq_zero (n37 x)) x) cv38) qD) (.cons (qC Z) .nil)) Z) (oN (Mc.not Z) (oN mv ?_))))))))))));refine TO.jB h 6 (fun s41=>[(91,Bo s41),(70,I s30),(69,I (x.Order.length:Int)),(68,eL (cL cI) x.Order),(5,eL Mj.c v3)]) (fun s41=>[bE g35 v36 1 3 (v38.map cI)]) (fun s41 q42 h js41=>?_) (fun s41 q42 h js41=>?_) (fun s41 h=>?_)
       ·refine gS Z q42 (gS Z q42 (gS Z q42 (gS Z q42 (gS Z q42 (oN (Mc.pickT Z q42 (Bo true) Z) ?_)))))
        cases h
        exact js41 _ _ (kw Z Z)
       ·refine gN Z q42 mv (jD h fun g43 h=>gN Z q42 (Mc.ixL bf Z Z g43 qD) (gN Z q42 (lf (I (J (J x.Order s30) U)) Mx Z) (gN Z q42 mv (gN Z q42 (Mc.ine Z Z) (oN (Mc.pickF Z q42 (Bo ((J (J x.Order s30) U) != s30)) Z) ?_)))))
        cases h
        exact js41 _ _ (kw Z Z)
       ·refine jA ?_;refine jN Z h (fun q44 h=>?_) (fun q44 h=>?_)
        ·refine jI (oN as' (jA (jK (lX h fun h=>?_))));obtain rfl:=Mg h;replace h:=congrArg some (show _=_ from ks27)
         cases h
         exact bP Z Z Z
        ·refine jG (jC (jW h fun g45 h=>oN (Mc.add Z Z g45) (oN mv (jA ?_))));exact lE h (mR Z .nil (aj (.fz (qC Z)) (aj (.fz (qC Z)) (aj (.fz (qC Z)) (aj (.fz (qC Z)) aN)))))
      ·refine jM (lX h fun h=>?_)
       cases h
       exact ⟨(),(),ks27,trivial,kw Z Z⟩
    ·refine jI (oN mv (oN (Mc.lenL vF Z) (oN mv (jA (jE ?_)))));refine T.lU h (fun s10=>[(31,I s10),(30,I (v3.length:Int)),(29,eL Mj.c v3),(5,eL Mj.c v3),(3,.fp (Mi.c x) 0)]) (fun s10=>[]) (kw Z Z) (fun s10 ws10 h=>?_);refine jI (oN (Mc.ilt Z Z) (jA (jH ?_)));refine jN Z h (fun q12 h=>?_) (fun q12 h=>?_)
     ·refine jG (jH (jE (jI (oN mv (jD h fun g13 h=>oN (Mc.ixL vF Z Z g13 qD) (oN (lf (.agg (Mj.c (J v3 s10))) zG Z) (oA (EvA.al Eh Z Z) (oN as' (oV (sr (Mj.c (J v3 s10)) zG Z Z Z Z) (jA (jI (oN (fa wI Z) (oN (lf (eL cI x.From) oH Z) (oN mv ?_))))))))))))));refine jD h fun g14 h=>oN (Mc.ixL bf Z Z g14 qD) (oN (lf (I (J x.From s10)) Mx Z) (oN as' (jA (jI (oN (fa pO Z) (oA (lh (Bo ((J v3 s10).Reads)) ty4 Z Z Z) (oN (Mc.not Z) (oN mv ?_))))))));refine TO.jB h 3 (fun s15=>[(47,Bo s15),(8,I (J x.From s10)),(6,I s10),(7,.hp 0 0 5 0 0),(31,I s10),(30,I (v3.length:Int)),(29,eL Mj.c v3),(5,eL Mj.c v3),(3,.fp (Mi.c x) 0)]) (fun s15=>[some ⟨0,5,74,[(Mj.c (J v3 s10))]⟩]) (fun s15 q16 h js15=>?_) (fun s15 q16 h js15=>?_) (fun s15 h=>?_)
      ·refine gN Z q16 mv (gN Z q16 (Mc.ine Z Z) (oN (Mc.pickT Z q16 (Bo ((J x.From s10) != (-1:Int))) Z) ?_))
       cases h
       exact js15 _ _ (kw Z Z)
      ·refine gS Z q16 (gS Z q16 (oN (Mc.pickF Z q16 (Bo false) Z) ?_))
       cases h
       exact js15 _ _ (kw Z Z)
      ·refine oN mv ?_;refine TO.jB h 17 (fun s17=>[(65,Bo s17),(31,I s10),(30,I (v3.length:Int)),(29,eL Mj.c v3),(5,eL Mj.c v3),(3,.fp (Mi.c x) 0)]) (fun s17=>[some ⟨0,5,74,[(Mj.c (J v3 s10))]⟩]) (fun s17 q18 h js17=>?_) (fun s17 q18 h js17=>?_) (fun s17 h=>?_)
       ·refine gS Z q18 (gS Z q18 (gS Z q18 (gU Z (gU Z (gU Z (gU Z (gU Z (gU Z (gU Z (gU Z (gU Z (gU Z (gU Z (gU Z (gS Z q18 ?_)))))))))))))));refine oN (Mc.pickT Z q18 (Bo true) Z) ?_
        cases h
        exact js17 _ _ (kw Z Z)
       ·refine gN Z q18 (fa pO Z) (gA Z q18 (lh (Bo ((J v3 s10).Reads)) ty4 Z Z Z) (gN Z q18 mv ?_));refine TO.jB h 13 (fun s19=>[(64,Bo s19),(51,Bo ((J v3 s10).Reads)),(50,Bo ((J v3 s10).Reads)),(49,.hp 0 0 5 0 3),(48,Bo s15),(31,I s10),(30,I (v3.length:Int)),(29,eL Mj.c v3),(5,eL Mj.c v3),(3,.fp (Mi.c x) 0)]) (fun s19=>[some ⟨0,5,74,[(Mj.c (J v3 s10))]⟩]) (fun s19 q20 h js19=>?_) (fun s19 q20 h js19=>?_) (fun s19 h=>?_)
        ·refine gN Z q20 mv (gN Z q20 mv (gN Z q20 (Mc.ieq Z Z) (gN Z q20 mv ?_)));refine TO.jB h 8 (fun s21=>[(63,Bo s21),(55,Bo ((J x.From s10)==s10)),(54,Bo ((J x.From s10)==s10)),(53,I s10),(52,I (J x.From s10)),(51,Bo ((J v3 s10).Reads)),(50,Bo ((J v3 s10).Reads)),(49,.hp 0 0 5 0 3),(48,Bo s15),(31,I s10),(30,I (v3.length:Int)),(29,eL Mj.c v3),(5,eL Mj.c v3),(3,.fp (Mi.c x) 0)]) (fun s21=>[some ⟨0,5,74,[(Mj.c (J v3 s10))]⟩]) (fun s21 q22 h js21=>?_) (fun s21 q22 h js21=>?_) (fun s21 h=>?_)
         ·refine gS Z q22 (gS Z q22 (gS Z q22 (gS Z q22 (gS Z q22 (gS Z q22 (gS Z q22 (gN Z q20 (Mc.pickT Z q22 (Bo true) Z) ?_)))))))
          cases h
          exact js21 _ _ (kw Z Z)
         ·refine gN Z q22 mv (gN Z q22 (fa pO Z) (gA Z q22 (lh (I ((J v3 s10).Loc)) Mx Z Z Z) (jB h fun v23 cv23 h=>gN Z q22 (Mc.call Z Z Z (qG v3 ((J v3 s10).Loc) cv23) Z) (gN Z q22 mv (jB h fun v24 cv24 h=>gN Z q22 (Mc.call Z Z Z (ji v23 (J x.From s10) cv24) Z) (gN Z q22 (Mc.not Z) (gN Z q20 (Mc.pickF Z q22 (Bo (!v24)) Z) ?_)))))))
          cases h
          exact js21 _ _ (kw Z Z)
         ·refine gN Z q18 (Mc.pickT Z q20 (Bo s21) Z) ?_
          cases h
          exact js19 _ _ (kw Z Z)
        ·refine gS Z q20 (gS Z q20 (gS Z q20 (gS Z q20 (gU Z (gU Z (gU Z (gU Z (gU Z (gU Z (gU Z (gS Z q20 (gN Z q18 (Mc.pickF Z q20 (Bo false) Z) ?_))))))))))))
         cases h
         exact js19 _ _ (kw Z Z)
        ·refine oN (Mc.pickF Z q18 (Bo s19) Z) ?_
         cases h
         exact js17 _ _ (kw Z Z)
       ·refine jA ?_;refine jN Z h (fun q25 h=>?_) (fun q25 h=>?_)
        ·refine jI (oN as' (jA (jK (lX h fun h=>?_))));obtain rfl:=Mg h;replace h:=congrArg some (show _=_ from ks7)
         cases h
         exact bP Z Z Z
        ·refine jG (jC (jW h fun g26 h=>oN (Mc.add Z Z g26) (oN mv (jA ?_))));exact lE h (mR Z .nil (aj (.fz (qC Z)) (aj (.fz (qC Z)) (aj (.fz (qC Z)) (aj (.fz (qC Z)) (aj (.fz (qC Z)) aN))))))
     ·refine jM (lX h fun h=>?_)
      cases h
      exact ⟨(),(),ks7,trivial,kw Z Z⟩
theorem wN (name:ByteArray) {q:ByteArray} (h:kJ name=some q):aA Tryz.prog 45 [St name] (St q):=by
 refine pM Tryz.func45 Z (by kernel_rfl) Z (jI (oN as' (jA (jH (jI (oN mv (jA (jE (jI (oN (Mc.seq Z Z) (oN as' (jA ?_))))))))))));refine jN Z h (fun q1 h=>?_) (fun q1 h=>?_)
 ·refine jI (oN as' (jA (jK ?_)))
  cases h
  exact bP Z Z Z
 ·refine jI (oN (Mc.seq Z Z) (oN as' (jA ?_)));refine jN Z h (fun q2 h=>?_) (fun q2 h=>?_)
  ·refine jI (oN as' (jA (jK ?_)))
   cases h
   exact bP Z Z Z
  ·refine jI (oN (Mc.seq Z Z) (oN as' (jA ?_)));refine jN Z h (fun q3 h=>?_) (fun q3 h=>?_)
   ·refine jI (oN as' (jA (jK ?_)))
    cases h
    exact bP Z Z Z
   ·refine jI (oN (Mc.seq Z Z) (oN as' (jA ?_)));refine jN Z h (fun q4 h=>?_) (fun q4 h=>?_)
    ·refine jI (oN as' (jA (jK ?_)))
     cases h
     exact bP Z Z Z
    ·refine jI (oN (Mc.seq Z Z) (oN as' (jA ?_)));refine jN Z h (fun q5 h=>?_) (fun q5 h=>?_)
     ·refine jI (oN as' (jA (jK ?_)))
      cases h
      exact bP Z Z Z
     ·refine jG (jI (oN as' (jA (jK ?_))))
      cases h
      exact bP Z Z Z
theorem lG (s:ByteArray) (c:Int) {q:Int} (h:bH s c=some q):aA Tryz.prog 256 [St s,Y c] (I q):=by
 refine pM Tryz.func256 Z (by kernel_rfl) Z (jI (oN as' (jA (jI (oN mv (oN mv (oN (Mc.extIndex Z Z Z Z Z Tryz.func281 (by kernel_rfl) (by kernel_rfl) (by kernel_rfl) (by kernel_rfl)) (oN as' (jA (jK ?_))))))))))
 cases h
 exact bP Z Z Z
theorem gY (s:ByteArray) (substr:ByteArray) {q:Int} (h:bB s substr=some q):aA Tryz.prog 211 [St s,St substr] (I q):=by
 refine pM Tryz.func211 Z (by kernel_rfl) Z (jI (oN as' (jA (jI (oN mv (oN (Mc.lenst Tryz.underlying9 Z) (oN as' (jA (jH (jE (jI (oN mv (oN (Mc.ieq Z Z) (oN mv ?_))))))))))))));refine TO.jB h 4 (fun s1=>[(23,Bo s1),(5,I (substr.size:Int)),(0,St s),(1,St substr)]) (fun s1=>[]) (fun s1 q2 h js1=>?_) (fun s1 q2 h js1=>?_) (fun s1 h=>?_)
 ·refine gS Z q2 (gS Z q2 (gS Z q2 (oN (Mc.pickT Z q2 (Bo true) Z) ?_)))
  cases h
  exact js1 _ _ (kw Z Z)
 ·refine gN Z q2 mv (gN Z q2 mv (gN Z q2 (Mc.seq Z Z) (oN (Mc.pickF Z q2 (Bo (decide (substr=s))) Z) ?_)))
  cases h
  exact js1 _ _ (kw Z Z)
 ·refine oN as' (jA ?_);refine jN Z h (fun q3 h=>?_) (fun q3 h=>?_)
  ·refine jI (oN as' (jA (jK ?_)))
   cases h
   exact bP Z Z Z
  ·refine jI (oN mv (oN (Mc.ieq Z Z) (oN as' (jA ?_))));refine jN Z h (fun q4 h=>?_) (fun q4 h=>?_)
   ·refine jI (oN mv (oN mv (jD h fun g5 h=>oN (Mc.ixst Tryz.underlying9 Z Z g5) (oC h (fun _=>lG _ _) Z Z Z Z fun v6 _ h=>oN as' (jA (jK ?_))))))
    cases h
    exact bP Z Z Z
   ·refine jI (oN mv (oN mv (oN (Mc.lenst Tryz.underlying9 Z) (oN (Mc.ige Z Z) (oN as' (jA ?_))))));refine jN Z h (fun q7 h=>?_) (fun q7 h=>?_)
    ·refine jI (oN as' (jA (jK ?_)))
     cases h
     exact bP Z Z Z
    ·cases h
theorem rJ (s:ByteArray) (substr:ByteArray) {q:Int} (h:iU s substr=some q):aA Tryz.prog 210 [St s,St substr] (I q):=by
 refine pM Tryz.func210 Z (by kernel_rfl) Z (jI (oN as' (jA (jI (oN mv (oN mv (oC h (fun _=>gY _ _) Z Z Z Z fun v1 _ h=>oN as' (jA (jK ?_)))))))))
 cases h
 exact bP Z Z Z
theorem xL (s:ByteArray) (substr:ByteArray) {q:Int} (h:l8 s substr=some q):aA Tryz.prog 209 [St s,St substr] (I q):=by
 refine pM Tryz.func209 Z (by kernel_rfl) Z (jI (oN as' (jA (jH (jI (oN mv (oN (Mc.lenst Tryz.underlying9 Z) (oN (Mc.ieq Z Z) (jA ?_)))))))));refine jN Z h (fun q1 h=>?_) (fun q1 h=>?_)
 ·cases h
 ·refine jG (jH (jI (oN mv (oN (Mc.lenst Tryz.underlying9 Z) (oN (Mc.ieq Z Z) (jA ?_))))));refine jN Z h (fun q2 h=>?_) (fun q2 h=>?_)
  ·refine jI (oN mv (oN mv (jD h fun g3 h=>oN (Mc.ixst Tryz.underlying9 Z Z g3) (oN (Mc.extCount Z Z Z Z Z Tryz.func255 (by kernel_rfl) (by kernel_rfl) (by kernel_rfl) (by kernel_rfl)) (oN as' (jA (jK ?_)))))))
   cases h
   exact bP Z Z Z
  ·refine jG (jI (oN as' (jA (jE ?_))));refine T.lU h (fun s6=>[(5,I s6.1),(0,St s6.2),(1,St substr)]) (fun s6=>[]) (kw Z Z) (fun s6 ws6 h=>?_);refine jE (jI (oN mv (oN mv (oC h (fun _=>rJ _ _) Z Z Z Z fun v8 _ h=>oN as' (jA (jH (jI (oN mv (oN (Mc.ieq Z Z) (jA ?_))))))))));refine jN Z h (fun q9 h=>?_) (fun q9 h=>?_)
   ·refine jI (oN mv (oN as' (jA (jK (lX h fun h=>?_)))))
    cases h
    exact bP Z Z Z
   ·refine jG (jI (oN mv (jW h fun g10 h=>oN (Mc.add Z Z g10) (oN as' (jA (jC (oN mv (oN mv (oN mv (oN (Mc.lenst Tryz.underlying9 Z) (jW h fun g11 h=>oN (Mc.add Z Z g11) (jD h fun g12 h=>oN (Mc.slst Tryz.underlying9 Z (.yes Z) .no g12) ?_))))))))))));refine oN as' (jA ?_);exact lE h (kw Z Z)
set_option maxHeartbeats 4000000 in
theorem uN (s:ByteArray) (sep:ByteArray) (sepSave:Int) (n:Int) {q:(List ByteArray)} (h:iM s sep sepSave n=some q):aA Tryz.prog 154 [St s,St sep,I sepSave,I n] (eL cS q):=by
 refine pM Tryz.func154 Z (by kernel_rfl) Z (jI (oN as' (jA (jH (jI (oN mv (oN (Mc.ieq Z Z) (jA ?_))))))));refine jN Z h (fun q1 h=>?_) (fun q1 h=>?_)
 ·refine jI (oN as' (jA (jK ?_)));obtain rfl:=Mg h
  repeat (first|refine cn ?_|refine cu ?_)
  exact jQ (vs:=[.nil]) (.cons (.tmp Z) .nil) .nil0
 ·refine jG (jH (jI (oN mv (oN (Mc.seq Z Z) (jA ?_)))));refine jN Z h (fun q2 h=>?_) (fun q2 h=>?_)
  ·cases h
  ·refine jG ?_;refine T.jU h (fun s3=>[(3,I s3),(0,St s),(1,St sep),(2,I sepSave)]) (fun s3=>[]) (fun s3 h=>?_) (fun s3 h=>?_)
   ·refine jI (oN mv (oN mv (oN (Mc.lenst Tryz.underlying9 Z) (jW h fun g7 h=>oN (Mc.add Z Z g7) (oN (Mc.min Z Z) (oN as' (jA (jI (oN mv (jD h fun g8 h=>oA (EvA.mkN (c:=cS) (default:ByteArray) zH Z Z g8 Z Z Z) (oN (Mc.asg (hS false 0 0 1 ((List.replicate (if ((s.size:Int)+V)<s3 then ((s.size:Int)+V) else s3).toNat (default:ByteArray)).length)) Z) (jA (jI ?_)))))))))))));refine oN mv (jW h fun g9 h=>oN (Mc.sub Z Z g9) (oN as' (jA (jI (oN as' (jA ?_))))));refine T.jF (G:=Nat) h (fun s10 gh=>True) (fun s10 gh=>[(10,I s10.2.1),(9,hS false 0 gh 1 s10.1.length),(0,St s10.2.2)]) (fun s10 gh=>[bE false gh 1 9 (s10.1.map cS)]) (fun s10 u26 h hg=>?_) (fun s10 h=>?_)
    ·refine jI (oN mv (oN mv (oN mv (jD h fun g27 h=>oN (Mc.ixO (g:=false) zH Z Z nofun g27) (oV (EvA.stO (g:=false) (l:=s10.1) (cs:=[St s10.2.2]) s10.2.2 ty9 Z Z Z nofun (ay Z g27) Z Z Z) (jA (jI (oN mv (oN mv (jW h fun g28 h=>oN (Mc.add Z Z g28) (TO.cut (e0:=au [(64,I (s10.2.1+(1:Int))),(62,eL cS (s10.1.set s10.2.1.toNat s10.2.2))]) (H0:=[]) (mR Z .nil (aj (.fz (qC Z)) (aj (.fz (Fz.own (g:=false) (ver:=u26) (l:=(s10.1.set s10.2.1.toNat s10.2.2)) Z Z (by simp) nofun qD)) aN))) (jD h fun g29 h=>oN (Mc.slL zH Z .no (.yes Z) g29 qD) ?_))))))))))));refine oN as' (jA (jK ?_))
     cases h
     exact bP Z Z Z
    ·refine jE ?_;refine jO (S:=(List ByteArray)×Int×ByteArray) (G:=Nat) (eY s sep sepSave s3) (fun s14 gh=>True) (fun s14 gh=>[(10,I s14.2.1),(3,I ((if ((s.size:Int)+V)<s3 then ((s.size:Int)+V) else s3)-V)),(9,hS false 0 gh 1 s14.1.length),(0,St s14.2.2),(1,St sep),(2,I sepSave)]) (fun s14 gh=>[bE false gh 1 9 (s14.1.map cS)]) (s0:=((List.replicate (if ((s.size:Int)+V)<s3 then ((s.size:Int)+V) else s3).toNat (default:ByteArray)),U,s)) 0 h trivial (kw Z Z) (fun s14 u16 ws14 h hg=>?_);refine jH (jI (oN mv (oN mv (oN (Mc.ilt Z Z) (jA ?_)))));refine jN Z h (fun q17 h=>?_) (fun q17 h=>?_)
     ·refine jG (jE (jI (oN mv (oN mv (oC h (fun _=>rJ _ _) Z Z Z Z fun v18 _ h=>oN as' (jA (jH (jI (oN mv (oN (Mc.ilt Z Z) (jA ?_)))))))))));refine jN Z h (fun q19 h=>?_) (fun q19 h=>?_)
      ·refine jM (lX h fun h=>?_)
       cases h
       exact ⟨u16,trivial,kw Z Z⟩
      ·refine jG (jI (oN mv (oN mv (oN mv (oN mv (oN mv (jW h fun g20 h=>oN (Mc.add Z Z g20) (jD h fun g21 h=>oN (Mc.slst Tryz.underlying9 Z .no (.yes Z) g21) (jD h fun g22 h=>oN (Mc.ixO (g:=false) zH Z Z nofun g22) (oV (EvA.stO (g:=false) (l:=s14.1) (cs:=[St (s14.2.2.extract U.toNat (v18+sepSave).toNat)]) (s14.2.2.extract U.toNat (v18+sepSave).toNat) ty9 Z Z Z nofun (ay Z g22) Z Z Z) (jA (jH ?_))))))))))));refine T.clean (H0:=[bE false u16 1 9 ((s14.1.set s14.2.1.toNat (s14.2.2.extract U.toNat (v18+sepSave).toNat)).map cS)]) (e0:=au [(11,I v18),(10,I s14.2.1),(3,I ((if ((s.size:Int)+V)<s3 then ((s.size:Int)+V) else s3)-V)),(9,hS false 0 u16 1 s14.1.length),(0,St s14.2.2),(1,St sep),(2,I sepSave)]) Z (Mb Z (Mb Z (Mb Z (Mb Z (Mb Z (Mb Z (Mb Z Ma))))))) (jC (oN mv (oN mv (oN mv (oN (Mc.lenst Tryz.underlying9 Z) (jW h fun g23 h=>oN (Mc.add Z Z g23) (jD h fun g24 h=>oN (Mc.slst Tryz.underlying9 Z (.yes Z) .no g24) (oN as' (jA (jC (oN mv (jW h fun g25 h=>oN (Mc.add Z Z g25) ?_))))))))))));refine oN as' (jA ?_);obtain rfl:=Mg h;exact ⟨((s14.1.set s14.2.1.toNat (s14.2.2.extract (0:Int).toNat (v18+sepSave).toNat)),(s14.2.1+(1:Int)),(s14.2.2.extract (v18+(sep.size:Int)).toNat (s14.2.2.size:Int).toNat)),u16,Z,trivial,yc Z (Mb Z (Mb Z (Mb (congrArg (hS false 0 u16 1) (by simp:s14.1.length=(s14.1.set s14.2.1.toNat (s14.2.2.extract (0:Int).toNat (v18+sepSave).toNat)).length)) (Mb Z (Mb Z (Mb Z Ma))))))⟩
     ·refine jM (lX h fun h=>?_)
      cases h
      exact ⟨u16,trivial,kw Z Z⟩
   ·refine jI (oN mv (oN (Mc.ilt Z Z) (jA ?_)));refine jN Z h (fun q4 h=>?_) (fun q4 h=>?_)
    ·refine jC (oN mv (oN mv (oC h (fun _=>xL _ _) Z Z Z Z fun v5 _ h=>jW h fun g6 h=>oN (Mc.add Z Z g6) (oN as' (jA ?_)))))
     cases h
     exact ⟨(),trivial,kw Z Z⟩
    ·refine jG ?_
     cases h
     exact ⟨(),trivial,kw Z Z⟩
theorem xM (s:ByteArray) (sep:ByteArray) {q:(List ByteArray)} (h:l9 s sep=some q):aA Tryz.prog 96 [St s,St sep] (eL cS q):=by
 refine pM Tryz.func96 Z (by kernel_rfl) Z (jI (oN as' (jA (jI (oN mv (oN mv (oC h (fun _=>uN _ _ _ _) Z Z Z Z fun v1 _ h=>oN as' (jA (jK ?_)))))))))
 cases h
 exact bP Z Z Z
theorem pK (s:ByteArray) (sep:ByteArray) {q:ByteArray×ByteArray×Bool} (h:cV s sep=some q):aA Tryz.prog 155 [St s,St sep] (.tup [St q.1,St q.2.1,Bo q.2.2]):=by
 refine pM Tryz.func155 Z (by kernel_rfl) Z (jI (oN as' (oN as' (oN as' (jA (jH (jI (oN mv (oN mv (oC h (fun _=>gY _ _) Z Z Z Z fun v1 _ h=>oN as' (jA (jI (oN mv (oN (Mc.ige Z Z) ?_))))))))))))));refine jA ?_;refine jN Z h (fun q2 h=>?_) (fun q2 h=>?_)
 ·refine jH (jP (fun _=>([],false)) (by kernel_rfl) (by kernel_rfl) (fN Z mv (fN Z mv (jD h fun g3 h=>fN Z (Mc.slst Tryz.underlying9 Z .no (.yes Z) g3) (fN Z mv (fN Z mv (fN Z mv (fN Z (Mc.lenst Tryz.underlying9 Z) (jW h fun g4 h=>fN Z (Mc.add Z Z g4) (jD h fun g5 h=>fN Z (Mc.slst Tryz.underlying9 Z (.yes Z) .no g5) (fN Z as' (fN Z as' ?_))))))))))));refine fN Z as' (jR (jK ?_));obtain rfl:=Mg h
  repeat (first|refine cn ?_|refine cu ?_)
  exact jQ (vs:=[St (s.extract U.toNat v1.toNat),St (s.extract (v1+(sep.size:Int)).toNat (s.size:Int).toNat),Bo true]) (.cons (.tmp Z) (.cons (.tmp Z) (.cons (.tmp Z) .nil))) (.tupL (.cons (qC Z) (.cons (qC Z) (.cons (qC Z) .nil))))
 ·refine jG (jI (oN mv (oN as' (oN as' (oN as' (jA (jK ?_)))))));obtain rfl:=Mg h
  repeat (first|refine cn ?_|refine cu ?_)
  exact jQ (vs:=[St s,St (⟨#[]⟩:ByteArray),Bo false]) (.cons (.tmp Z) (.cons (.tmp Z) (.cons (.tmp Z) .nil))) (.tupL (.cons (qC Z) (.cons (qC Z) (.cons (qC Z) .nil))))
theorem zS (s:ByteArray) (sep:ByteArray) {q:ByteArray×ByteArray×Bool} (h:o6 s sep=some q):aA Tryz.prog 97 [St s,St sep] (.tup [St q.1,St q.2.1,Bo q.2.2]):=by
 refine pM Tryz.func97 Z (by kernel_rfl) Z (jI (oN as' (oN as' (oN as' (jA (jI (oN mv (oN mv (oC h (fun _=>pK _ _) Z Z Z Z fun v1 _ h=>oN (Mc.ext (St v1.1) Z Z) (oN (Mc.ext (St v1.2.1) Z Z) (oN (Mc.ext (Bo v1.2.2) Z Z) (oN as' (oN as' (oN as' ?_))))))))))))));refine jA (jK ?_);obtain rfl:=Mg h
 repeat (first|refine cn ?_|refine cu ?_)
 exact jQ (vs:=[St v1.1,St v1.2.1,Bo v1.2.2]) (.cons (.tmp Z) (.cons (.tmp Z) (.cons (.tmp Z) .nil))) (.tupL (.cons (qC Z) (.cons (qC Z) (.cons (qC Z) .nil))))
theorem gZ (s:List ByteArray) (v:ByteArray) {q:Int} (h:bC s v=some q):aA Tryz.prog 98 [eL cS s,St v] (I q):=by
 refine pM Tryz.func98 Z (by kernel_rfl) Z (jI (oN as' (jA ?_)));obtain ⟨Ks1,es1,ws1,h,ks1⟩:=sumL h;refine T.join (S:=Unit) (G:=Unit) (fun s1=>Ks1 s1=some q) (fun s1 gh=>True) (fun s1 gh=>[]) (fun s1 gh=>[]) (fun s1 gh h hg=>?_) ?_
 ·clear ks1;subst es1;refine jI (oN as' (jA (jK ?_)))
  cases h
  exact bP Z Z Z
 ·refine jI (oN mv (oN (Mc.lenL zH Z) (oN mv (jA (jE ?_)))));refine T.lU h (fun s4=>[(8,I s4),(7,I (s.length:Int)),(0,eL cS s),(1,St v)]) (fun s4=>[]) (kw Z Z) (fun s4 ws4 h=>?_);refine jI (oN (Mc.ilt Z Z) (jA (jH ?_)));refine jN Z h (fun q6 h=>?_) (fun q6 h=>?_)
  ·refine jG (jH (jE (jI (oN mv (oN as' (jA (jI (oN mv (oN mv (oN mv (jD h fun g7 h=>oN (Mc.ixL zH Z Z g7 qD) (oN (lf (St (J s s4)) ty9 Z) (oN (Mc.seq Z Z) (jA ?_))))))))))))));refine jN Z h (fun q8 h=>?_) (fun q8 h=>?_)
   ·refine jI (oN mv (oN as' (jA (jK (lX h fun h=>?_)))));obtain rfl:=Mg h;replace h:=congrArg some (show _=_ from ks1)
    cases h
    exact bP Z Z Z
   ·refine jG (jC (jW h fun g9 h=>oN (Mc.add Z Z g9) (oN mv (jA ?_))));exact lE h (kw Z Z)
  ·refine jM (lX h fun h=>?_)
   cases h
   exact ⟨(),(),ks1,trivial,kw Z Z⟩
theorem cH (r_:ae) (c:Int) (aH:Nat) {q:ae×Bool} (h:bu r_ c=some q):dz Tryz.prog 214 [.hp 0 aH 2 0 0,Y c] [some ⟨aH,2,193,[(ae.c r_)]⟩] (Bo q.2) [some ⟨aH,2,193,[[St q.1.rest,Bo q.1.failed]]⟩]:=by
 refine aM Tryz.func214 Z (by kernel_rfl) Z (jI (oN as' (jA (jH (jI (oN mv (oN (nl Z) (oN (fa uL Z) (oA (lh (Bo r_.failed) ty4 Z Z Z) (oN mv ?_))))))))));refine TO.jB h 6 (fun s1=>[(15,Bo s1),(0,.hp 0 aH 2 0 0),(1,Y c)]) (fun s1=>[some ⟨aH,2,193,[(ae.c r_)]⟩]) (fun s1 q2 h js1=>?_) (fun s1 q2 h js1=>?_) (fun s1 h=>?_)
 ·refine gS Z q2 (gS Z q2 (gS Z q2 (gS Z q2 (gS Z q2 (oN (Mc.pickT Z q2 (Bo true) Z) ?_)))))
  cases h
  exact js1 _ _ (kw Z Z)
 ·refine gN Z q2 mv (gN Z q2 (nl Z) (gN Z q2 (fa uL Z) (gA Z q2 (lh (St r_.rest) ty9 Z Z Z) (gN Z q2 (Mc.seq Z Z) (oN (Mc.pickF Z q2 (Bo (decide (r_.rest=(⟨#[]⟩:ByteArray)))) Z) ?_)))))
  cases h
  exact js1 _ _ (kw Z Z)
 ·refine oN mv ?_;refine TO.jB h 8 (fun s3=>[(24,Bo s3),(0,.hp 0 aH 2 0 0)]) (fun s3=>[some ⟨aH,2,193,[(ae.c r_)]⟩]) (fun s3 q4 h js3=>?_) (fun s3 q4 h js3=>?_) (fun s3 h=>?_)
  ·refine gS Z q4 (gS Z q4 (gS Z q4 (gS Z q4 (gS Z q4 (gS Z q4 (gS Z q4 (oN (Mc.pickT Z q4 (Bo true) Z) ?_)))))))
   cases h
   exact js3 _ _ (kw Z Z)
  ·refine gN Z q4 mv (gN Z q4 (nl Z) (gN Z q4 (fa uL Z) (gA Z q4 (lh (St r_.rest) ty9 Z Z Z) (jD h fun g5 h=>gN Z q4 (Mc.ixst Tryz.underlying9 Z Z g5) (gN Z q4 mv (gN Z q4 (Mc.ine Z Z) (oN (Mc.pickF Z q4 (Bo (((r_.rest.data.getD U.toNat 0).toNat:Int) != c)) Z) ?_)))))))
   cases h
   exact js3 _ _ (kw Z Z)
  ·refine jA ?_;refine jN Z h (fun q6 h=>?_) (fun q6 h=>?_)
   ·refine jI (oN as' (jA (jK ?_)));obtain rfl:=Mg h
    repeat (first|refine cn ?_|refine cu ?_)
    exact ⟨au [(4,Bo false)],[some ⟨aH,2,193,[(ae.c (⟨r_.rest,r_.failed⟩:ae))]⟩],kw Z Z,jQ (vs:=[Bo false]) (.cons (.tmp Z) .nil) ⟨Z,Z⟩⟩
   ·refine jG (jI (oN mv (oN mv (oN (nl Z) (oN (fa uL Z) (oA (lh (St r_.rest) ty9 Z Z Z) (jD h fun g7 h=>oN (Mc.slst Tryz.underlying9 Z (.yes Z) .no g7) (oN (nl Z) (oN (fa uL Z) (oV (sr [St (r_.rest.extract V.toNat (r_.rest.size:Int).toNat),Bo r_.failed] ty9 Z Z Z Z) (jA (jI (oN as' (jA ?_))))))))))))));refine jK ?_;obtain rfl:=Mg h
    repeat (first|refine cn ?_|refine cu ?_)
    exact ⟨au [(4,Bo true)],[some ⟨aH,2,193,[(ae.c (⟨(r_.rest.extract V.toNat (r_.rest.size:Int).toNat),r_.failed⟩:ae))]⟩],kw Z Z,jQ (vs:=[Bo true]) (.cons (.tmp Z) .nil) ⟨Z,Z⟩⟩
theorem sJ (r_:ae) (aH:Nat) {q:ae×ByteArray} (h:fF r_=some q):dz Tryz.prog 260 [.hp 0 aH 2 0 0] [some ⟨aH,2,193,[(ae.c r_)]⟩] (St q.2) [some ⟨aH,2,193,[[St q.1.rest,Bo q.1.failed]]⟩]:=by
 refine aM Tryz.func260 Z (by kernel_rfl) Z (jI (oN as' (jA (jI (oN as' (jA ?_))))));refine T.jU h (fun s1=>[(3,I s1),(0,.hp 0 aH 2 0 0)]) (fun s1=>[some ⟨aH,2,193,[(ae.c r_)]⟩]) (fun s1 h=>?_) (fun s1 h=>?_)
 ·refine jI (oN mv (oN (nl Z) (oN (fa uL Z) (oA (lh (St r_.rest) ty9 Z Z Z) (oN mv (jD h fun g14 h=>oN (Mc.slst Tryz.underlying9 Z .no (.yes Z) g14) (oN as' (jA (jI (oN mv (oN mv (oN (nl Z) (oN (fa uL Z) (oA (lh (St r_.rest) ty9 Z Z Z) ?_))))))))))))));refine oN mv (jD h fun g15 h=>oN (Mc.slst Tryz.underlying9 Z (.yes Z) .no g15) (oN (nl Z) (oN (fa uL Z) (oV (sr [St (r_.rest.extract s1.toNat (r_.rest.size:Int).toNat),Bo r_.failed] ty9 Z Z Z Z) (jA (jH (T.clean (H0:=[some ⟨aH,2,193,[[St (r_.rest.extract s1.toNat (r_.rest.size:Int).toNat),Bo r_.failed]]⟩]) (e0:=au [(4,St (r_.rest.extract U.toNat s1.toNat))]) Z (Mb Z Ma) (jC (oN mv (oN as' (jA (jK ?_))))))))))));obtain rfl:=Mg h
  repeat (first|refine cn ?_|refine cu ?_)
  exact ⟨au [(2,St (r_.rest.extract U.toNat s1.toNat))],[some ⟨aH,2,193,[(ae.c (⟨(r_.rest.extract s1.toNat (r_.rest.size:Int).toNat),r_.failed⟩:ae))]⟩],kw Z Z,jQ (vs:=[St (r_.rest.extract U.toNat s1.toNat)]) (.cons (.tmp Z) .nil) ⟨Z,Z⟩⟩
 ·refine jE ?_;refine T.lU h (fun s4=>[(3,I s4),(0,.hp 0 aH 2 0 0)]) (fun s4=>[some ⟨aH,2,193,[(ae.c r_)]⟩]) (kw Z Z) (fun s4 ws4 h=>?_);refine jH (jI (oN mv (oN mv (oN (nl Z) (oN (fa uL Z) (oA (lh (St r_.rest) ty9 Z Z Z) (oN (Mc.lenst Tryz.underlying9 Z) (oN (Mc.ilt Z Z) (oN mv ?_)))))))));refine TO.jB h 8 (fun s6=>[(20,Bo s6),(3,I s4),(0,.hp 0 aH 2 0 0)]) (fun s6=>[some ⟨aH,2,193,[(ae.c r_)]⟩]) (fun s6 q7 h js6=>?_) (fun s6 q7 h js6=>?_) (fun s6 h=>?_)
  ·refine gN Z q7 mv (gN Z q7 (nl Z) (gN Z q7 (fa uL Z) (gA Z q7 (lh (St r_.rest) ty9 Z Z Z) (gN Z q7 mv (jD h fun g8 h=>gN Z q7 (Mc.ixst Tryz.underlying9 Z Z g8) (gN Z q7 (Mc.ige Z Z) (oN (Mc.pickT Z q7 (Bo (decide ((97:Int)<=((r_.rest.data.getD s4.toNat 0).toNat:Int)))) Z) ?_)))))))
   cases h
   exact js6 _ _ (kw Z Z)
  ·refine gS Z q7 (gS Z q7 (gS Z q7 (gS Z q7 (gS Z q7 (gS Z q7 (gS Z q7 (oN (Mc.pickF Z q7 (Bo false) Z) ?_)))))))
   cases h
   exact js6 _ _ (kw Z Z)
  ·refine oN mv ?_;refine TO.jB h 8 (fun s9=>[(29,Bo s9),(3,I s4),(0,.hp 0 aH 2 0 0)]) (fun s9=>[some ⟨aH,2,193,[(ae.c r_)]⟩]) (fun s9 q10 h js9=>?_) (fun s9 q10 h js9=>?_) (fun s9 h=>?_)
   ·refine gN Z q10 mv (gN Z q10 (nl Z) (gN Z q10 (fa uL Z) (gA Z q10 (lh (St r_.rest) ty9 Z Z Z) (gN Z q10 mv (jD h fun g11 h=>gN Z q10 (Mc.ixst Tryz.underlying9 Z Z g11) (gN Z q10 (Mc.ile Z Z) (oN (Mc.pickT Z q10 (Bo (decide (((r_.rest.data.getD s4.toNat 0).toNat:Int)<=(122:Int)))) Z) ?_)))))))
    cases h
    exact js9 _ _ (kw Z Z)
   ·refine gS Z q10 (gS Z q10 (gS Z q10 (gS Z q10 (gS Z q10 (gS Z q10 (gS Z q10 (oN (Mc.pickF Z q10 (Bo false) Z) ?_)))))))
    cases h
    exact js9 _ _ (kw Z Z)
   ·refine jA ?_;refine jN Z h (fun q12 h=>?_) (fun q12 h=>?_)
    ·refine jG (jE (jC (oN mv (jW h fun g13 h=>oN (Mc.add Z Z g13) (oN as' (jA ?_))))));exact lE h (kw Z Z)
    ·refine jM (lX h fun h=>?_)
     cases h
     exact ⟨(),trivial,kw Z Z⟩
set_option maxHeartbeats 4000000 in
theorem nS (dN:ae->Int->Option (ae×aa)) (ih156:∀ (r_:ae) (level:Int) (aH:Nat) {q:ae×aa},dN r_ level=some q->dz Tryz.prog 156 [.hp 0 aH 2 0 0,I level] [some ⟨aH,2,193,[(ae.c r_)]⟩] (.agg (aa.c q.2)) [some ⟨aH,2,193,[[St q.1.rest,Bo q.1.failed]]⟩]):∀ (nf:Nat) (r_:ae) (aH:Nat) {q:ae×aa} (h:bw dN nf r_=some q),dz Tryz.prog 212 [.hp 0 aH 2 0 0] [some ⟨aH,2,193,[(ae.c r_)]⟩] (.agg (aa.c q.2)) [some ⟨aH,2,193,[[St q.1.rest,Bo q.1.failed]]⟩]:=by
 intro nf
 induction nf with
 | zero=>intros;rename_i h;cases h
 | succ nf ih=>
  intro r_ aH q h;replace h:bU dN (bw dN nf) r_=some q:=h;refine aM Tryz.func212 Z (by kernel_rfl) Z (jI (oA (EvA.al vD Z Z) (jA (jH (jE (jI (oN mv (jB h fun v1 cv1 h=>oA (EvA.call Z Z Z ((cH (⟨r_.rest,r_.failed⟩:ae) (40:Int) aH cv1).one 0 Z (.cons (.hp Z) (.cons (.pF Z) .nil)) (ak Z) (ak Z) Z)) (oN as' (jA ?_))))))))));refine jN Z h (fun q2 h=>?_) (fun q2 h=>?_)
  ·refine jI (oN mv (jB h fun v3 cv3 h=>oA (EvA.call Z Z Z ((ih156 (⟨v1.1.rest,v1.1.failed⟩:ae) (3:Int) aH cv3).one 0 Z (.cons (.hp Z) (.cons (.pF Z) .nil)) (ak Z) (ak Z) Z)) (oA (EvA.al vD Z Z) (oV (sr (aa.c v3.2) fJ Z Z Z Z) (jA ?_)))));refine T.jU h (fun s4=>[(3,.hp 2 0 3 0 0),(2,.hp 1 0 3 0 0)]) (fun s4=>[some ⟨aH,2,193,[[St s4.1,Bo s4.2]]⟩,some ⟨0,3,129,[[I U,St (⟨#[]⟩:ByteArray),.nil]]⟩,some ⟨0,3,129,[(aa.c v3.2)]⟩]) (fun s4 h=>?_) (fun s4 h=>?_)
   ·refine jI (oA (lh (.agg (aa.c v3.2)) fJ Z Z Z) (oV (sr (aa.c v3.2) fJ Z Z Z Z) (jA (jK ?_))));obtain rfl:=Mg h
    repeat (first|refine cn ?_|refine cu ?_)
    exact ⟨au [(2,.fp (aa.c (⟨v3.2.Op,v3.2.Name,v3.2.Kids⟩:aa)) 0)],[some ⟨aH,2,193,[(ae.c (⟨s4.1,s4.2⟩:ae))]⟩],mR Z (.cons (.row (.cons (.fz (qC Z)) (.cons (.fz (qC Z)) .nil))) .nil) (aj (.fz (Fz.fpL (ver:=0) (s:=3) (ty:=129) (rows:=[[I v3.2.Op,St v3.2.Name,eL TXimpl_RelExpr.c v3.2.Kids]]) Z Z Z (.cons (qC Z) (.cons (qC Z) (.cons (qC Z) .nil))))) aN),jQ (vs:=[.agg (aa.c (⟨v3.2.Op,v3.2.Name,v3.2.Kids⟩:aa))]) (.cons (.cellF (.agg (aa.c (⟨v3.2.Op,v3.2.Name,v3.2.Kids⟩:aa))) fJ Z Z) .nil) ⟨Z,Z⟩⟩
   ·refine jI (oN mv (jB h fun v5 cv5 h=>oA (EvA.call Z Z Z ((cH (⟨v3.1.rest,v3.1.failed⟩:ae) (41:Int) aH cv5).one 0 Z (.cons (.hp Z) (.cons (.pF Z) .nil)) (ak Z) (ak Z) Z)) (oN (Mc.not Z) (jA ?_))));refine jN Z h (fun q6 h=>?_) (fun q6 h=>?_)
    ·refine jC (oN mv (oN (nl Z) (oN (fa uL Z) (oV (sr [St v5.1.rest,Bo true] ty4 Z Z Z Z) (jA ?_)))))
     cases h
     exact ⟨(),trivial,kw Z Z⟩
    ·refine jG ?_
     cases h
     exact ⟨(),trivial,kw Z Z⟩
  ·refine jI (oN mv (jB h fun v7 cv7 h=>oA (EvA.call Z Z Z ((cH (⟨v1.1.rest,v1.1.failed⟩:ae) (126:Int) aH cv7).one 0 Z (.cons (.hp Z) (.cons (.pF Z) .nil)) (ak Z) (ak Z) Z)) (oN as' (jA ?_))));refine jN Z h (fun q8 h=>?_) (fun q8 h=>?_)
   ·refine jI (oN mv (jB h fun v9 cv9 h=>oA (EvA.call Z Z Z ((ih (⟨v7.1.rest,v7.1.failed⟩:ae) aH cv9).one 0 Z (.cons (.hp Z) .nil) (ak Z) (ak Z) Z)) (oN (Mc.res (Mc.mkF (c:=aa.c) ([v9.2]:List aa) [(aa.c v9.2)] zI Z Z Z qD aa.isF Z) (r':=eL TXimpl_RelExpr.c ([v9.2.inn]:List TXimpl_RelExpr)) (fun _ _ hr=>Dh aa.inn_c hr)) (oN (Mc.build [I (6:Int),St (⟨#[]⟩:ByteArray),eL TXimpl_RelExpr.c ([v9.2.inn]:List TXimpl_RelExpr)] Tryz.underlying129 vD pJ Z Z) (oV (sr [I (6:Int),St (⟨#[]⟩:ByteArray),eL TXimpl_RelExpr.c ([v9.2.inn]:List TXimpl_RelExpr)] fJ Z Z Z Z) (jA (jK ?_)))))));obtain rfl:=Mg h
    repeat (first|refine cn ?_|refine cu ?_)
    exact ⟨au [(2,.fp (aa.c (⟨(6:Int),(⟨#[]⟩:ByteArray),([v9.2.inn]:List TXimpl_RelExpr)⟩:aa)) 0)],[some ⟨aH,2,193,[(ae.c (⟨v9.1.rest,v9.1.failed⟩:ae))]⟩],mR Z (.cons (.row (.cons (.fz (qC Z)) (.cons (.fz (qC Z)) .nil))) .nil) (aj (.fz (Fz.fpL (ver:=0) (s:=3) (ty:=129) (rows:=[[I (6:Int),St (⟨#[]⟩:ByteArray),eL TXimpl_RelExpr.c ([v9.2.inn]:List TXimpl_RelExpr)]]) Z Z Z (.cons (qC Z) (.cons (qC Z) (.cons (qC Z) .nil))))) aN),jQ (vs:=[.agg (aa.c (⟨(6:Int),(⟨#[]⟩:ByteArray),([v9.2.inn]:List TXimpl_RelExpr)⟩:aa))]) (.cons (.cellF (.agg (aa.c (⟨(6:Int),(⟨#[]⟩:ByteArray),([v9.2.inn]:List TXimpl_RelExpr)⟩:aa))) fJ Z Z) .nil) ⟨Z,Z⟩⟩
   ·refine jI (oN mv (jB h fun v10 cv10 h=>oA (EvA.call Z Z Z ((cH (⟨v7.1.rest,v7.1.failed⟩:ae) (43:Int) aH cv10).one 0 Z (.cons (.hp Z) (.cons (.pF Z) .nil)) (ak Z) (ak Z) Z)) (oN as' (jA ?_))));refine jN Z h (fun q11 h=>?_) (fun q11 h=>?_)
    ·refine jI (oN mv (jB h fun v12 cv12 h=>oA (EvA.call Z Z Z ((ih (⟨v10.1.rest,v10.1.failed⟩:ae) aH cv12).one 0 Z (.cons (.hp Z) .nil) (ak Z) (ak Z) Z)) (oN (Mc.res (Mc.mkF (c:=aa.c) ([v12.2]:List aa) [(aa.c v12.2)] zI Z Z Z qD aa.isF Z) (r':=eL TXimpl_RelExpr.c ([v12.2.inn]:List TXimpl_RelExpr)) (fun _ _ hr=>Dh aa.inn_c hr)) (oN (Mc.build [I (7:Int),St (⟨#[]⟩:ByteArray),eL TXimpl_RelExpr.c ([v12.2.inn]:List TXimpl_RelExpr)] Tryz.underlying129 vD pJ Z Z) (oV (sr [I (7:Int),St (⟨#[]⟩:ByteArray),eL TXimpl_RelExpr.c ([v12.2.inn]:List TXimpl_RelExpr)] fJ Z Z Z Z) (jA (jK ?_)))))));obtain rfl:=Mg h
     repeat (first|refine cn ?_|refine cu ?_)
     exact ⟨au [(2,.fp (aa.c (⟨(7:Int),(⟨#[]⟩:ByteArray),([v12.2.inn]:List TXimpl_RelExpr)⟩:aa)) 0)],[some ⟨aH,2,193,[(ae.c (⟨v12.1.rest,v12.1.failed⟩:ae))]⟩],mR Z (.cons (.row (.cons (.fz (qC Z)) (.cons (.fz (qC Z)) .nil))) .nil) (aj (.fz (Fz.fpL (ver:=0) (s:=3) (ty:=129) (rows:=[[I (7:Int),St (⟨#[]⟩:ByteArray),eL TXimpl_RelExpr.c ([v12.2.inn]:List TXimpl_RelExpr)]]) Z Z Z (.cons (qC Z) (.cons (qC Z) (.cons (qC Z) .nil))))) aN),jQ (vs:=[.agg (aa.c (⟨(7:Int),(⟨#[]⟩:ByteArray),([v12.2.inn]:List TXimpl_RelExpr)⟩:aa))]) (.cons (.cellF (.agg (aa.c (⟨(7:Int),(⟨#[]⟩:ByteArray),([v12.2.inn]:List TXimpl_RelExpr)⟩:aa))) fJ Z Z) .nil) ⟨Z,Z⟩⟩
    ·refine jG (jI (oN mv (jB h fun v13 cv13 h=>oA (EvA.call Z Z Z ((sJ (⟨v10.1.rest,v10.1.failed⟩:ae) aH cv13).one 0 Z (.cons (.hp Z) .nil) (ak Z) (ak Z) Z)) (oN as' (jA ?_)))));refine T.jU h (fun s14=>[(4,St v13.2),(2,.hp 1 0 3 0 0)]) (fun s14=>[some ⟨aH,2,193,[[St v13.1.rest,Bo s14]]⟩,some ⟨0,3,129,[[I U,St (⟨#[]⟩:ByteArray),.nil]]⟩]) (fun s14 h=>?_) (fun s14 h=>?_)
     ·refine jI (oN mv (oN (Mc.build [I V,St v13.2,.nil] Tryz.underlying129 vD pJ Z Z) (oV (sr [I V,St v13.2,.nil] fJ Z Z Z Z) (jA (jK ?_)))));obtain rfl:=Mg h
      repeat (first|refine cn ?_|refine cu ?_)
      exact ⟨au [(2,.fp (aa.c (⟨V,v13.2,([]:List TXimpl_RelExpr)⟩:aa)) 0)],[some ⟨aH,2,193,[(ae.c (⟨v13.1.rest,s14⟩:ae))]⟩],mR Z (.cons (.row (.cons (.fz (qC Z)) (.cons (.fz (qC Z)) .nil))) .nil) (aj (.fz (Fz.fpL (ver:=0) (s:=3) (ty:=129) (rows:=[[I V,St v13.2,.nil]]) Z Z Z (.cons (qC Z) (.cons (qC Z) (.cons (.nil0) .nil))))) aN),jQ (vs:=[.agg (aa.c (⟨V,v13.2,([]:List TXimpl_RelExpr)⟩:aa))]) (.cons (.cellF (.agg (aa.c (⟨V,v13.2,([]:List TXimpl_RelExpr)⟩:aa))) fJ Z Z) .nil) ⟨Z,Z⟩⟩
     ·refine jI (oN mv (oN (Mc.seq Z Z) (jA ?_)));refine jN Z h (fun q15 h=>?_) (fun q15 h=>?_)
      ·refine jC (oN mv (oN (nl Z) (oN (fa uL Z) (oV (sr [St v13.1.rest,Bo true] ty4 Z Z Z Z) (jA ?_)))))
       cases h
       exact ⟨(),trivial,kw Z Z⟩
      ·refine jG ?_
       cases h
       exact ⟨(),trivial,kw Z Z⟩
set_option maxHeartbeats 4000000 in
theorem oI (dN:ae->Int->Option (ae×aa)) (ih156:∀ (r_:ae) (level:Int) (aH:Nat) {q:ae×aa},dN r_ level=some q->dz Tryz.prog 156 [.hp 0 aH 2 0 0,I level] [some ⟨aH,2,193,[(ae.c r_)]⟩] (.agg (aa.c q.2)) [some ⟨aH,2,193,[[St q.1.rest,Bo q.1.failed]]⟩]) (r_:ae) (aH:Nat) {q:ae×aa} (h:eO dN r_=some q):dz Tryz.prog 212 [.hp 0 aH 2 0 0] [some ⟨aH,2,193,[(ae.c r_)]⟩] (.agg (aa.c q.2)) [some ⟨aH,2,193,[[St q.1.rest,Bo q.1.failed]]⟩]:=by
 obtain ⟨nf,h⟩:=vo h;exact nS dN ih156 nf r_ aH h
theorem nG (op:Int) {q:Int×ByteArray×Int} (h:gD op=some q):aA Tryz.prog 213 [I op] (.tup [I q.1,St q.2.1,I q.2.2]):=by
 refine pM Tryz.func213 Z (by kernel_rfl) Z (jI (oN as' (oN as' (oN as' (jA (jH (jI (oN mv (jA (jE (jI (oN (Mc.ieq Z Z) (oN as' (jA ?_))))))))))))));refine jN Z h (fun q1 h=>?_) (fun q1 h=>?_)
 ·refine jI (oN as' (oN as' (oN as' (jA (jK ?_)))));obtain rfl:=Mg h
  repeat (first|refine cn ?_|refine cu ?_)
  exact jQ (vs:=[I U,St (⟨#[]⟩:ByteArray),I U]) (.cons (.tmp Z) (.cons (.tmp Z) (.cons (.tmp Z) .nil))) (.tupL (.cons (qC Z) (.cons (qC Z) (.cons (qC Z) .nil))))
 ·refine jI (oN (Mc.ieq Z Z) (oN as' (jA ?_)));refine jN Z h (fun q2 h=>?_) (fun q2 h=>?_)
  ·refine jI (oN as' (oN as' (oN as' (jA (jK ?_)))));obtain rfl:=Mg h
   repeat (first|refine cn ?_|refine cu ?_)
   exact jQ (vs:=[I (3:Int),St (⟨#[124]⟩:ByteArray),I (2:Int)]) (.cons (.tmp Z) (.cons (.tmp Z) (.cons (.tmp Z) .nil))) (.tupL (.cons (qC Z) (.cons (qC Z) (.cons (qC Z) .nil))))
  ·refine jI (oN (Mc.ieq Z Z) (oN as' (jA ?_)));refine jN Z h (fun q3 h=>?_) (fun q3 h=>?_)
   ·refine jI (oN as' (oN as' (oN as' (jA (jK ?_)))));obtain rfl:=Mg h
    repeat (first|refine cn ?_|refine cu ?_)
    exact jQ (vs:=[I (2:Int),St (⟨#[38]⟩:ByteArray),I (2:Int)]) (.cons (.tmp Z) (.cons (.tmp Z) (.cons (.tmp Z) .nil))) (.tupL (.cons (qC Z) (.cons (qC Z) (.cons (qC Z) .nil))))
   ·refine jI (oN (Mc.ieq Z Z) (oN as' (jA ?_)));refine jN Z h (fun q4 h=>?_) (fun q4 h=>?_)
    ·refine jI (oN as' (oN as' (oN as' (jA (jK ?_)))));obtain rfl:=Mg h
     repeat (first|refine cn ?_|refine cu ?_)
     exact jQ (vs:=[I (2:Int),St (⟨#[45]⟩:ByteArray),I (2:Int)]) (.cons (.tmp Z) (.cons (.tmp Z) (.cons (.tmp Z) .nil))) (.tupL (.cons (qC Z) (.cons (qC Z) (.cons (qC Z) .nil))))
    ·refine jI (oN (Mc.ieq Z Z) (oN as' (jA ?_)));refine jN Z h (fun q5 h=>?_) (fun q5 h=>?_)
     ·refine jI (oN as' (oN as' (oN as' (jA (jK ?_)))));obtain rfl:=Mg h
      repeat (first|refine cn ?_|refine cu ?_)
      exact jQ (vs:=[I V,St (⟨#[59]⟩:ByteArray),I (2:Int)]) (.cons (.tmp Z) (.cons (.tmp Z) (.cons (.tmp Z) .nil))) (.tupL (.cons (qC Z) (.cons (qC Z) (.cons (qC Z) .nil))))
     ·refine jI (oN (Mc.ieq Z Z) (oN as' (jA ?_)));refine jN Z h (fun q6 h=>?_) (fun q6 h=>?_)
      ·refine jH (T.clean (H0:=[]) (e0:=au []) Z Ma (jC (oN as' (oN as' (oN as' (jA (jK ?_)))))));obtain rfl:=Mg h
       repeat (first|refine cn ?_|refine cu ?_)
       exact jQ (vs:=[I U,St (⟨#[126]⟩:ByteArray),I V]) (.cons (.tmp Z) (.cons (.tmp Z) (.cons (.tmp Z) .nil))) (.tupL (.cons (qC Z) (.cons (qC Z) (.cons (qC Z) .nil))))
      ·refine jH (T.clean (H0:=[]) (e0:=au [(5,I op)]) Z (Mb Z Ma) (jC (oN (Mc.ieq Z Z) (oN as' (jA ?_)))));refine jN Z h (fun q7 h=>?_) (fun q7 h=>?_)
       ·refine jI (oN as' (oN as' (oN as' (jA (jK ?_)))));obtain rfl:=Mg h
        repeat (first|refine cn ?_|refine cu ?_)
        exact jQ (vs:=[I U,St (⟨#[43]⟩:ByteArray),I V]) (.cons (.tmp Z) (.cons (.tmp Z) (.cons (.tmp Z) .nil))) (.tupL (.cons (qC Z) (.cons (qC Z) (.cons (qC Z) .nil))))
       ·refine jG (jI (oN as' (oN as' (oN as' (jA (jK ?_))))));obtain rfl:=Mg h
        repeat (first|refine cn ?_|refine cu ?_)
        exact jQ (vs:=[I U,St (⟨#[]⟩:ByteArray),I (-1:Int)]) (.cons (.tmp Z) (.cons (.tmp Z) (.cons (.tmp Z) .nil))) (.tupL (.cons (qC Z) (.cons (qC Z) (.cons (qC Z) .nil))))
set_option maxHeartbeats 4000000 in
theorem qY:∀ (nf:Nat) (r_:ae) (level:Int) (aH:Nat) {q:ae×aa} (h:bF nf r_ level=some q),dz Tryz.prog 156 [.hp 0 aH 2 0 0,I level] [some ⟨aH,2,193,[(ae.c r_)]⟩] (.agg (aa.c q.2)) [some ⟨aH,2,193,[[St q.1.rest,Bo q.1.failed]]⟩]:=by
 intro nf
 induction nf with
 | zero=>intros;rename_i h;cases h
 | succ nf ih=>
  intro r_ level aH q h;replace h:dK (bF nf) r_ level=some q:=h;refine aM Tryz.func156 Z (by kernel_rfl) Z (jI (oA (EvA.al vD Z Z) (jA (jH (jI (oN mv (oN (Mc.ieq Z Z) (jA ?_))))))));refine jN Z h (fun q1 h=>?_) (fun q1 h=>?_)
  ·refine jI (oN mv (jB h fun v2 cv2 h=>oA (EvA.call Z Z Z ((oI (bF nf) ih (⟨r_.rest,r_.failed⟩:ae) aH cv2).one 0 Z (.cons (.hp Z) .nil) (ak Z) (ak Z) Z)) (oV (sr (aa.c v2.2) fJ Z Z Z Z) (jA (jK ?_)))));obtain rfl:=Mg h
   repeat (first|refine cn ?_|refine cu ?_)
   exact ⟨au [(4,.fp (aa.c (⟨v2.2.Op,v2.2.Name,v2.2.Kids⟩:aa)) 0)],[some ⟨aH,2,193,[(ae.c (⟨v2.1.rest,v2.1.failed⟩:ae))]⟩],mR Z (.cons (.row (.cons (.fz (qC Z)) (.cons (.fz (qC Z)) .nil))) .nil) (aj (.fz (Fz.fpL (ver:=0) (s:=3) (ty:=129) (rows:=[[I v2.2.Op,St v2.2.Name,eL TXimpl_RelExpr.c v2.2.Kids]]) Z Z Z (.cons (qC Z) (.cons (qC Z) (.cons (qC Z) .nil))))) aN),jQ (vs:=[.agg (aa.c (⟨v2.2.Op,v2.2.Name,v2.2.Kids⟩:aa))]) (.cons (.cellF (.agg (aa.c (⟨v2.2.Op,v2.2.Name,v2.2.Kids⟩:aa))) fJ Z Z) .nil) ⟨Z,Z⟩⟩
  ·refine jG (jI (oN mv (oN mv (jW h fun g3 h=>oN (Mc.sub Z Z g3) (jB h fun v4 cv4 h=>oA (EvA.call Z Z Z ((ih (⟨r_.rest,r_.failed⟩:ae) (level-V) aH cv4).one 0 Z (.cons (.hp Z) (.cons (.pF Z) .nil)) (ak Z) (ak Z) Z)) (oA (EvA.al vD Z Z) (oV (sr (aa.c v4.2) fJ Z Z Z Z) (jA (jE ?_)))))))));refine T.lU h (fun s7=>[(5,.hp 2 0 3 0 0),(4,.hp 1 0 3 0 0),(0,.hp 0 aH 2 0 0),(1,I level)]) (fun s7=>[some ⟨aH,2,193,[[St s7.1,Bo s7.2.1]]⟩,some ⟨0,3,129,[[I U,St (⟨#[]⟩:ByteArray),.nil]]⟩,some ⟨0,3,129,[[I s7.2.2.1,St s7.2.2.2.1,eL TXimpl_RelExpr.c s7.2.2.2.2]]⟩]) (kw Z Z) (fun s7 ws7 h=>?_);let d0:=(⟨s7.2.2.1,s7.2.2.2.1,s7.2.2.2.2⟩:aa);refine jE (jI (oN as' (jA ?_)));refine T.jU h (fun s9=>[(6,I s9.2.2),(5,.hp 2 0 3 0 0),(4,.hp 1 0 3 0 0),(0,.hp 0 aH 2 0 0),(1,I level)]) (fun s9=>[some ⟨aH,2,193,[[St s9.1,Bo s9.2.1]]⟩,some ⟨0,3,129,[[I U,St (⟨#[]⟩:ByteArray),.nil]]⟩,some ⟨0,3,129,[[I s7.2.2.1,St s7.2.2.2.1,eL TXimpl_RelExpr.c s7.2.2.2.2]]⟩]) (fun s9 h=>?_) (fun s9 h=>?_)
   ·refine jH (jI (oN mv (oN (Mc.ieq Z Z) (jA ?_))));refine jN Z h (fun q25 h=>?_) (fun q25 h=>?_)
    ·refine jI (oA (lh (.agg [I s7.2.2.1,St s7.2.2.2.1,eL TXimpl_RelExpr.c s7.2.2.2.2]) fJ Z Z Z) (oV (sr [I s7.2.2.1,St s7.2.2.2.1,eL TXimpl_RelExpr.c s7.2.2.2.2] fJ Z Z Z Z) (jA (jK (lX h fun h=>?_)))));obtain rfl:=Mg h
     repeat (first|refine cn ?_|refine cu ?_)
     exact ⟨au [(4,.fp (aa.c d0) 0)],[some ⟨aH,2,193,[(ae.c (⟨s9.1,s9.2.1⟩:ae))]⟩],mR Z (.cons (.row (.cons (.fz (qC Z)) (.cons (.fz (qC Z)) .nil))) .nil) (aj (.fz (Fz.fpL (ver:=0) (s:=3) (ty:=129) (rows:=[[I s7.2.2.1,St s7.2.2.2.1,eL TXimpl_RelExpr.c s7.2.2.2.2]]) Z Z Z (.cons (qC Z) (.cons (qC Z) (.cons (qC Z) .nil))))) aN),jQ (vs:=[.agg (aa.c d0)]) (.cons (.cellF (.agg (aa.c d0)) fJ Z Z) .nil) ⟨Z,Z⟩⟩
    ·refine jG (jP (dG [dF,([2],false),dF,dF,dF,([0],true),dF,dF,([2],true)]) (by kernel_rfl) (by kernel_rfl) (fN Z mv (fR [2] Z (fun G hG=>EvA.loadhp (.agg [I s7.2.2.1,St s7.2.2.2.1,eL TXimpl_RelExpr.c s7.2.2.2.2]) fJ Z (hG.a0 Z) Z Z Z Z) (fN Z mv (fN Z mv (fN Z (Mc.sub Z Z g3) (jB h fun v26 cv26 h=>fW 0 [] Z Z (fun G hG=>EvA.call Z Z Z ((ih (⟨s9.1,s9.2.1⟩:ae) (level-V) aH cv26).one 0 (hG.a0 Z) (.cons (.hp Z) (.cons (.pF Z) .nil)) (ak Z) (ak Z) Z)) (fN Z (Mc.res (Mc.mkF (c:=aa.c) ([d0,v26.2]:List aa) [[I s7.2.2.1,St s7.2.2.2.1,eL TXimpl_RelExpr.c s7.2.2.2.2],(aa.c v26.2)] zI Z Z Z qD aa.isF Z) (r':=eL TXimpl_RelExpr.c ([d0.inn,v26.2.inn]:List TXimpl_RelExpr)) (fun _ _ hr=>Dh aa.inn_c hr)) (fN Z (Mc.build [I s9.2.2,St (⟨#[]⟩:ByteArray),eL TXimpl_RelExpr.c ([d0.inn,v26.2.inn]:List TXimpl_RelExpr)] Tryz.underlying129 vD pJ Z Z) (fV 2 [] Z Z (fun G hG=>EvA.st (cs:=[I s9.2.2,St (⟨#[]⟩:ByteArray),eL TXimpl_RelExpr.c ([d0.inn,v26.2.inn]:List TXimpl_RelExpr)]) ⟨0,3,129,[[I s9.2.2,St (⟨#[]⟩:ByteArray),eL TXimpl_RelExpr.c ([d0.inn,v26.2.inn]:List TXimpl_RelExpr)]]⟩ fJ Z Z (hG.a0 Z) Z Z Z Z Z Z) (jR ?_)))))))))));exact lE h (kw Z Z)
   ·refine jI (oN (Mc.mkF (c:=cI) ([(2:Int),(3:Int),(4:Int),(5:Int)]:LI) [[I (2:Int)],[I (3:Int)],[I (4:Int)],[I (5:Int)]] bf Z Z Z qD qD Z) (oN (Mc.lenL bf Z) (oN mv (jA (jE ?_)))));refine T.lU h (fun s12=>[(22,I s12.2.2.1),(21,I (([(2:Int),(3:Int),(4:Int),(5:Int)]:LI).length:Int)),(20,eL cI ([(2:Int),(3:Int),(4:Int),(5:Int)]:LI)),(6,I s12.2.2.2),(5,.hp 2 0 3 0 0),(4,.hp 1 0 3 0 0),(0,.hp 0 aH 2 0 0),(1,I level)]) (fun s12=>[some ⟨aH,2,193,[[St s12.1,Bo s12.2.1]]⟩,some ⟨0,3,129,[[I U,St (⟨#[]⟩:ByteArray),.nil]]⟩,some ⟨0,3,129,[[I s7.2.2.1,St s7.2.2.2.1,eL TXimpl_RelExpr.c s7.2.2.2.2]]⟩]) (kw Z Z) (fun s12 ws12 h=>?_);refine jI (oN (Mc.ilt Z Z) (jA (jH ?_)));refine jN Z h (fun q14 h=>?_) (fun q14 h=>?_)
    ·refine jG ?_;refine T.jU h (fun s15=>[(6,I s15.2.2),(22,I s12.2.2.1),(21,I (([(2:Int),(3:Int),(4:Int),(5:Int)]:LI).length:Int)),(20,eL cI ([(2:Int),(3:Int),(4:Int),(5:Int)]:LI)),(5,.hp 2 0 3 0 0),(4,.hp 1 0 3 0 0),(0,.hp 0 aH 2 0 0),(1,I level)]) (fun s15=>[some ⟨aH,2,193,[[St s15.1,Bo s15.2.1]]⟩,some ⟨0,3,129,[[I U,St (⟨#[]⟩:ByteArray),.nil]]⟩,some ⟨0,3,129,[[I s7.2.2.1,St s7.2.2.2.1,eL TXimpl_RelExpr.c s7.2.2.2.2]]⟩]) (fun s15 h=>?_) (fun s15 h=>?_)
     ·refine jC (jW h fun g24 h=>oN (Mc.add Z Z g24) (oN mv (jA ?_)));exact lE h (kw Z Z)
     ·refine jE (jI (jD h fun g16 h=>oN (Mc.ixL bf Z Z g16 qD) (oN (lf (I (J ([(2:Int),(3:Int),(4:Int),(5:Int)]:LI) s12.2.2.1)) Mx Z) (oN as' (jA (jI (oN mv (oC h (fun _=>nG _) Z Z Z Z fun v17 _ h=>oN mv (oN (Mc.ext (I v17.1) Z Z) (oN (Mc.ext (St v17.2.1) Z Z) (oN (Mc.ext (I v17.2.2) Z Z) (oN as' (oN as' ?_)))))))))))));refine oN as' (jA (jI (oN mv (oN (Mc.ieq Z Z) (oN mv ?_)))));refine TO.jB h 4 (fun s18=>[(38,Bo s18),(10,St v17.2.1),(8,I (J ([(2:Int),(3:Int),(4:Int),(5:Int)]:LI) s12.2.2.1)),(22,I s12.2.2.1),(21,I (([(2:Int),(3:Int),(4:Int),(5:Int)]:LI).length:Int)),(20,eL cI ([(2:Int),(3:Int),(4:Int),(5:Int)]:LI)),(6,I s12.2.2.2),(5,.hp 2 0 3 0 0),(4,.hp 1 0 3 0 0),(0,.hp 0 aH 2 0 0),(1,I level)]) (fun s18=>[some ⟨aH,2,193,[[St s12.1,Bo s12.2.1]]⟩,some ⟨0,3,129,[[I U,St (⟨#[]⟩:ByteArray),.nil]]⟩,some ⟨0,3,129,[[I s7.2.2.1,St s7.2.2.2.1,eL TXimpl_RelExpr.c s7.2.2.2.2]]⟩]) (fun s18 q19 h js18=>?_) (fun s18 q19 h js18=>?_) (fun s18 h=>?_)
      ·refine gN Z q19 mv (gN Z q19 mv (gN Z q19 (Mc.ieq Z Z) (oN (Mc.pickT Z q19 (Bo (v17.1==level)) Z) ?_)))
       cases h
       exact js18 _ _ (kw Z Z)
      ·refine gS Z q19 (gS Z q19 (gS Z q19 (oN (Mc.pickF Z q19 (Bo false) Z) ?_)))
       cases h
       exact js18 _ _ (kw Z Z)
      ·refine oN mv ?_;rcases C8 h with ⟨q20,h⟩ | ⟨q20,h⟩
       ·refine gN Z q20 mv (gN Z q20 mv (jD h fun g21 h=>gN Z q20 (Mc.ixst Tryz.underlying9 Z Z g21) (jB h fun v22 cv22 h=>gA Z q20 (EvA.call Z Z Z ((cH (⟨s12.1,s12.2.1⟩:ae) ((v17.2.1.data.getD U.toNat 0).toNat:Int) aH cv22).one 0 Z (.cons (.hp Z) (.cons (.pF Z) .nil)) (ak Z) (ak Z) Z)) (oN (Mc.pickT Z q20 (Bo v22.2) Z) (jA ?_)))));refine jN Z h (fun q23 h=>?_) (fun q23 h=>?_)
        ·refine jC (oN mv (oN as' (jA ?_)))
         cases h
         exact ⟨(),trivial,kw Z Z⟩
        ·refine jG ?_
         cases h
         exact ⟨(),trivial,kw Z Z⟩
       ·refine gS Z q20 (gS Z q20 (gS Z q20 (gS Z q20 (oN (Mc.pickF Z q20 (Bo false) Z) (jA ?_)))));refine T.cond Z (fun q=>absurd (q.symm.trans Z) (by decide)) (fun _=>?_);refine jG ?_
        cases h
        exact ⟨(),trivial,kw Z Z⟩
    ·refine jM (lX h fun h=>?_)
     cases h
     exact ⟨(),trivial,kw Z Z⟩
set_option maxHeartbeats 4000000 in
theorem rK (r_:ae) (level:Int) (aH:Nat) {q:ae×aa} (h:iG r_ level=some q):dz Tryz.prog 156 [.hp 0 aH 2 0 0,I level] [some ⟨aH,2,193,[(ae.c r_)]⟩] (.agg (aa.c q.2)) [some ⟨aH,2,193,[[St q.1.rest,Bo q.1.failed]]⟩]:=by
 obtain ⟨nf,h⟩:=vo h;exact qY nf r_ level aH h
theorem mN (s:List ByteArray) (v:ByteArray) {q:Bool} (h:bN s v=some q):aA Tryz.prog 261 [eL cS s,St v] (Bo q):=by
 refine pM Tryz.func261 Z (by kernel_rfl) Z (jI (oN as' (jA (jI (oN mv (oN mv (oC h (fun _=>gZ _ _) Z Z Z Z fun v1 _ h=>oN (Mc.ige Z Z) (oN as' (jA (jK ?_))))))))))
 cases h
 exact bP Z Z Z
theorem wO (name:ByteArray) {q:Bool} (h:kK name=some q):aA Tryz.prog 216 [St name] (Bo q):=by
 refine pM Tryz.func216 Z (by kernel_rfl) Z (jI (oN as' (jA (jI (oN (Mc.slG (c:=cS) Cg Tryz.underlying266 ty9 Z Z Z Ij) (oN mv (oC h (fun _=>mN _ _) Z Z Z Z fun v1 _ h=>oN as' (jA (jK ?_)))))))))
 cases h
 exact bP Z Z Z
set_option maxHeartbeats 4000000 in
theorem xN:∀ (nf:Nat) (e_:aa) (most:Int) {q:Int} (h:iC nf e_ most=some q),aA Tryz.prog 159 [.agg (aa.c e_),I most] (I q):=by
 intro nf
 induction nf with
 | zero=>intros;rename_i h;cases h
 | succ nf ih=>
  intro e_ most q h;replace h:kL (iC nf) e_ most=some q:=h;refine pM Tryz.func159 Z (by kernel_rfl) Z (jI (oN (Mc.bxF (aa.c e_) Z Z Z) (oN as' (jA (jI (oN (fa pJ Z) (oN (lf (I e_.Op) Mx Z) (oC h (fun _=>nG _) Z Z Z Z fun v1 _ h=>oN mv (oN (Mc.ext (I v1.1) Z Z) (oN (Mc.ext (St v1.2.1) Z Z) (oN (Mc.ext (I v1.2.2) Z Z) (oN as' (oN as' (oN as' ?_))))))))))))));refine jA ?_;obtain ⟨Ks2,es2,ws2,h,ks2⟩:=sumL h;refine T.join (S:=Unit) (G:=Unit) (fun s2=>Ks2 s2=some q) (fun s2 gh=>True) (fun s2 gh=>[(2,.fp (aa.c e_) 0),(1,I most)]) (fun s2 gh=>[]) (fun s2 gh h hg=>?_) ?_
  ·clear ks2;subst es2;refine jI (oN as' (jA ?_));refine T.jU h (fun s10=>[(8,I s10)]) (fun s10=>[]) (fun s10 h=>?_) (fun s10 h=>?_)
   ·refine jI (oN mv (oN as' (jA (jK ?_))))
    cases h
    exact bP Z Z Z
   ·refine jI (oN (fa pJ Z) (oN (lf (eL TXimpl_RelExpr.c e_.Kids) Dy Z) (oN (Mc.lenL zI Z) (oN mv (jA (jE ?_))))));refine T.lU h (fun s13=>[(49,I s13.1),(48,I (e_.Kids.length:Int)),(47,eL TXimpl_RelExpr.c e_.Kids),(8,I s13.2),(1,I most)]) (fun s13=>[]) (kw Z Z) (fun s13 ws13 h=>?_);refine jI (oN (Mc.ilt Z Z) (jA (jH ?_)));refine jN Z h (fun q15 h=>?_) (fun q15 h=>?_)
    ·refine jG (jH (jE (jI (jD h fun g16 h=>oN (Mc.res (Mc.ixL zI Z Z g16 TXimpl_RelExpr.len) (r' := .fp (aa.c (J e_.Kids s13.1).out) 0) (fun _ _ hr=>xe (TXimpl_RelExpr.out_c _) hr)) (oN (lf (.agg (aa.c ((J e_.Kids s13.1).out))) fJ Z) (oA (EvA.al vD Z Z) (oV (sr (aa.c ((J e_.Kids s13.1).out)) fJ Z Z Z Z) (jA (jI (oN mv (oA (lh (.agg (aa.c ((J e_.Kids s13.1).out))) fJ Z Z Z) (oN mv (jW h fun g17 h=>oN (Mc.sub Z Z g17) ?_)))))))))))));refine oC h (fun _=>ih _ _) Z Z Z Z fun v18 _ h=>jW h fun g19 h=>oN (Mc.add Z Z g19) (oN as' (jA (jI (oN mv (oN (Mc.igt Z Z) (jA ?_))))));refine jN Z h (fun q20 h=>?_) (fun q20 h=>?_)
     ·refine jM (lX h fun h=>?_)
      cases h
      exact ⟨(),trivial,mR Z .nil (aj (.fz (qC Z)) aN)⟩
     ·refine jG (jC (jW h fun g21 h=>oN (Mc.add Z Z g21) (oN mv (jA ?_))));exact lE h (mR Z .nil (aj (.fz (qC Z)) (aj (.fz (qC Z)) (aj (.fz (qC Z)) (aj (.fz (qC Z)) (aj (.fz (qC Z)) aN))))))
    ·refine jM (lX h fun h=>?_)
     cases h
     exact ⟨(),trivial,kw Z Z⟩
  ·refine T.jU h (fun s3=>[(45,Bo s3),(2,.fp (aa.c e_) 0),(1,I most)]) (fun s3=>[]) (fun s3 h=>?_) (fun s3 h=>?_)
   ·refine jN Z h (fun q9 h=>?_) (fun q9 h=>?_)
    ·refine jI (oN as' (jA (jK ?_)));obtain rfl:=Mg h;replace h:=congrArg some (show _=_ from ks2)
     cases h
     exact bP Z Z Z
    ·refine jG ?_
     cases h
     exact ⟨(),(),ks2,trivial,kw Z Z⟩
   ·refine T.drawG (fun _=>([],false)) (by kernel_rfl) (by kernel_rfl) (tN Z mv (tN Z (Mc.ieq Z Z) (tN Z mv ?_)));rcases C8 h with ⟨q4,h⟩ | ⟨q4,h⟩
    ·refine MB Z q4 (MB Z q4 (MB Z q4 (MB Z q4 (MB Z q4 (tN Z (Mc.pickT Z q4 (Bo true) Z) (tN Z mv (MB Z Z (MB Z Z (MB Z Z (MB Z Z (MB Z Z (MB Z Z (MB Z Z (tN Z (Mc.pickT Z Z (Bo true) Z) (tN Z mv ?_)))))))))))))));refine MB Z Z (MB Z Z (MB Z Z (MB Z Z (tgU Z (tgU Z (tgU Z (MB Z Z (tN Z (Mc.pickT Z Z (Bo true) Z) (TG.nil ?_)))))))))
     cases h
     exact ⟨(),trivial,kw Z Z⟩
    ·refine My Z q4 Z (fa pJ Z) (My Z q4 Z (lf (eL TXimpl_RelExpr.c e_.Kids) Dy Z) (My Z q4 Z (Mc.lenL zI Z) (My Z q4 Z mv (My Z q4 Z (Mc.ine Z Z) (tN Z (Mc.pickF Z q4 (Bo ((e_.Kids.length:Int) != v1.2.2)) Z) (tN Z mv ?_))))));rcases C8 h with ⟨q5,h⟩ | ⟨q5,h⟩
     ·refine MB Z q5 (MB Z q5 (MB Z q5 (MB Z q5 (MB Z q5 (MB Z q5 (MB Z q5 (tN Z (Mc.pickT Z q5 (Bo true) Z) (tN Z mv (MB Z Z (MB Z Z (MB Z Z (MB Z Z (tgU Z (tgU Z (tgU Z ?_)))))))))))))));refine MB Z Z (tN Z (Mc.pickT Z Z (Bo true) Z) (TG.nil ?_))
      cases h
      exact ⟨(),trivial,kw Z Z⟩
     ·refine My Z q5 Z (fa pJ Z) (My Z q5 Z (lf (I e_.Op) Mx Z) (My Z q5 Z (Mc.ieq Z Z) (My Z q5 Z (fa pJ Z) (My Z q5 Z (lf (St e_.Name) ty9 Z) (jB h fun v6 cv6 h=>My Z q5 Z (Mc.call Z Z Z (wO e_.Name cv6) Z) (My Z q5 Z (Mc.bne bt4 Z Z) (tN Z (Mc.pickF Z q5 (Bo (!((e_.Op==V)==v6))) Z) (tN Z mv ?_))))))));rcases C8 h with ⟨q7,h⟩ | ⟨q7,h⟩
      ·refine MB Z q7 (MB Z q7 (MB Z q7 (MB Z q7 (tgU Z (tgU Z (tgU Z (MB Z q7 (tN Z (Mc.pickT Z q7 (Bo true) Z) (TG.nil ?_)))))))))
       cases h
       exact ⟨(),trivial,kw Z Z⟩
      ·refine My Z q7 Z (fa pJ Z) (My Z q7 Z (lf (I e_.Op) Mx Z) (My Z q7 Z (Mc.ine Z Z) (My Z q7 Z mv ?_)));rcases C8 h with ⟨q8,h⟩ | ⟨q8,h⟩
       ·refine My Z q8 Z (fa pJ Z) (My Z q8 Z (lf (St e_.Name) ty9 Z) (My Z q8 Z (Mc.sne Z Z) (My Z q7 Z (Mc.pickT Z q8 (Bo (!decide (e_.Name=(⟨#[]⟩:ByteArray)))) Z) (tN Z (Mc.pickF Z q7 (Bo (!decide (e_.Name=(⟨#[]⟩:ByteArray)))) Z) (TG.nil ?_)))))
        cases h
        exact ⟨(),trivial,kw Z Z⟩
       ·refine MB Z q8 (MB Z q8 (MB Z q8 (My Z q7 Z (Mc.pickF Z q8 (Bo false) Z) (tN Z (Mc.pickF Z q7 (Bo false) Z) (TG.nil ?_)))))
        cases h
        exact ⟨(),trivial,kw Z Z⟩
set_option maxHeartbeats 4000000 in
theorem yA (e_:aa) (most:Int) {q:Int} (h:qK e_ most=some q):aA Tryz.prog 159 [.agg (aa.c e_),I most] (I q):=by
 obtain ⟨nf,h⟩:=vo h;exact xN nf e_ most h
theorem nT (e_:aa) {q:Bool} (h:eP e_=some q):aA Tryz.prog 103 [.agg (aa.c e_)] (Bo q):=by
 refine pM Tryz.func103 Z (by kernel_rfl) Z (jI (oN (Mc.bxF (aa.c e_) Z Z Z) (oN as' (jA (jI (oN (lf (.agg (aa.c e_)) fJ Z) (oC h (fun _=>yA _ _) Z Z Z Z fun v1 _ h=>oN (Mc.ile Z Z) (oN as' (jA (jK ?_))))))))))
 cases h
 exact bP Z Z Z
theorem xO:∀ (nf:Nat) (e_:aa) (most:Int) {q:ByteArray} (h:iD nf e_ most=some q),aA Tryz.prog 215 [.agg (aa.c e_),I most] (St q):=by
 intro nf
 induction nf with
 | zero=>intros;rename_i h;cases h
 | succ nf ih=>
  intro e_ most q h;replace h:kM (iD nf) e_ most=some q:=h;refine pM Tryz.func215 Z (by kernel_rfl) Z (jI (oN (Mc.bxF (aa.c e_) Z Z Z) (oN as' (jA (jI (oN (fa pJ Z) (oN (lf (I e_.Op) Mx Z) (oC h (fun _=>nG _) Z Z Z Z fun v1 _ h=>oN mv (oN (Mc.ext (I v1.1) Z Z) (oN (Mc.ext (St v1.2.1) Z Z) (oN (Mc.ext (I v1.2.2) Z Z) (oN as' (oN as' (oN as' ?_))))))))))))));refine jA (jI (oN (fa pJ Z) (oN (lf (St e_.Name) ty9 Z) (oN as' (jA ?_)))));refine T.jU h (fun s2=>[(8,St s2),(5,I v1.1),(1,I most)]) (fun s2=>[]) (fun s2 h=>?_) (fun s2 h=>?_)
  ·refine jH (jI (oN mv (oN mv (oN (Mc.igt Z Z) (jA ?_)))));refine jN Z h (fun q15 h=>?_) (fun q15 h=>?_)
   ·refine jI (oN mv (jD h fun g16 h=>oN (Mc.cat Z Z g16) (jD h fun g17 h=>oN (Mc.cat Z Z g17) (oN as' (jA (jK ?_))))))
    cases h
    exact bP Z Z Z
   ·refine jG (jI (oN mv (oN as' (jA (jK ?_)))))
    cases h
    exact bP Z Z Z
  ·refine jI (oN mv (jA (jE (jI (oN (Mc.ieq Z Z) (oN as' (jA ?_)))))));refine jN Z h (fun q3 h=>?_) (fun q3 h=>?_)
   ·refine T.clean (H0:=[]) (e0:=au [(6,St v1.2.1),(5,I v1.1),(2,.fp (aa.c e_) 0),(1,I most)]) Z (Mb Z (Mb Z (Mb Z (Mb Z Ma)))) (jC (oN mv (oN (fa pJ Z) (oN (lf (eL TXimpl_RelExpr.c e_.Kids) Dy Z) (jD h fun g4 h=>oN (Mc.res (Mc.ixL zI Z Z g4 TXimpl_RelExpr.len) (r' := .fp (aa.c (J e_.Kids U).out) 0) (fun _ _ hr=>xe (TXimpl_RelExpr.out_c _) hr)) (oN (lf (.agg (aa.c ((J e_.Kids U).out))) fJ Z) (oC h (fun _=>ih _ _) Z Z Z Z fun v5 _ h=>jD h fun g6 h=>oN (Mc.cat Z Z g6) (oN as' (jA ?_)))))))))
    cases h
    exact ⟨(),trivial,kw Z Z⟩
   ·refine jI (oN (Mc.ieq Z Z) (oN as' (jA ?_)));refine jN Z h (fun q7 h=>?_) (fun q7 h=>?_)
    ·refine T.clean (H0:=[]) (e0:=au [(6,St v1.2.1),(5,I v1.1),(2,.fp (aa.c e_) 0),(1,I most)]) Z (Mb Z (Mb Z (Mb Z (Mb Z Ma)))) (jP (fun _=>([],false)) (by kernel_rfl) (by kernel_rfl) (fN Z (fa pJ Z) (fN Z (lf (eL TXimpl_RelExpr.c e_.Kids) Dy Z) (jD h fun g8 h=>fN Z (Mc.res (Mc.ixL zI Z Z g8 TXimpl_RelExpr.len) (r' := .fp (aa.c (J e_.Kids U).out) 0) (fun _ _ hr=>xe (TXimpl_RelExpr.out_c _) hr)) (fN Z (lf (.agg (aa.c ((J e_.Kids U).out))) fJ Z) (fN Z mv (fC h (fun _=>ih _ _) Z Z Z Z Z fun v9 _ h=>fN Z mv (jD h fun g10 h=>fN Z (Mc.cat Z Z g10) (fN Z (fa pJ Z) (fN Z (lf (eL TXimpl_RelExpr.c e_.Kids) Dy Z) (jD h fun g11 h=>fN Z (Mc.res (Mc.ixL zI Z Z g11 TXimpl_RelExpr.len) (r' := .fp (aa.c (J e_.Kids V).out) 0) (fun _ _ hr=>xe (TXimpl_RelExpr.out_c _) hr)) ?_)))))))))));refine fN Z (lf (.agg (aa.c ((J e_.Kids V).out))) fJ Z) (fN Z mv (jW h fun g12 h=>fN Z (Mc.sub Z Z g12) (fC h (fun _=>ih _ _) Z Z Z Z Z fun v13 _ h=>jD h fun g14 h=>fN Z (Mc.cat Z Z g14) (fN Z as' (jR ?_)))))
     cases h
     exact ⟨(),trivial,kw Z Z⟩
    ·refine jG ?_
     cases h
     exact ⟨(),trivial,kw Z Z⟩
theorem yB (e_:aa) (most:Int) {q:ByteArray} (h:qL e_ most=some q):aA Tryz.prog 215 [.agg (aa.c e_),I most] (St q):=by
 obtain ⟨nf,h⟩:=vo h;exact xO nf e_ most h
theorem mV (e_:aa) {q:ByteArray} (h:dQ e_=some q):aA Tryz.prog 157 [.agg (aa.c e_)] (St q):=by
 refine pM Tryz.func157 Z (by kernel_rfl) Z (jI (oN (Mc.bxF (aa.c e_) Z Z Z) (oN as' (jA (jH (jI (oN (lf (.agg (aa.c e_)) fJ Z) (oC h (fun _=>nT _) Z Z Z Z fun v1 _ h=>oN (Mc.not Z) (jA ?_)))))))));refine jN Z h (fun q2 h=>?_) (fun q2 h=>?_)
 ·refine jI (oN as' (jA (jK ?_)))
  cases h
  exact bP Z Z Z
 ·refine jG (jI (oN (lf (.agg (aa.c e_)) fJ Z) (oC h (fun _=>yB _ _) Z Z Z Z fun v3 _ h=>oN as' (jA (jK ?_)))))
  cases h
  exact bP Z Z Z
theorem um (text:ByteArray) {q:aa×Bool} (h:ij text=some q):aA Tryz.prog 99 [St text] (.tup [.agg (aa.c q.1),Bo q.2]):=by
 refine pM Tryz.func99 Z (by kernel_rfl) Z (jI (oA (EvA.al vD Z Z) (oN as' (jA (jH (jI (oN mv (oN (Mc.lenst Tryz.underlying9 Z) (oN (Mc.igt Z Z) (jA ?_))))))))));refine jN Z h (fun q1 h=>?_) (fun q1 h=>?_)
 ·refine jI (oN (Mc.build [I U,St (⟨#[]⟩:ByteArray),.nil] Tryz.underlying129 vD pJ Z Z) (oV (sr [I U,St (⟨#[]⟩:ByteArray),.nil] fJ Z Z Z Z) (oN as' (jA (jK ?_)))));obtain rfl:=Mg h
  repeat (first|refine cn ?_|refine cu ?_)
  exact jQ (vs:=[.agg [I U,St (⟨#[]⟩:ByteArray),.nil],Bo false]) (.cons (.cell (.agg [I U,St (⟨#[]⟩:ByteArray),.nil]) fJ Z Z Z Z Z Z) (.cons (.tmp Z) .nil)) (.tupL (.cons (Fz.aggL (.cons (qC Z) (.cons (qC Z) (.cons (.nil0) .nil)))) (.cons (qC Z) .nil)))
 ·refine jG (jI (oN mv (oN (Mc.build [St text,Bo false] Tryz.underlying193 LB uL Z Z) (oA (EvA.bx (cs:=[St text,Bo false]) Z Z Z) (oN as' (jA (jI (oN mv (jB h fun v2 cv2 h=>oA (EvA.call Z Z Z ((rK (⟨text,false⟩:ae) (3:Int) 0 cv2).one 1 Z (.cons (.hp Z) (.cons (.pF Z) .nil)) (ak Z) (ak Z) Z)) (oA (EvA.al vD Z Z) (oV (sr (aa.c v2.2) fJ Z Z Z Z) (jA (jH (jI ?_))))))))))))));refine oN mv (oN (nl Z) (oN (fa uL Z) (oA (lh (Bo v2.1.failed) ty4 Z Z Z) (oN mv ?_))));refine TO.jB h 6 (fun s3=>[(25,Bo s3),(5,.hp 2 0 3 0 0),(2,.hp 0 0 3 0 0),(0,St text)]) (fun s3=>[some ⟨0,3,129,[[I U,St (⟨#[]⟩:ByteArray),.nil]]⟩,some ⟨0,2,193,[(ae.c v2.1)]⟩,some ⟨0,3,129,[(aa.c v2.2)]⟩]) (fun s3 q4 h js3=>?_) (fun s3 q4 h js3=>?_) (fun s3 h=>?_)
  ·refine gS Z q4 (gS Z q4 (gS Z q4 (gS Z q4 (gS Z q4 (oN (Mc.pickT Z q4 (Bo true) Z) ?_)))))
   cases h
   exact js3 _ _ (kw Z Z)
  ·refine gN Z q4 mv (gN Z q4 (nl Z) (gN Z q4 (fa uL Z) (gA Z q4 (lh (St v2.1.rest) ty9 Z Z Z) (gN Z q4 (Mc.sne Z Z) (oN (Mc.pickF Z q4 (Bo (!decide (v2.1.rest=(⟨#[]⟩:ByteArray)))) Z) ?_)))))
   cases h
   exact js3 _ _ (kw Z Z)
  ·refine oN mv ?_;refine TO.jB h 3 (fun s5=>[(29,Bo s5),(5,.hp 2 0 3 0 0),(2,.hp 0 0 3 0 0),(0,St text)]) (fun s5=>[some ⟨0,3,129,[[I U,St (⟨#[]⟩:ByteArray),.nil]]⟩,some ⟨0,2,193,[(ae.c v2.1)]⟩,some ⟨0,3,129,[(aa.c v2.2)]⟩]) (fun s5 q6 h js5=>?_) (fun s5 q6 h js5=>?_) (fun s5 h=>?_)
   ·refine gS Z q6 (gS Z q6 (oN (Mc.pickT Z q6 (Bo true) Z) ?_))
    cases h
    exact js5 _ _ (kw Z Z)
   ·refine gN Z q6 mv (gN Z q6 (Mc.seq Z Z) (oN (Mc.pickF Z q6 (Bo (decide (text=(⟨#[]⟩:ByteArray)))) Z) ?_))
    cases h
    exact js5 _ _ (kw Z Z)
   ·refine oN mv ?_;refine TO.jB h 5 (fun s7=>[(35,Bo s7),(5,.hp 2 0 3 0 0),(2,.hp 0 0 3 0 0)]) (fun s7=>[some ⟨0,3,129,[[I U,St (⟨#[]⟩:ByteArray),.nil]]⟩,some ⟨0,2,193,[(ae.c v2.1)]⟩,some ⟨0,3,129,[(aa.c v2.2)]⟩]) (fun s7 q8 h js7=>?_) (fun s7 q8 h js7=>?_) (fun s7 h=>?_)
    ·refine gS Z q8 (gS Z q8 (gS Z q8 (gS Z q8 (oN (Mc.pickT Z q8 (Bo true) Z) ?_))))
     cases h
     exact js7 _ _ (kw Z Z)
    ·refine gA Z q8 (lh (.agg (aa.c v2.2)) fJ Z Z Z) (jB h fun v9 cv9 h=>gN Z q8 (Mc.call Z Z Z (mV (⟨v2.2.Op,v2.2.Name,v2.2.Kids⟩:aa) cv9) Z) (gN Z q8 mv (gN Z q8 (Mc.sne Z Z) (oN (Mc.pickF Z q8 (Bo (!decide (v9=text))) Z) ?_))))
     cases h
     exact js7 _ _ (kw Z Z)
    ·refine jA ?_;refine jN Z h (fun q10 h=>?_) (fun q10 h=>?_)
     ·refine jI (oN (Mc.build [I U,St (⟨#[]⟩:ByteArray),.nil] Tryz.underlying129 vD pJ Z Z) (oV (sr [I U,St (⟨#[]⟩:ByteArray),.nil] fJ Z Z Z Z) (oN as' (jA (jK ?_)))));obtain rfl:=Mg h
      repeat (first|refine cn ?_|refine cu ?_)
      exact jQ (vs:=[.agg [I U,St (⟨#[]⟩:ByteArray),.nil],Bo false]) (.cons (.cell (.agg [I U,St (⟨#[]⟩:ByteArray),.nil]) fJ Z Z Z Z Z Z) (.cons (.tmp Z) .nil)) (.tupL (.cons (Fz.aggL (.cons (qC Z) (.cons (qC Z) (.cons (.nil0) .nil)))) (.cons (qC Z) .nil)))
     ·refine jG (jI (oA (lh (.agg (aa.c v2.2)) fJ Z Z Z) (oV (sr (aa.c v2.2) fJ Z Z Z Z) (oN as' (jA (jK ?_))))));obtain rfl:=Mg h
      repeat (first|refine cn ?_|refine cu ?_)
      exact jQ (vs:=[.agg (aa.c v2.2),Bo true]) (.cons (.cell (.agg (aa.c v2.2)) fJ Z Z Z Z Z Z) (.cons (.tmp Z) .nil)) (.tupL (.cons (qC Z) (.cons (qC Z) .nil)))
theorem uo (x:Int) (low:Int) (high:Int) {q:Bool} (h:mb x low high=some q):aA Tryz.prog 92 [I x,I low,I high] (Bo q):=by
 refine pM Tryz.func92 Z (by kernel_rfl) Z (jI (oN as' (jA (jI (oN mv (oN mv (oN (Mc.ige Z Z) (oN mv ?_))))))));refine TO.jB h 4 (fun s1=>[(14,Bo s1)]) (fun s1=>[]) (fun s1 q2 h js1=>?_) (fun s1 q2 h js1=>?_) (fun s1 h=>?_)
 ·refine gN Z q2 mv (gN Z q2 mv (gN Z q2 (Mc.ile Z Z) (oN (Mc.pickT Z q2 (Bo (decide (x<=high))) Z) ?_)))
  cases h
  exact js1 _ _ (kw Z Z)
 ·refine gS Z q2 (gS Z q2 (gS Z q2 (oN (Mc.pickF Z q2 (Bo false) Z) ?_)))
  cases h
  exact js1 _ _ (kw Z Z)
 ·refine oN as' (jA (jK ?_))
  cases h
  exact bP Z Z Z
theorem uq (r_:ai) {q:Bool} (h:ik r_=some q):aA Tryz.prog 102 [.agg (ai.c r_)] (Bo q):=by
 refine pM Tryz.func102 Z (by kernel_rfl) Z (jI (oN (Mc.bxF (ai.c (⟨r_.Kind,r_.Expr⟩:ai)) Z Z Z) (oN as' (jA (jI (oN (fa EP Z) (oN (lf (I r_.Kind) Mx Z) (oC h (fun _=>uo _ _ _) Z Z Z Z fun v1 _ h=>oN (Mc.not Z) (oN mv ?_)))))))));refine TO.jB h 5 (fun s2=>[(12,Bo s2)]) (fun s2=>[]) (fun s2 q3 h js2=>?_) (fun s2 q3 h js2=>?_) (fun s2 h=>?_)
 ·refine gS Z q3 (gS Z q3 (gS Z q3 (gS Z q3 (oN (Mc.pickT Z q3 (Bo true) Z) ?_))))
  cases h
  exact js2 _ _ (kw Z Z)
 ·refine gN Z q3 (Mc.fafpS 3 Tryz.underlying133 Z (by kernel_rfl) Z Z (row2:=aa.c r_.Expr)) (gN Z q3 (lf (.agg (aa.c r_.Expr)) fJ Z) (jB h fun v4 cv4 h=>gN Z q3 (Mc.call Z Z Z (nT r_.Expr cv4) Z) (gN Z q3 (Mc.not Z) (oN (Mc.pickF Z q3 (Bo (!v4)) Z) ?_))))
  cases h
  exact js2 _ _ (kw Z Z)
 ·refine oN as' (jA (jK ?_))
  cases h
  exact bP Z Z Z
theorem dx (s:List ai) {q:Int} (h:aF s=some q):aA Tryz.prog 158 [eL ai.c s,.fn (.func 102) []] (I q):=by
 refine pM Tryz.func158 Z (by kernel_rfl) Z (jI (oN as' (jA ?_)));obtain ⟨Ks1,es1,ws1,h,ks1⟩:=sumL h;refine T.join (S:=Unit) (G:=Unit) (fun s1=>Ks1 s1=some q) (fun s1 gh=>True) (fun s1 gh=>[]) (fun s1 gh=>[]) (fun s1 gh h hg=>?_) ?_
 ·clear ks1;subst es1;refine jI (oN as' (jA (jK ?_)))
  cases h
  exact bP Z Z Z
 ·refine jI (oN mv (oN (Mc.lenL HL Z) (oN mv (jA (jE ?_)))));refine T.lU h (fun s4=>[(8,I s4),(7,I (s.length:Int)),(0,eL ai.c s),(1,.fn (.func 102) [])]) (fun s4=>[]) (kw Z Z) (fun s4 ws4 h=>?_);refine jI (oN (Mc.ilt Z Z) (jA (jH ?_)));refine jN Z h (fun q6 h=>?_) (fun q6 h=>?_)
  ·refine jG (jH (jE (jI (oN mv (oN as' (jA (jI (oN mv (oN mv (oN mv (jD h fun g7 h=>oN (Mc.ixL HL Z Z g7 qD) (oN (lf (.agg (ai.c (J s s4))) EO Z) (oC h (fun _=>uq _) Z Z Z Z fun v8 _ h=>jA ?_)))))))))))));refine jN Z h (fun q9 h=>?_) (fun q9 h=>?_)
   ·refine jI (oN mv (oN as' (jA (jK (lX h fun h=>?_)))));obtain rfl:=Mg h;replace h:=congrArg some (show _=_ from ks1)
    cases h
    exact bP Z Z Z
   ·refine jG (jC (jW h fun g10 h=>oN (Mc.add Z Z g10) (oN mv (jA ?_))));exact lE h (kw Z Z)
  ·refine jM (lX h fun h=>?_)
   cases h
   exact ⟨(),(),ks1,trivial,kw Z Z⟩
theorem cJ (s:List ai) {q:Bool} (h:aC s=some q):aA Tryz.prog 101 [eL ai.c s,.fn (.func 102) []] (Bo q):=by
 refine pM Tryz.func101 Z (by kernel_rfl) Z (jI (oN as' (jA (jI (oN mv (oN mv (oC h (fun _=>dx _) Z Z Z Z fun v1 _ h=>oN (Mc.ige Z Z) (oN as' (jA (jK ?_))))))))))
 cases h
 exact bP Z Z Z
theorem qm (m:List ai) {q:Bool} (h:eG m=some q):aA Tryz.prog 46 [eL ai.c m] (Bo q):=by
 refine pM Tryz.func46 Z (by kernel_rfl) Z (jI (oN as' (jA (jI (oN mv (oN (Mc.lenL HL Z) (oC h (fun _=>uo _ _ _) Z Z Z Z fun v1 _ h=>oN mv ?_)))))));refine TO.jB h 4 (fun s2=>[(10,Bo s2)]) (fun s2=>[]) (fun s2 q3 h js2=>?_) (fun s2 q3 h js2=>?_) (fun s2 h=>?_)
 ·refine gN Z q3 mv (jB h fun v4 cv4 h=>gN Z q3 (Mc.call Z Z Z (cJ m cv4) Z) (gN Z q3 (Mc.not Z) (oN (Mc.pickT Z q3 (Bo (!v4)) Z) ?_)))
  cases h
  exact js2 _ _ (kw Z Z)
 ·refine gS Z q3 (gS Z q3 (gS Z q3 (oN (Mc.pickF Z q3 (Bo false) Z) ?_)))
  cases h
  exact js2 _ _ (kw Z Z)
 ·refine oN as' (jA (jK ?_))
  cases h
  exact bP Z Z Z
theorem yC (elems:List ByteArray) (sep:ByteArray) {q:ByteArray} (h:nI elems sep=some q):aA Tryz.prog 141 [eL cS elems,St sep] (St q):=by
 refine pM Tryz.func141 Z (by kernel_rfl) Z (jI (oN as' (jA (jH (jI (oN mv (oN (Mc.lenL zH Z) (jA (jE (jI (oN (Mc.ieq Z Z) (oN as' (jA ?_)))))))))))));refine jN Z h (fun q1 h=>?_) (fun q1 h=>?_)
 ·refine jI (oN as' (jA (jK ?_)))
  cases h
  exact bP Z Z Z
 ·refine jI (oN (Mc.ieq Z Z) (oN as' (jA ?_)));refine jN Z h (fun q2 h=>?_) (fun q2 h=>?_)
  ·refine jI (oN mv (jD h fun g3 h=>oN (Mc.ixL zH Z Z g3 qD) (oN (lf (St (J elems U)) ty9 Z) (oN as' (jA (jK ?_))))))
   cases h
   exact bP Z Z Z
  ·cases h
end
end Go.Proofs.YtcmimhffgmckjaaGreatDoor
