/- Texts joined. No conditions. -/
import Derived.Test.YtlmjnhnpahicmaaGreatY12
namespace Go.Proofs.YtlmjnhnpahicmaaGreat
noncomputable section
open Go.RowKit
set_option maxRecDepth 100000
set_option maxHeartbeats 4000000 in
theorem mq:∀ (nf:Nat) (s:ZTr) (pc:Z3i) (ver0:Nat) (ver1:Nat) {q:ZTr×Bool} (h:ak nf s pc=some q),bg Tryz.prog 69 [.hp 0 ver0 6 0 0,.agg (Z3i.c pc)] [some ⟨ver0,6,95,[[eL (cL Jh.c) s.p,eL cI s.x.From,eL (cL cI) s.x.Order,eL (cL cI) s.number,hS false 1 ver1 1 s.schedule.length,.mp 2 4]]⟩,bE false ver1 1 3 (s.schedule.map cI),(some (mB 3 1 kI3 cB s.failed))] (G9 (Bo q.2) fun ver=>[some ⟨ver0,6,95,[[eL (cL Jh.c) q.1.p,eL cI q.1.x.From,eL (cL cI) q.1.x.Order,eL (cL cI) q.1.number,hS false 1 ver 1 q.1.schedule.length,.mp 2 4]]⟩,bE false ver 1 3 (q.1.schedule.map cI),(some (mB 3 1 kI3 cB q.1.failed))]):=by
 intro nf
 induction nf with
 | zero=>intros;rename_i h;cases h
 | succ nf ih=>
  intro s pc ver0 ver1 q h;replace h:aH (ak nf) s pc=some q:=h;refine bg.mkS Tryz.func69 Z (by kernel_rfl) Z (by kernel_rfl) (e0:=ae [(0,.hp 0 ver0 6 0 0),(1,.agg (Z3i.c pc))]) (Jd Z (Jd Z Jc)) (T.sr (oN (Je.bxF (Z3i.c pc) Z Z Z) (oN as' (TO.nil (T.seq (T.seq (T.drawF (fun i=>[([],false),([],false),([],false),([0],false),([],false),([2],false)].getD i ([],false)) (by kernel_rfl) (by kernel_rfl) (fN Z mv (fN Z (nl Z) (fN Z (fa wy Z) (fR [0] Z (fun G hG=>EvA.loadhp (.mp 2 4) IW Z (hG.a0 Z) Z Z Z Z) (fN Z (lf (.agg (Z3i.c pc)) Gw Z) (fR [2] Z (fun G hG=>EvA.lookB (l:=s.failed) IY Tryz.underlying93 (by kernel_rfl) (pc.x0,pc.x1,pc.x2) Z Z (hG.a0 Z)) (TF.nil ?_))))))))))))));refine T.ifH Z h (fun q1 h=>?_) (fun q1 h=>?_)
  ·refine T.sr (oN as' (TO.nil (T.ret ?_)));obtain rfl:=Jg h
   repeat (first|refine kP ?_|refine kQ ?_)
   exact ⟨ae [(4,Bo false)],[some ⟨ver0,6,95,[[eL (cL Jh.c) s.p,eL cI s.x.From,eL (cL cI) s.x.Order,eL (cL cI) s.number,hS false 1 ver1 1 s.schedule.length,.mp 2 4]]⟩,bE false ver1 1 3 (s.schedule.map cI),(some (mB 3 1 kI3 cB s.failed))],kw Z Z,Fin.ret (vs:=[Bo false]) (.cons (.tmp Z) .nil) ⟨ver1,Z,Z⟩⟩
  ·refine T.skip (T.sr (oN as' (TO.nil ?_)));refine T.jU h (fun s2=>[(5,Bo s2),(3,.fp (Z3i.c pc) 0),(0,.hp 0 ver0 6 0 0)]) (fun s2=>[some ⟨ver0,6,95,[[eL (cL Jh.c) s.p,eL cI s.x.From,eL (cL cI) s.x.Order,eL (cL cI) s.number,hS false 1 ver1 1 s.schedule.length,.mp 2 4]]⟩,bE false ver1 1 3 (s.schedule.map cI),(some (mB 3 1 kI3 cB s.failed))]) (fun s2 h=>?_) (fun s2 h=>?_)
   ·refine T.seq (T.sr (oN mv (TO.nil ?_)));refine T.ifH Z h (fun q13 h=>?_) (fun q13 h=>?_)
    ·refine T.sr (oN as' (TO.nil (T.ret ?_)));obtain rfl:=Jg h
     repeat (first|refine kP ?_|refine kQ ?_)
     exact ⟨ae [(4,Bo true)],[some ⟨ver0,6,95,[[eL (cL Jh.c) s.p,eL cI s.x.From,eL (cL cI) s.x.Order,eL (cL cI) s.number,hS false 1 ver1 1 s.schedule.length,.mp 2 4]]⟩,bE false ver1 1 3 (s.schedule.map cI),(some (mB 3 1 kI3 cB s.failed))],kw Z Z,Fin.ret (vs:=[Bo true]) (.cons (.tmp Z) .nil) ⟨ver1,Z,Z⟩⟩
    ·refine T.skip ?_;obtain ⟨Ks14,es14,ws14,h,ks14⟩:=sumL h;refine T.join (S:=(List (List Jh))×(LI)×(LL)×(LL)×(LI)×(List ((Int×Int×Int)×Bool))) (G:=Nat) (fun s14=>Ks14 s14=some q) (fun s14 gh=>True) (fun s14 gh=>[(3,.fp (Z3i.c pc) 0),(0,.hp 0 ver0 6 0 0)]) (fun s14 gh=>[some ⟨ver0,6,95,[[eL (cL Jh.c) s14.1,eL cI s14.2.1,eL (cL cI) s14.2.2.1,eL (cL cI) s14.2.2.2.1,hS false 1 gh 1 s14.2.2.2.2.1.length,.mp 2 4]]⟩,bE false gh 1 3 (s14.2.2.2.2.1.map cI),(some (mB 3 1 kI3 cB s14.2.2.2.2.2))]) (fun s14 u35 h hg=>?_) ?_
     ·clear ks14;subst es14;refine T.seq (T.drawF (fun i=>[([],false),([],false),([],false),([0],false),([],false),([2],true)].getD i ([],false)) (by kernel_rfl) (by kernel_rfl) (fN Z mv (fN Z (nl Z) (fN Z (fa wy Z) (fR [0] Z (fun G hG=>EvA.loadhp (.mp 2 4) IW Z (hG.a0 Z) Z Z Z Z) (fN Z (lf (.agg (Z3i.c pc)) Gw Z) (fV 2 [] Z Z (fun G hG=>EvA.msetB (l:=s14.2.2.2.2.2) IY Tryz.underlying93 (pc.x0,pc.x1,pc.x2) true Z Z Z (hG.a0 Z)) (TF.nil (T.sr (oN as' (TO.nil (T.ret ?_))))))))))));obtain rfl:=Jg h
      repeat (first|refine kP ?_|refine kQ ?_)
      exact ⟨ae [(4,Bo false)],[some ⟨ver0,6,95,[[eL (cL Jh.c) s14.1,eL cI s14.2.1,eL (cL cI) s14.2.2.1,eL (cL cI) s14.2.2.2.1,hS false 1 u35 1 s14.2.2.2.2.1.length,.mp 2 4]]⟩,bE false u35 1 3 (s14.2.2.2.2.1.map cI),(some (mB 3 1 kI3 cB (BC s14.2.2.2.2.2 (pc.x0,pc.x1,pc.x2) true)))],kw Z Z,Fin.ret (vs:=[Bo false]) (.cons (.tmp Z) .nil) ⟨u35,Z,Z⟩⟩
     ·refine T.sr (oN mv (oN (nl Z) (oN (fa wy Z) (oA (lh (eL (cL Jh.c) s.p) Fu Z Z Z) (oN (Je.lenL tT Z) (oN mv (TO.nil (T.block ?_))))))));refine T.loop (S:=(List (List Jh))×(LI)×(LL)×(LL)×(LI)×(List ((Int×Int×Int)×Bool))×Int) (G:=Nat) (bi (ak nf) s pc) (fun s18 gh=>True) (fun s18 gh=>[(45,I s18.2.2.2.2.2.2),(44,I (s.p.length:Int)),(3,.fp (Z3i.c pc) 0),(0,.hp 0 ver0 6 0 0)]) (fun s18 gh=>[some ⟨ver0,6,95,[[eL (cL Jh.c) s18.1,eL cI s18.2.1,eL (cL cI) s18.2.2.1,eL (cL cI) s18.2.2.2.1,hS false 1 gh 1 s18.2.2.2.2.1.length,.mp 2 4]]⟩,bE false gh 1 3 (s18.2.2.2.2.1.map cI),(some (mB 3 1 kI3 cB s18.2.2.2.2.2.1))]) (s0:=(s.p,s.x.From,s.x.Order,s.number,s.schedule,s.failed,U)) ver1 h trivial (kw Z Z) (fun s18 u20 ws18 h hg=>?_);refine T.sr (oN (Je.ilt Z Z) (TO.nil (T.seq ?_)));refine T.ifH Z h (fun q21 h=>?_) (fun q21 h=>?_)
      ·refine T.skip ?_;obtain ⟨Ks22,es22,ws22,h,ks22⟩:=sumL h;refine T.join (S:=(List (List Jh))×(LI)×(LL)×(LL)×(LI)×(List ((Int×Int×Int)×Bool))) (G:=Nat) (fun s22=>Ks22 s22=some ws18) (fun s22 gh=>True) (fun s22 gh=>[(45,I s18.2.2.2.2.2.2),(44,I (s.p.length:Int)),(3,.fp (Z3i.c pc) 0),(0,.hp 0 ver0 6 0 0)]) (fun s22 gh=>[some ⟨ver0,6,95,[[eL (cL Jh.c) s22.1,eL cI s22.2.1,eL (cL cI) s22.2.2.1,eL (cL cI) s22.2.2.2.1,hS false 1 gh 1 s22.2.2.2.2.1.length,.mp 2 4]]⟩,bE false gh 1 3 (s22.2.2.2.2.1.map cI),(some (mB 3 1 kI3 cB s22.2.2.2.2.2))]) (fun s22 u33 h hg=>?_) ?_
       ·clear ks22;subst es22;refine T.region (jW h fun g34 h=>oN (Je.add Z Z g34) (oN mv (TO.nil ?_)));obtain rfl:=Jg h;exact ⟨(s22.1,s22.2.1,s22.2.2.1,s22.2.2.2.1,s22.2.2.2.2.1,s22.2.2.2.2.2,(s18.2.2.2.2.2.2+V)),u33,Z,trivial,kw Z Z⟩
       ·refine T.block (T.sr (oN mv (oN as' (TO.nil (T.seq (T.sr (oN mv (oN (lf (.agg (Z3i.c pc)) Gw Z) (oN mv (jB h fun v23 cv23 h=>oA (EvA.callTP Z Z (nL (⟨s18.1,(⟨s18.2.1,s18.2.2.1⟩:Ji),s18.2.2.2.1⟩:ZTv) pc s18.2.2.2.2.2.2 cv23) (.cons (.hp (ver:=ver0) (s:=6) (ty:=95) (r:=[eL (cL Jh.c) s18.1,eL cI s18.2.1,eL (cL cI) s18.2.2.1,eL (cL cI) s18.2.2.2.1]) (x:=[hS false 1 u20 1 s18.2.2.2.2.1.length,.mp 2 4]) Z (.cons (.of_isF 9 _ Z) (.cons (.of_isF 9 _ Z) (.cons (.of_isF 9 _ Z) (.cons (.of_isF 9 _ Z) .nil))))) (.cons (.fz (.of_isF 9 _ Z)) (.cons (.fz (.of_isF 9 _ Z)) .nil))) Z) (oN (Je.not Z) (TO.nil ?_))))))))))));refine T.ifH Z h (fun q24 h=>?_) (fun q24 h=>?_)
        ·refine T.exit ?_;obtain rfl:=Jg h;exact ⟨(s18.1,s18.2.1,s18.2.2.1,s18.2.2.2.1,s18.2.2.2.2.1,s18.2.2.2.2.2.1),u20,ks22,trivial,kw Z Z⟩
        ·refine T.skip (T.sr (oN (lf (.agg (Z3i.c pc)) Gw Z) (oA (EvA.al ID Z Z) (oV (sr (Z3i.c pc) Gw Z Z Z Z) (TO.nil (T.sr (oN mv (jD h fun g25 h=>oN (Je.ixahp Tryz.underlying97 Ju Z Z g25) (oA (lh1 (fun z0=>I (Z3i.get pc z0)) g25 Ju Z Z Z Z Z) (jW h fun g26 h=>oN (Je.add Z Z g26) (oN (Je.ixahp Tryz.underlying97 Ju Z Z g25) (oV (sr1 (fun z0=>(Z3i.c (Z3i.set pc z0 ((Z3i.get pc s18.2.2.2.2.2.2)+V)))) g25 Ju Z Z Z Z Z Z) (TO.nil ?_)))))))))))));refine T.sr (oN mv (oN mv (oN (nl Z) (oN (fa wy Z) (oA (lh (hS false 1 u20 1 s18.2.2.2.2.1.length) jm Z Z Z) (oN mv (oN (Je.mkF (c:=cI) ([s18.2.2.2.2.2.2]:LI) [[I s18.2.2.2.2.2.2]] bh Z Z Z (fun _=>Z) (fun _=>Z) Z) (jL h fun g27 h=>oA (EvA.app1 (g:=false) (l:=s18.2.2.2.2.1) s18.2.2.2.2.2.2 bh (by kernel_rfl) Z Z Z nofun (aI.fz (l:=([s18.2.2.2.2.2.2]:LI)) Z (fun _=>Z)) g27) (oN (nl Z) (oN (fa wy Z) (oV (sr [eL (cL Jh.c) s18.1,eL cI s18.2.1,eL (cL cI) s18.2.2.1,eL (cL cI) s18.2.2.2.1,hS false 1 (u20+1) 1 ((s18.2.2.2.2.1++[s18.2.2.2.2.2.2]).length),.mp 2 4] jm Z Z Z Z) (TO.nil (T.seq (T.seq ?_))))))))))))));refine T.clean (H0:=[some ⟨ver0,6,95,[[eL (cL Jh.c) s18.1,eL cI s18.2.1,eL (cL cI) s18.2.2.1,eL (cL cI) s18.2.2.2.1,hS false 1 (u20+1) 1 ((s18.2.2.2.2.1++[s18.2.2.2.2.2.2]).length),.mp 2 4]]⟩,bE false (u20+1) 1 3 ((s18.2.2.2.2.1++[s18.2.2.2.2.2.2]).map cI),(some (mB 3 1 kI3 cB s18.2.2.2.2.2.1)),some ⟨0,3,97,[(Z3i.c (Z3i.set pc s18.2.2.2.2.2.2 ((Z3i.get pc s18.2.2.2.2.2.2)+V)))]⟩]) (e0:=ae [(8,.hp 3 0 3 0 0),(45,I s18.2.2.2.2.2.2),(44,I (s.p.length:Int)),(3,.fp (Z3i.c pc) 0),(0,.hp 0 ver0 6 0 0)]) Z (Jd Z (Jd Z (Jd Z (Jd Z (Jd Z Jc))))) (T.region (oN mv (oA (lh (.agg (Z3i.c (Z3i.set pc s18.2.2.2.2.2.2 ((Z3i.get pc s18.2.2.2.2.2.2)+V)))) Gw Z Z Z) (jB h fun v28 cv28 h=>?_))));refine oW Z Z Z (bg.outAt (ih (⟨s18.1,(⟨s18.2.1,s18.2.2.1⟩:Ji),s18.2.2.2.1,(s18.2.2.2.2.1++[s18.2.2.2.2.2.2]),s18.2.2.2.2.2.1⟩:ZTr) (Z3i.set pc s18.2.2.2.2.2.2 ((Z3i.get pc s18.2.2.2.2.2.2)+V)) ver0 (u20+1) cv28) [0,1,2] (by decide) (.cons Z (.rowL (.cons (ax 9 _ Z) (.cons (ax 9 _ Z) (.cons (ax 9 _ Z) (.cons (ax 9 _ Z) (.cons (cF Z) (.cons (.mp Z) .nil))))))) (.cons Z (RenK.bE' (fun _=>Z)) (.cons Z (RenK.mB _ (fun _=>Z)) .nil))) (.cons (.hp Z) (.cons (ax 9 _ Z) .nil)) (G:=fun v_=>[some ⟨ver0,6,95,[[eL (cL Jh.c) v28.1.p,eL cI v28.1.x.From,eL (cL cI) v28.1.x.Order,eL (cL cI) v28.1.number,hS false 1 v_ 1 v28.1.schedule.length,.mp 2 4]]⟩,bE false v_ 1 3 (v28.1.schedule.map cI),(some (mB 3 1 kI3 cB v28.1.failed))]) (G':=fun v_=>[some ⟨ver0,6,95,[[eL (cL Jh.c) v28.1.p,eL cI v28.1.x.From,eL (cL cI) v28.1.x.Order,eL (cL cI) v28.1.number,hS false 1 v_ 1 v28.1.schedule.length,.mp 2 4]]⟩,bE false v_ 1 3 (v28.1.schedule.map cI),(some (mB 3 1 kI3 cB v28.1.failed)),some ⟨0,3,97,[(Z3i.c (Z3i.set pc s18.2.2.2.2.2.2 ((Z3i.get pc s18.2.2.2.2.2.2)+V)))]⟩]) 4 Z (fun v_ => .some (.rowL (.cons (ax 9 _ Z) (.cons (ax 9 _ Z) (.cons (ax 9 _ Z) (.cons (ax 9 _ Z) (.cons (cF (.inl Z)) (.cons (.mp (.inl Z)) .nil))))))) (.some (RenK.bE' (fun _=>Z)) (.some (RenK.mB _ (fun _=>Z)) .nil))) (fun _=>Z) (r:=Bo v28.2) (ax 9 _ Z) (fun _=>Z)) (fun u29=>?_);refine TO.nil ?_;refine T.ifH Z h (fun q30 h=>?_) (fun q30 h=>?_)
         ·refine T.sr (oN as' (TO.nil (T.ret ?_)));obtain rfl:=Jg h;replace h:=congrArg some (show _=_ from ks22);refine lX h fun h=>?_;obtain rfl:=Jg h;replace h:=congrArg some (show _=_ from ks14);obtain rfl:=Jg h
          repeat (first|refine kP ?_|refine kQ ?_)
          exact ⟨ae [(4,Bo true)],[some ⟨ver0,6,95,[[eL (cL Jh.c) v28.1.p,eL cI v28.1.x.From,eL (cL cI) v28.1.x.Order,eL (cL cI) v28.1.number,hS false 1 u29 1 v28.1.schedule.length,.mp 2 4]]⟩,bE false u29 1 3 (v28.1.schedule.map cI),(some (mB 3 1 kI3 cB v28.1.failed))],lL Z (.cons (.row (.cons (.fz (.of_isF 9 _ Z)) (.cons (.fz (.of_isF 9 _ Z)) (.cons (.fz (.of_isF 9 _ Z)) (.cons (.fz (.of_isF 9 _ Z)) (.cons (.hS (g:=false) (b:=1) (ver:=u29) (s:=1) (n:=v28.1.schedule.length) Z) (.cons (.mp (nlb Z)) .nil))))))) (.cons (.list (g:=false) (ver:=u29) (l:=v28.1.schedule) (fun _=>Z)) (.cons (.mp (fun _=>Z)) .nil))) (aa (.fz (.of_isF 9 _ Z)) aO),Fin.ret (vs:=[Bo true]) (.cons (.tmp Z) .nil) ⟨u29,Z,Z⟩⟩
         ·refine T.skip (T.drawH (fun i=>[([],false),([],false),([],false),([],false),([0],false),([],false),([],false),([],false),([0],false),([],false),([],false),([1],true),([],false),([],false),([0],true)].getD i ([],false)) (by kernel_rfl) (by kernel_rfl) (fN Z mv (fN Z mv (fN Z (nl Z) (fN Z (fa wy Z) (fR [0] Z (fun G hG=>EvA.loadhp (hS false 1 u29 1 v28.1.schedule.length) jm Z (hG.a0 Z) Z Z Z Z) (fN Z mv (fN Z (nl Z) (fN Z (fa wy Z) (fR [0] Z (fun G hG=>EvA.loadhp (hS false 1 u29 1 v28.1.schedule.length) jm Z (hG.a0 Z) Z Z Z Z) (fN Z (Je.lenO (g:=false) bh Z nofun) (jW h fun g31 h=>fN Z (Je.sub Z Z g31) (jD h fun g32 h=>fW 1 [] Z Z (fun G hG=>EvA.cutO (l:=v28.1.schedule) (zl:=U) (zh:=((v28.1.schedule.length:Int)-V)) (Je.slhs Tryz.underlying35 Ju (l:=U) (h:=((v28.1.schedule.length:Int)-V)) Z .no (.yes Z) g32) (hG.a0 Z) Z g32) ?_)))))))))))));refine fN Z (nl Z) (fN Z (fa wy Z) (fV 0 [] Z Z (fun G hG=>EvA.st (cs:=[hS false 1 (u29+1) 1 (((v28.1.schedule.drop U.toNat).take (((v28.1.schedule.length:Int)-V).toNat-U.toNat)).length)]) ⟨ver0,6,95,[[eL (cL Jh.c) v28.1.p,eL cI v28.1.x.From,eL (cL cI) v28.1.x.Order,eL (cL cI) v28.1.number,hS false 1 (u29+1) 1 (((v28.1.schedule.drop U.toNat).take (((v28.1.schedule.length:Int)-V).toNat-U.toNat)).length),.mp 2 4]]⟩ jm Z Z (hG.a0 Z) Z Z Z Z Z Z) (TF.nil ?_)));obtain rfl:=Jg h;exact ⟨(v28.1.p,v28.1.x.From,v28.1.x.Order,v28.1.number,((v28.1.schedule.drop U.toNat).take (((v28.1.schedule.length:Int)-V).toNat-U.toNat)),v28.1.failed),u29+1,ks22,trivial,lL Z (.cons (.row (.cons (.fz (.of_isF 9 _ Z)) (.cons (.fz (.of_isF 9 _ Z)) (.cons (.fz (.of_isF 9 _ Z)) (.cons (.fz (.of_isF 9 _ Z)) (.cons (.hS (g:=false) (b:=1) (ver:=u29+1) (s:=1) (n:=((v28.1.schedule.drop U.toNat).take (((v28.1.schedule.length:Int)-V).toNat-U.toNat)).length) Z) (.cons (.mp (nlb Z)) .nil))))))) (.cons (.list (g:=false) (ver:=u29+1) (l:=((v28.1.schedule.drop U.toNat).take (((v28.1.schedule.length:Int)-V).toNat-U.toNat))) (fun _=>Z)) (.cons (.mp (fun _=>Z)) .nil))) (aa (.fz (.of_isF 9 _ Z)) (aa (.fz (.of_isF 9 _ Z)) (aa (.fz (.of_isF 9 _ Z)) (aa (.hp (nlb Z)) aO))))⟩
      ·refine T.exit (lX h fun h=>?_);obtain rfl:=Jg h;exact ⟨(s18.1,s18.2.1,s18.2.2.1,s18.2.2.2.1,s18.2.2.2.2.1,s18.2.2.2.2.2.1),u20,ks14,trivial,kw Z Z⟩
   ·refine T.sr (oN mv (oN (nl Z) (oN (fa wy Z) (oA (lh (eL (cL Jh.c) s.p) Fu Z Z Z) (oN (Je.lenL tT Z) (oN mv (TO.nil (T.block ?_))))))));refine T.lU h (fun s5=>[(20,I s5.1),(19,I (s.p.length:Int)),(5,Bo s5.2),(3,.fp (Z3i.c pc) 0),(0,.hp 0 ver0 6 0 0)]) (fun s5=>[some ⟨ver0,6,95,[[eL (cL Jh.c) s.p,eL cI s.x.From,eL (cL cI) s.x.Order,eL (cL cI) s.number,hS false 1 ver1 1 s.schedule.length,.mp 2 4]]⟩,bE false ver1 1 3 (s.schedule.map cI),(some (mB 3 1 kI3 cB s.failed))]) (kw Z Z) (fun s5 ws5 h=>?_);refine T.sr (oN (Je.ilt Z Z) (TO.nil (T.seq ?_)));refine T.ifH Z h (fun q7 h=>?_) (fun q7 h=>?_)
    ·refine T.skip ?_;refine T.jU h (fun s8=>[(5,Bo s8),(20,I s5.1),(19,I (s.p.length:Int)),(3,.fp (Z3i.c pc) 0),(0,.hp 0 ver0 6 0 0)]) (fun s8=>[some ⟨ver0,6,95,[[eL (cL Jh.c) s.p,eL cI s.x.From,eL (cL cI) s.x.Order,eL (cL cI) s.number,hS false 1 ver1 1 s.schedule.length,.mp 2 4]]⟩,bE false ver1 1 3 (s.schedule.map cI),(some (mB 3 1 kI3 cB s.failed))]) (fun s8 h=>?_) (fun s8 h=>?_)
     ·refine T.region (jW h fun g12 h=>oN (Je.add Z Z g12) (oN mv (TO.nil ?_)));exact lE h (kw Z Z)
     ·refine T.block (T.sr (oN mv (oN as' (TO.nil (T.drawG (fun i=>[([],false),([],false),([],false),([],false),([],false),([],false),([],false),([],false),([0],false),([],false),([],false),([],false),([],false),([],false),([],false),([],false)].getD i ([],false)) (by kernel_rfl) (by kernel_rfl) (tN Z mv (tN Z mv ?_)))))));rcases BO h with ⟨q9,h⟩ | ⟨q9,h⟩
      ·refine Jv Z q9 Z mv (jD h fun g10 h=>Jv Z q9 Z (Je.ixafp Tryz.underlying97 Ju Z Z g10) (Jv Z q9 Z (lf1 (fun z0=>I (Z3i.get pc z0)) g10 Ju Z Z Z Z) (Jv Z q9 Z mv (Jv Z q9 Z (nl Z) (Jv Z q9 Z (fa wy Z) (tgR Z q9 [0] Z (fun G hG=>EvA.loadhp (eL (cL Jh.c) s.p) Fu Z (hG.a0 Z) Z Z Z Z) (Jv Z q9 Z mv (jD h fun g11 h=>Jv Z q9 Z (Je.ixL tT Z Z g11 (fun _=>Z)) (Jv Z q9 Z (lf (eL Jh.c (J s.p s5.1)) Bc Z) (Jv Z q9 Z (Je.lenL yZ Z) (Jv Z q9 Z (Je.ieq Z Z) (tN Z (Je.pickT Z q9 (Bo ((Z3i.get pc s5.1)==((J s.p s5.1).length:Int))) Z) (tN Z as' ?_)))))))))))));refine TG.nil ?_
       cases h
       exact ⟨(),trivial,kw Z Z⟩
      ·refine Jw Z q9 (Jw Z q9 (Jw Z q9 (Jw Z q9 (Jw Z q9 (Jw Z q9 (Jw Z q9 (Jw Z q9 (Jw Z q9 (Jw Z q9 (Jw Z q9 (Jw Z q9 (tN Z (Je.pickF Z q9 (Bo false) Z) (tN Z as' (TG.nil ?_))))))))))))))
       cases h
       exact ⟨(),trivial,kw Z Z⟩
    ·refine T.exit (lX h fun h=>?_)
     cases h
     exact ⟨(),trivial,kw Z Z⟩
set_option maxHeartbeats 4000000 in
theorem jc (s:ZTr) (pc:Z3i) (ver0:Nat) (ver1:Nat) {q:ZTr×Bool} (h:dW s pc=some q):bg Tryz.prog 69 [.hp 0 ver0 6 0 0,.agg (Z3i.c pc)] [some ⟨ver0,6,95,[[eL (cL Jh.c) s.p,eL cI s.x.From,eL (cL cI) s.x.Order,eL (cL cI) s.number,hS false 1 ver1 1 s.schedule.length,.mp 2 4]]⟩,bE false ver1 1 3 (s.schedule.map cI),(some (mB 3 1 kI3 cB s.failed))] (G9 (Bo q.2) fun ver=>[some ⟨ver0,6,95,[[eL (cL Jh.c) q.1.p,eL cI q.1.x.From,eL (cL cI) q.1.x.Order,eL (cL cI) q.1.number,hS false 1 ver 1 q.1.schedule.length,.mp 2 4]]⟩,bE false ver 1 3 (q.1.schedule.map cI),(some (mB 3 1 kI3 cB q.1.failed))]):=by
 obtain ⟨nf,h⟩:=rX h;exact mq nf s pc ver0 ver1 h
theorem nO (p:List (List Jh)) (x:Ji) {q:(LI)×Bool} (h:av p x=some q):aJ Tryz.prog 32 [eL (cL Jh.c) p,.agg (Ji.c x)] (.tup [eL cI q.1,Bo q.2]):=by
 refine pM Tryz.func32 Z (by kernel_rfl) Z (T.sr (oN (Je.bxF [eL cI x.From,eL (cL cI) x.Order] Z Z Z) (oN as' (oN as' (TO.nil (T.seq (T.reserve (T.reserve (T.reserve (T.drawF (fun i=>[([],false),([],false),([],false),([],false),([0],true),([1],true),([],false),([2],true),([],false)].getD i ([],false)) (by kernel_rfl) (by kernel_rfl) (fN Z mv (fN Z (lf (.agg (Ji.c x)) tQ Z) (fN Z mv (fC h (fun _=>lI _) Z Z Z Z Z fun v1 _ h=>fW 0 [] Z Z (fun G hG=>EvA.mkOR (c:=cI) 0 ([]:LI) [] bh Z Z Z (fun _=>Z) (fun _=>Z) Z (hG.a0 Z)) ?_))))))))))))));refine fW 1 [] Z Z (fun G hG=>EvA.mmkA (kn:=3) kI3 1 (hG.a0 Z)) (fN Z (Je.build [eL (cL Jh.c) p,eL cI x.From,eL (cL cI) x.Order,eL (cL cI) v1,hS false 0 0 1 (([]:LI).length),.mp 1 4] Tryz.underlying95 IX wy Z Z) (fW 2 [] Z Z (fun G hG=>EvA.bxA (cs:=[eL (cL Jh.c) p,eL cI x.From,eL (cL cI) x.Order,eL (cL cI) v1,hS false 0 0 1 (([]:LI).length),.mp 1 4]) 2 Z Z (hG.a0 Z)) (fN Z as' (TF.nil (T.seq (T.sr (oN mv (oN (Je.buildZ Tryz.underlying97 ID Ju) (jB h fun v2 cv2 h=>?_)))))))));refine oW Z Z Z (bg.outAt (jc (⟨p,(⟨x.From,x.Order⟩:Ji),v1,([]:LI),([]:List ((Int×Int×Int)×Bool))⟩:ZTr) (⟨U,U,U⟩:Z3i) 0 0 cv2) [2,0,1] (by decide) (.cons Z (.rowL (.cons (ax 9 _ Z) (.cons (ax 9 _ Z) (.cons (ax 9 _ Z) (.cons (ax 9 _ Z) (.cons (cF Z) (.cons (.mp Z) .nil))))))) (.cons Z (RenK.bE' (fun _=>Z)) (.cons Z (RenK.mB _ (fun _=>Z)) .nil))) (.cons (.hp Z) (.cons (ax 9 _ Z) .nil)) (G:=fun v_=>[some ⟨0,6,95,[[eL (cL Jh.c) v2.1.p,eL cI v2.1.x.From,eL (cL cI) v2.1.x.Order,eL (cL cI) v2.1.number,hS false 0 v_ 1 v2.1.schedule.length,.mp 1 4]]⟩,bE false v_ 1 3 (v2.1.schedule.map cI),(some (mB 3 1 kI3 cB v2.1.failed))]) (G':=fun v_=>[bE false v_ 1 3 (v2.1.schedule.map cI),(some (mB 3 1 kI3 cB v2.1.failed)),some ⟨0,6,95,[[eL (cL Jh.c) v2.1.p,eL cI v2.1.x.From,eL (cL cI) v2.1.x.Order,eL (cL cI) v2.1.number,hS false 0 v_ 1 v2.1.schedule.length,.mp 1 4]]⟩]) 3 Z (fun v_ => .some (.rowL (.cons (ax 9 _ Z) (.cons (ax 9 _ Z) (.cons (ax 9 _ Z) (.cons (ax 9 _ Z) (.cons (cF (.inl Z)) (.cons (.mp (.inl Z)) .nil))))))) (.some (RenK.bE' (fun _=>Z)) (.some (RenK.mB _ (fun _=>Z)) .nil))) (fun _=>Z) (r:=Bo v2.2) (ax 9 _ Z) (fun _=>Z)) (fun u3=>?_);refine oN (Je.not Z) (TO.nil ?_);refine T.ifH Z h (fun q4 h=>?_) (fun q4 h=>?_)
 ·refine T.seq (T.clean (H0:=[bE false u3 1 3 (v2.1.schedule.map cI),(some (mB 3 1 kI3 cB v2.1.failed)),some ⟨0,6,95,[[eL (cL Jh.c) v2.1.p,eL cI v2.1.x.From,eL (cL cI) v2.1.x.Order,eL (cL cI) v2.1.number,hS false 0 u3 1 v2.1.schedule.length,.mp 1 4]]⟩]) (e0:=ae []) Z Jc (T.region (oN as' (oN as' (TO.nil (T.ret ?_))))));obtain rfl:=Jg h
  repeat (first|refine kP ?_|refine kQ ?_)
  exact Fin.ret (vs:=[.nil,Bo false]) (.cons (.tmp Z) (.cons (.tmp Z) .nil)) (.tupL (.cons .nil0 (.cons (.of_isF 9 _ Z) .nil)))
 ·refine T.skip (T.seq (T.clean (H0:=[bE false u3 1 3 (v2.1.schedule.map cI),(some (mB 3 1 kI3 cB v2.1.failed)),some ⟨0,6,95,[[eL (cL Jh.c) v2.1.p,eL cI v2.1.x.From,eL (cL cI) v2.1.x.Order,eL (cL cI) v2.1.number,hS false 0 u3 1 v2.1.schedule.length,.mp 1 4]]⟩]) (e0:=ae [(6,.hp 2 0 6 0 0)]) Z (Jd Z Jc) (T.region (oN mv (oN (nl Z) (oN (fa wy Z) (oA (lh (hS false 0 u3 1 v2.1.schedule.length) jm Z Z Z) (oN (Je.asg (hS false 0 u3 1 v2.1.schedule.length) Z) (oN as' (TO.nil (T.ret ?_)))))))))));obtain rfl:=Jg h
  repeat (first|refine kP ?_|refine kQ ?_)
  exact Fin.ret (vs:=[hS false 0 u3 1 v2.1.schedule.length,Bo true]) (.cons (.tmp Z) (.cons (.tmp Z) .nil)) (.tupL (.cons (Fz.own (g:=false) (ver:=u3) (l:=v2.1.schedule) Z Z Z nofun (fun _=>Z)) (.cons (.of_isF 9 _ Z) .nil)))
theorem Ab (p:List (List Jh)) {q:(LL)} (h:dL p=some q):aJ Tryz.prog 9 [eL (cL Jh.c) p] (eL (cL cI) q):=by
 refine pM Tryz.func9 Z (by kernel_rfl) Z (T.sr (oN as' (TO.nil (T.seq (T.sr (oN mv (oC h (fun _=>eG _) Z Z Z Z fun v1 _ h=>oN (Je.not Z) (TO.nil ?_))))))));refine T.ifH Z h (fun q2 h=>?_) (fun q2 h=>?_)
 ·refine T.sr (oN as' (TO.nil (T.ret ?_)));obtain rfl:=Jg h
  repeat (first|refine kP ?_|refine kQ ?_)
  exact Fin.ret (vs:=[.nil]) (.cons (.tmp Z) .nil) .nil0
 ·refine T.skip (T.seq (T.reserve (T.region (oN (Je.asg (hS true 0 0 1 (([]:LL).length)) Z) (TO.nil ?_)))));refine T.jF (G:=(Bool×Nat)) h (fun s3 gh=>(gh.1=true->s3=[])) (fun s3 gh=>[(3,hS gh.1 0 gh.2 1 s3.length)]) (fun s3 gh=>[bE gh.1 gh.2 1 35 (s3.map (cL cI))]) (fun s3 gh h n27=>?_) (fun s3 h=>?_)
  ·obtain ⟨b26,u25⟩:=gh;refine T.sr (oN mv (jB h fun v28 cv28 h=>?_));refine oGW Z Z (lw s3 b26 u25 n27 cv28) Z (.cons (cF Z) .nil) (jN (fun _=>Z)) (jN (fun _=>Z)) l4 (fun g29 v30 n31=>?_);refine oN (Je.asg (hS g29 0 v30 1 v28.length) Z) (TO.nil (T.ret ?_));obtain rfl:=Jg h
   repeat (first|refine kP ?_|refine kQ ?_)
   exact Fin.ret (vs:=[hS g29 0 v30 1 v28.length]) (.cons (.tmp Z) .nil) (Fz.own (g:=g29) (ver:=v30) (l:=v28) Z Z Z (fun x=>List.eq_nil_of_length_eq_zero (n31 x)) (fun _=>Z))
  ·refine T.sr (oN mv (oC h (fun _=>kN _) Z Z Z Z fun v4 _ h=>oN (Je.lenL DW Z) (oN mv (TO.nil (T.block ?_)))));refine T.loop (S:=(LL)×Int) (G:=(Bool×Nat)) (eZ p v4) (fun s10 gh=>(gh.1=true->s10.1=[])) (fun s10 gh=>[(14,I s10.2),(13,I (v4.length:Int)),(12,eL Ji.c v4),(3,hS gh.1 0 gh.2 1 s10.1.length),(0,eL (cL Jh.c) p)]) (fun s10 gh=>[bE gh.1 gh.2 1 35 (s10.1.map (cL cI))]) (s0:=(([]:LL),U)) (true,0) h (fun _=>Z) (kw Z Z) (fun s10 gh ws10 h n14=>?_);obtain ⟨b13,u12⟩:=gh;refine T.sr (oN (Je.ilt Z Z) (TO.nil (T.seq ?_)));refine T.ifH Z h (fun q15 h=>?_) (fun q15 h=>?_)
   ·refine T.skip ?_;refine T.jF (G:=(Bool×Nat)) h (fun s16 gh=>(gh.1=true->s16=[])) (fun s16 gh=>[(3,hS gh.1 0 gh.2 1 s16.length),(14,I s10.2),(13,I (v4.length:Int)),(12,eL Ji.c v4),(0,eL (cL Jh.c) p)]) (fun s16 gh=>[bE gh.1 gh.2 1 35 (s16.map (cL cI))]) (fun s16 gh h n23=>?_) (fun s16 h=>?_)
    ·obtain ⟨b22,u21⟩:=gh;refine T.region (jW h fun g24 h=>oN (Je.add Z Z g24) (oN mv (TO.nil ?_)));obtain rfl:=Jg h;exact ⟨(s16,(s10.2+V)),(b22,u21),Z,n23,kw Z Z⟩
    ·refine T.block (T.sr (jD h fun g17 h=>oN (Je.ixL DW Z Z g17 (fun _=>Z)) (oN (lf (.agg (Ji.c (J v4 s10.2))) tQ Z) (oA (EvA.al DU Z Z) (oV (sr (Ji.c (J v4 s10.2)) tQ Z Z Z Z) (TO.nil (T.sr (oN mv (oA (lh (.agg (Ji.c (J v4 s10.2))) tQ Z Z Z) (oC h (fun _=>nO _ _) Z Z Z Z fun v18 _ h=>oN mv (oN (Je.ext (eL cI v18.1) Z Z) (oN (Je.ext (Bo v18.2) Z Z) (oN as' ?_)))))))))))));refine oN as' (TO.nil (T.sr (oN mv (TO.nil ?_))));refine T.ifH Z h (fun q19 h=>?_) (fun q19 h=>?_)
     ·refine T.region (oN mv (oN mv (oN (Je.mkF (c:=(cL cI)) ([v18.1]:LL) [[eL cI v18.1]] bR Z Z Z (fun _=>Z) (fun _=>Z) Z) (jL h fun g20 h=>oA (EvA.app1 (g:=b13) (l:=s10.1) v18.1 bR (by kernel_rfl) Z Z Z n14 (aI.fz (l:=([v18.1]:LL)) Z (fun _=>Z)) g20) (oN (Je.asg (hS false 0 (u12+1) 1 ((s10.1++[v18.1]).length)) Z) (TO.nil ?_))))));obtain rfl:=Jg h;exact ⟨(false,u12+1),nofun,lL Z (.cons (.list (g:=false) (ver:=u12+1) (l:=(s10.1++[v18.1])) (fun _=>Z)) .nil) (aa (.hS (g:=false) (b:=0) (ver:=u12+1) (s:=1) (n:=(s10.1++[v18.1]).length) Z) (aa (.fz (.of_isF 9 _ Z)) (aa (.fz (.of_isF 9 _ Z)) (aa (.fz (.of_isF 9 _ Z)) (aa (.fz (.of_isF 9 _ Z)) aO)))))⟩
     ·refine T.skip ?_;obtain rfl:=Jg h;exact ⟨(b13,u12),n14,lL Z (.cons (.list (g:=b13) (ver:=u12) (l:=s10.1) (fun _=>Z)) .nil) (aa (.hS (g:=b13) (b:=0) (ver:=u12) (s:=1) (n:=s10.1.length) Z) (aa (.fz (.of_isF 9 _ Z)) (aa (.fz (.of_isF 9 _ Z)) (aa (.fz (.of_isF 9 _ Z)) (aa (.fz (.of_isF 9 _ Z)) aO)))))⟩
   ·refine T.exit (lX h fun h=>?_)
    cases h
    exact ⟨(b13,u12),n14,kw Z Z⟩
theorem qP (x:Jh) {q:Bool} (h:fq x=some q):aJ Tryz.prog 92 [.agg (Jh.c x)] (Bo q):=by
 refine pM Tryz.func92 Z (by kernel_rfl) Z (T.sr (oN (Je.bxF [I x.Op,I x.Loc,I x.Reg,I x.Val] Z Z Z) (oN as' (TO.nil (T.sr (oN (fa uX Z) (oN (lf (I x.Op) Ju Z) (oN (Je.ieq Z Z) (oN mv ?_)))))))));refine TO.jB h 4 (fun s1=>[(10,Bo s1)]) (fun s1=>[]) (fun s1 q2 h js1=>?_) (fun s1 q2 h js1=>?_) (fun s1 h=>?_)
 ·refine gS Z q2 (gS Z q2 (gS Z q2 (oN (Je.pickT Z q2 (Bo true) Z) ?_)))
  cases h
  exact js1 _ _ (kw Z Z)
 ·refine gN Z q2 (fa uX Z) (gN Z q2 (lf (I x.Op) Ju Z) (gN Z q2 (Je.ieq Z Z) (oN (Je.pickF Z q2 (Bo (x.Op==(5:Int))) Z) ?_)))
  cases h
  exact js1 _ _ (kw Z Z)
 ·refine oN as' (TO.nil (T.ret ?_))
  cases h
  exact fB Z Z Z
theorem qh (x:Jh) {q:Bool} (h:ez x=some q):aJ Tryz.prog 93 [.agg (Jh.c x)] (Bo q):=by
 refine pM Tryz.func93 Z (by kernel_rfl) Z (T.sr (oN (Je.bxF [I x.Op,I x.Loc,I x.Reg,I x.Val] Z Z Z) (oN as' (TO.nil (T.sr (oN (fa uX Z) (oN (lf (I x.Op) Ju Z) (oN (Je.ieq Z Z) (oN mv ?_)))))))));refine TO.jB h 4 (fun s1=>[(10,Bo s1),(1,.fp (Jh.c x) 0)]) (fun s1=>[]) (fun s1 q2 h js1=>?_) (fun s1 q2 h js1=>?_) (fun s1 h=>?_)
 ·refine gS Z q2 (gS Z q2 (gS Z q2 (oN (Je.pickT Z q2 (Bo true) Z) ?_)))
  cases h
  exact js1 _ _ (kw Z Z)
 ·refine gN Z q2 (fa uX Z) (gN Z q2 (lf (I x.Op) Ju Z) (gN Z q2 (Je.ieq Z Z) (oN (Je.pickF Z q2 (Bo (x.Op==(3:Int))) Z) ?_)))
  cases h
  exact js1 _ _ (kw Z Z)
 ·refine oN mv ?_;refine TO.jB h 4 (fun s3=>[(15,Bo s3)]) (fun s3=>[]) (fun s3 q4 h js3=>?_) (fun s3 q4 h js3=>?_) (fun s3 h=>?_)
  ·refine gS Z q4 (gS Z q4 (gS Z q4 (oN (Je.pickT Z q4 (Bo true) Z) ?_)))
   cases h
   exact js3 _ _ (kw Z Z)
  ·refine gN Z q4 (fa uX Z) (gN Z q4 (lf (I x.Op) Ju Z) (gN Z q4 (Je.ieq Z Z) (oN (Je.pickF Z q4 (Bo (x.Op==(5:Int))) Z) ?_)))
   cases h
   exact js3 _ _ (kw Z Z)
  ·refine oN as' (TO.nil (T.ret ?_))
   cases h
   exact fB Z Z Z
set_option maxHeartbeats 4000000 in
theorem iA (p:List (List Jh)) {q:(List Jj)} (h:di p=some q):aJ Tryz.prog 52 [eL (cL Jh.c) p] (eL Jj.c q):=by
 refine pM Tryz.func52 Z (by kernel_rfl) Z (T.sr (oN as' (TO.nil (T.sr (oA (EvA.mkO (c:=Jj.c) ([]:List Jj) [] pg Z Z Z (fun _=>Z) Z Z) (oN (Je.asg (hS false 0 0 5 (([]:List Jj).length)) Z) (TO.nil ?_)))))));refine T.jF (G:=Nat) h (fun s1 gh=>True) (fun s1 gh=>[(3,hS false 0 gh 5 s1.length),(0,eL (cL Jh.c) p)]) (fun s1 gh=>[bE false gh 5 84 (s1.map Jj.c)]) (fun s1 u11 h hg=>?_) (fun s1 h=>?_)
 ·refine T.jF (G:=Nat) h (fun s12 gh=>True) (fun s12 gh=>[(3,hS false 0 gh 5 s12.length)]) (fun s12 gh=>[bE false gh 5 84 (s12.map Jj.c)]) (fun s12 u39 h hg=>?_) (fun s12 h=>?_)
  ·refine T.sr (oN mv (oN (Je.asg (hS false 0 u39 5 s12.length) Z) (TO.nil (T.ret ?_))));obtain rfl:=Jg h
   repeat (first|refine kP ?_|refine kQ ?_)
   exact Fin.ret (vs:=[hS false 0 u39 5 s12.length]) (.cons (.tmp Z) .nil) (Fz.own (g:=false) (ver:=u39) (l:=s12) Z Z Z nofun Jj.isF)
  ·refine T.sr (oN as' (TO.nil (T.block ?_)));refine T.loop (S:=(List Jj)×Int) (G:=Nat) (fM p) (fun s16 gh=>True) (fun s16 gh=>[(5,I s16.2),(3,hS false 0 gh 5 s16.1.length),(0,eL (cL Jh.c) p)]) (fun s16 gh=>[bE false gh 5 84 (s16.1.map Jj.c)]) (s0:=(s1,U)) u11 h trivial (kw Z Z) (fun s16 u18 ws16 h hg=>?_);refine T.seq (T.sr (oN mv (oN mv (oN (Je.lenL tT Z) (oN (Je.ilt Z Z) (TO.nil ?_))))));refine T.ifH Z h (fun q19 h=>?_) (fun q19 h=>?_)
   ·refine T.skip ?_;refine T.jF (G:=Nat) h (fun s20 gh=>True) (fun s20 gh=>[(5,I s16.2),(3,hS false 0 gh 5 s20.length),(0,eL (cL Jh.c) p)]) (fun s20 gh=>[bE false gh 5 84 (s20.map Jj.c)]) (fun s20 u37 h hg=>?_) (fun s20 h=>?_)
    ·refine T.region (oN mv (jW h fun g38 h=>oN (Je.add Z Z g38) (oN as' (TO.nil ?_))));obtain rfl:=Jg h;exact ⟨(s20,(s16.2+V)),u37,Z,trivial,kw Z Z⟩
    ·refine T.block (T.sr (oN as' (TO.nil (T.block ?_))));refine T.loop (S:=(List Jj)×Int) (G:=Nat) (fL p s16) (fun s24 gh=>True) (fun s24 gh=>[(6,I s24.2),(5,I s16.2),(3,hS false 0 gh 5 s24.1.length),(0,eL (cL Jh.c) p)]) (fun s24 gh=>[bE false gh 5 84 (s24.1.map Jj.c)]) (s0:=(s16.1,U)) u18 h trivial (kw Z Z) (fun s24 u26 ws24 h hg=>?_);refine T.seq (T.sr (oN mv (oN mv (oN mv (jD h fun g27 h=>oN (Je.ixL tT Z Z g27 (fun _=>Z)) (oN (lf (eL Jh.c (J p s16.2)) Bc Z) (oN (Je.lenL yZ Z) (oN (Je.ilt Z Z) (TO.nil ?_)))))))));refine T.ifH Z h (fun q28 h=>?_) (fun q28 h=>?_)
     ·refine T.skip ?_;refine T.jF (G:=Nat) h (fun s29 gh=>True) (fun s29 gh=>[(3,hS false 0 gh 5 s29.length),(6,I s24.2),(5,I s16.2),(0,eL (cL Jh.c) p)]) (fun s29 gh=>[bE false gh 5 84 (s29.map Jj.c)]) (fun s29 u35 h hg=>?_) (fun s29 h=>?_)
      ·refine T.region (oN mv (jW h fun g36 h=>oN (Je.add Z Z g36) (oN as' (TO.nil ?_))));obtain rfl:=Jg h;exact ⟨(s29,(s24.2+V)),u35,Z,trivial,kw Z Z⟩
      ·refine T.block (T.sr (oN mv (oN mv (oN (Je.ixL tT Z Z g27 (fun _=>Z)) (oN (lf (eL Jh.c (J p s16.2)) Bc Z) (oN mv (jD h fun g30 h=>oN (Je.ixL yZ Z Z g30 (fun _=>Z)) (oN (lf (.agg (Jh.c (J (J p s16.2) s24.2))) ww Z) (oA (EvA.al GL Z Z) (oV (sr (Jh.c (J (J p s16.2) s24.2)) ww Z Z Z Z) (TO.nil (T.sr (oN (fa uX Z) (oA (lh (I ((J (J p s16.2) s24.2).Op)) Ju Z Z Z) ?_))))))))))))));refine oN (Je.ine Z Z) (TO.nil ?_);refine T.ifH Z h (fun q31 h=>?_) (fun q31 h=>?_)
       ·refine T.clean (H0:=[bE false u26 5 84 (s24.1.map Jj.c),some ⟨0,4,70,[(Jh.c (J (J p s16.2) s24.2))]⟩]) (e0:=ae [(7,.hp 1 0 4 0 0),(6,I s24.2),(5,I s16.2),(3,hS false 0 u26 5 s24.1.length),(0,eL (cL Jh.c) p)]) Z (Jd Z (Jd Z (Jd Z (Jd Z (Jd Z Jc))))) (T.drawF (fun i=>[([],false),([],false),([],false),([],false),([1],false),([1],false),([],false),([1],false),([],false),([],false),([],false),([0],true),([],false)].getD i ([],false)) (by kernel_rfl) (by kernel_rfl) (fN Z mv (fN Z mv (fN Z mv (fN Z (fa uX Z) (fR [1] Z (fun G hG=>EvA.loadhp (I ((J (J p s16.2) s24.2).Loc)) Ju Z (hG.a0 Z) Z Z Z Z) (fR [1] Z (fun G hG=>EvA.loadhp (.agg (Jh.c (J (J p s16.2) s24.2))) ww Z (hG.a0 Z) Z Z Z Z) (fC h (fun _=>qP _) Z Z Z Z Z fun v32 _ h=>fR [1] Z (fun G hG=>EvA.loadhp (.agg (Jh.c (J (J p s16.2) s24.2))) ww Z (hG.a0 Z) Z Z Z Z) (fC h (fun _=>qh _) Z Z Z Z Z fun v33 _ h=>fN Z (Je.build [I s16.2,I s24.2,I ((J (J p s16.2) s24.2).Loc),Bo v32,Bo v33] Tryz.underlying84 DV jI Z Z) (fN Z (Je.mkF (c:=Jj.c) ([(⟨s16.2,s24.2,(J (J p s16.2) s24.2).Loc,v32,v33⟩:Jj)]:List Jj) [[I s16.2,I s24.2,I ((J (J p s16.2) s24.2).Loc),Bo v32,Bo v33]] pg Z Z Z (fun _=>Z) Jj.isF Z) (jL h fun g34 h=>fW 0 [] Z Z (fun G hG=>EvA.app1 (g:=false) (l:=s24.1) (⟨s16.2,s24.2,(J (J p s16.2) s24.2).Loc,v32,v33⟩:Jj) pg (by kernel_rfl) Z Z (hG.a0 Z) nofun (aI.fz (l:=([(⟨s16.2,s24.2,(J (J p s16.2) s24.2).Loc,v32,v33⟩:Jj)]:List Jj)) Z (fun _=>Z)) g34) (fN Z (Je.asg (hS false 0 (u26+1) 5 ((s24.1++[(⟨s16.2,s24.2,(J (J p s16.2) s24.2).Loc,v32,v33⟩:Jj)]).length)) Z) ?_))))))))))));refine TF.nil ?_;obtain rfl:=Jg h;exact ⟨u26+1,trivial,lL Z (.cons (.list (g:=false) (ver:=u26+1) (l:=(s24.1++[(⟨s16.2,s24.2,(J (J p s16.2) s24.2).Loc,v32,v33⟩:Jj)])) Jj.isF) .nil) (aa (.hS (g:=false) (b:=0) (ver:=u26+1) (s:=5) (n:=(s24.1++[(⟨s16.2,s24.2,(J (J p s16.2) s24.2).Loc,v32,v33⟩:Jj)]).length) Z) (aa (.fz (.of_isF 9 _ Z)) (aa (.fz (.of_isF 9 _ Z)) (aa (.fz (.of_isF 9 _ Z)) aO))))⟩
       ·refine T.skip ?_;obtain rfl:=Jg h;exact ⟨u26,trivial,lL Z (.cons (.list (g:=false) (ver:=u26) (l:=s24.1) Jj.isF) .nil) (aa (.hS (g:=false) (b:=0) (ver:=u26) (s:=5) (n:=s24.1.length) Z) (aa (.fz (.of_isF 9 _ Z)) (aa (.fz (.of_isF 9 _ Z)) (aa (.fz (.of_isF 9 _ Z)) aO))))⟩
     ·refine T.exit (lX h fun h=>?_)
      cases h
      exact ⟨u26,trivial,kw Z Z⟩
   ·refine T.exit (lX h fun h=>?_)
    cases h
    exact ⟨u18,trivial,kw Z Z⟩
 ·refine T.sr (oN as' (TO.nil (T.block ?_)));refine T.loop (S:=(List Jj)×Int) (G:=Nat) gH (fun s5 gh=>True) (fun s5 gh=>[(4,I s5.2),(3,hS false 0 gh 5 s5.1.length),(0,eL (cL Jh.c) p)]) (fun s5 gh=>[bE false gh 5 84 (s5.1.map Jj.c)]) (s0:=(([]:List Jj),U)) 0 h trivial (kw Z Z) (fun s5 u7 ws5 h hg=>?_);let d0:=(⟨(-1:Int),s5.2,s5.2,false,true⟩:Jj);refine T.seq (T.sr (oN mv (oN (Je.ile Z Z) (TO.nil ?_))));refine T.ifH Z h (fun q8 h=>?_) (fun q8 h=>?_)
  ·refine T.skip (T.seq (T.block (T.region (oN mv (oN mv (oN mv (oN (Je.build [I (-1:Int),I s5.2,I s5.2,Bo false,Bo true] Tryz.underlying84 DV jI Z Z) (oN (Je.mkF (c:=Jj.c) ([d0]:List Jj) [[I (-1:Int),I s5.2,I s5.2,Bo false,Bo true]] pg Z Z Z (fun _=>Z) Jj.isF Z) (jL h fun g9 h=>oA (EvA.app1 (g:=false) (l:=s5.1) d0 pg (by kernel_rfl) Z Z Z nofun (aI.fz (l:=([d0]:List Jj)) Z (fun _=>Z)) g9) (oN (Je.asg (hS false 0 (u7+1) 5 ((s5.1++[d0]).length)) Z) (TO.nil (T.region (oN mv (jW h fun g10 h=>?_))))))))))))));refine oN (Je.add Z Z g10) (oN as' (TO.nil ?_));obtain rfl:=Jg h;exact ⟨((s5.1++[d0]),(s5.2+V)),u7+1,Z,trivial,kw Z Z⟩
  ·refine T.exit (lX h fun h=>?_)
   cases h
   exact ⟨u7,trivial,kw Z Z⟩
theorem kg (events:List Jj) (loc:Int) {q:(LI)} (h:bW events loc=some q):aJ Tryz.prog 113 [eL Jj.c events,I loc] (eL cI q):=by
 refine pM Tryz.func113 Z (by kernel_rfl) Z (T.sr (oN as' (TO.nil (T.sr (oA (EvA.mkO (c:=cI) ([]:LI) [] bh Z Z Z (fun _=>Z) Z Z) (oN (Je.asg (hS false 0 0 1 (([]:LI).length)) Z) (TO.nil ?_)))))));refine T.jF (G:=Nat) h (fun s1 gh=>True) (fun s1 gh=>[(5,hS false 0 gh 1 s1.length)]) (fun s1 gh=>[bE false gh 1 3 (s1.map cI)]) (fun s1 u17 h hg=>?_) (fun s1 h=>?_)
 ·refine T.sr (oN mv (oN (Je.asg (hS false 0 u17 1 s1.length) Z) (TO.nil (T.ret ?_))));obtain rfl:=Jg h
  repeat (first|refine kP ?_|refine kQ ?_)
  exact Fin.ret (vs:=[hS false 0 u17 1 s1.length]) (.cons (.tmp Z) .nil) (Fz.own (g:=false) (ver:=u17) (l:=s1) Z Z Z nofun (fun _=>Z))
 ·refine T.sr (oN as' (TO.nil (T.block ?_)));refine T.loop (S:=(LI)×Int) (G:=Nat) (fO events loc) (fun s5 gh=>True) (fun s5 gh=>[(6,I s5.2),(5,hS false 0 gh 1 s5.1.length),(0,eL Jj.c events),(1,I loc)]) (fun s5 gh=>[bE false gh 1 3 (s5.1.map cI)]) (s0:=(([]:LI),U)) 0 h trivial (kw Z Z) (fun s5 u7 ws5 h hg=>?_);refine T.seq (T.sr (oN mv (oN mv (oN (Je.lenL pg Z) (oN (Je.ilt Z Z) (TO.nil ?_))))));refine T.ifH Z h (fun q8 h=>?_) (fun q8 h=>?_)
  ·refine T.skip ?_;refine T.jF (G:=Nat) h (fun s9 gh=>True) (fun s9 gh=>[(5,hS false 0 gh 1 s9.length),(6,I s5.2),(0,eL Jj.c events),(1,I loc)]) (fun s9 gh=>[bE false gh 1 3 (s9.map cI)]) (fun s9 u15 h hg=>?_) (fun s9 h=>?_)
   ·refine T.region (oN mv (jW h fun g16 h=>oN (Je.add Z Z g16) (oN as' (TO.nil ?_))));obtain rfl:=Jg h;exact ⟨(s9,(s5.2+V)),u15,Z,trivial,kw Z Z⟩
   ·refine T.block (T.sr (oN mv (oN mv (jD h fun g10 h=>oN (Je.ixL pg Z Z g10 (fun _=>Z)) (oN (fa jI Z) (oN (lf (Bo ((J events s5.2).Writes)) ty4 Z) (oN mv ?_)))))));refine TO.jB h 8 (fun s11=>[(27,Bo s11),(6,I s5.2),(5,hS false 0 u7 1 s5.1.length),(0,eL Jj.c events),(1,I loc)]) (fun s11=>[bE false u7 1 3 (s5.1.map cI)]) (fun s11 q12 h js11=>?_) (fun s11 q12 h js11=>?_) (fun s11 h=>?_)
    ·refine gN Z q12 mv (gN Z q12 mv (gN Z q12 (Je.ixL pg Z Z g10 (fun _=>Z)) (gN Z q12 (fa jI Z) (gN Z q12 (lf (I ((J events s5.2).Loc)) Ju Z) (gN Z q12 mv (gN Z q12 (Je.ieq Z Z) (oN (Je.pickT Z q12 (Bo (((J events s5.2).Loc)==loc)) Z) ?_)))))))
     cases h
     exact js11 _ _ (kw Z Z)
    ·refine gS Z q12 (gS Z q12 (gS Z q12 (gS Z q12 (gS Z q12 (gS Z q12 (gS Z q12 (oN (Je.pickF Z q12 (Bo false) Z) ?_)))))))
     cases h
     exact js11 _ _ (kw Z Z)
    ·refine TO.nil ?_;refine T.ifH Z h (fun q13 h=>?_) (fun q13 h=>?_)
     ·refine T.region (oN mv (oN mv (oN (Je.mkF (c:=cI) ([s5.2]:LI) [[I s5.2]] bh Z Z Z (fun _=>Z) (fun _=>Z) Z) (jL h fun g14 h=>oA (EvA.app1 (g:=false) (l:=s5.1) s5.2 bh (by kernel_rfl) Z Z Z nofun (aI.fz (l:=([s5.2]:LI)) Z (fun _=>Z)) g14) (oN (Je.asg (hS false 0 (u7+1) 1 ((s5.1++[s5.2]).length)) Z) (TO.nil ?_))))))
      cases h
      exact ⟨u7+1,trivial,kw Z Z⟩
     ·refine T.skip ?_
      cases h
      exact ⟨u7,trivial,kw Z Z⟩
  ·refine T.exit (lX h fun h=>?_)
   cases h
   exact ⟨u7,trivial,kw Z Z⟩
set_option maxHeartbeats 4000000 in
theorem qi:∀ (nf:Nat) (events:List Jj) (i:Int) {q:(LL)} (h:dM nf events i=some q),aJ Tryz.prog 89 [eL Jj.c events,I i] (eL (cL cI) q):=by
 intro nf
 induction nf with
 | zero=>intros;rename_i h;cases h
 | succ nf ih=>
  intro events i q h;replace h:bX (dM nf) events i=some q:=h;refine pM Tryz.func89 Z (by kernel_rfl) Z (T.sr (oN as' (TO.nil (T.seq (T.sr (oN mv (oN mv (oN (Je.lenL pg Z) (oN (Je.ieq Z Z) (TO.nil ?_))))))))));refine T.ifH Z h (fun q1 h=>?_) (fun q1 h=>?_)
  ·refine T.sr (oN (Je.mkF (c:=cI) ([]:LI) [] bh Z Z Z (fun _=>Z) (fun _=>Z) Z) (oN (Je.mkF (c:=(cL cI)) ([([]:LI)]:LL) [[eL cI ([]:LI)]] bR Z Z Z (fun _=>Z) (fun _=>Z) Z) (oN as' (TO.nil (T.ret ?_)))))
   cases h
   exact fB Z Z Z
  ·refine T.skip (T.sr (oN mv (oN mv (jW h fun g2 h=>oN (Je.add Z Z g2) (oC h (fun _=>ih _ _) Z Z Z Z fun v3 _ h=>oN as' (TO.nil (T.sr (oN (Je.mkF (c:=cI) ([(-1:Int)]:LI) [[I (-1:Int)]] bh Z Z Z (fun _=>Z) (fun _=>Z) Z) (oN as' (TO.nil ?_))))))))));refine T.jU h (fun s4=>[(6,eL cI s4),(5,eL (cL cI) v3),(1,I i)]) (fun s4=>[]) (fun s4 h=>?_) (fun s4 h=>?_)
   ·refine T.sr (oA (EvA.mkO (c:=(cL cI)) ([]:LL) [] bR Z Z Z (fun _=>Z) Z Z) (oN (Je.asg (hS false 0 0 1 (([]:LL).length)) Z) (TO.nil ?_)));refine T.jF (G:=Nat) h (fun s8 gh=>True) (fun s8 gh=>[(7,hS false 0 gh 1 s8.length)]) (fun s8 gh=>[bE false gh 1 35 (s8.map (cL cI))]) (fun s8 u34 h hg=>?_) (fun s8 h=>?_)
    ·refine T.sr (oN mv (oN (Je.asg (hS false 0 u34 1 s8.length) Z) (TO.nil (T.ret ?_))));obtain rfl:=Jg h
     repeat (first|refine kP ?_|refine kQ ?_)
     exact Fin.ret (vs:=[hS false 0 u34 1 s8.length]) (.cons (.tmp Z) .nil) (Fz.own (g:=false) (ver:=u34) (l:=s8) Z Z Z nofun (fun _=>Z))
    ·refine T.sr (oN as' (TO.nil (T.block ?_)));refine T.loop (S:=(LL)×Int) (G:=Nat) (cn i v3 s4) (fun s12 gh=>True) (fun s12 gh=>[(8,I s12.2),(7,hS false 0 gh 1 s12.1.length),(6,eL cI s4),(5,eL (cL cI) v3),(1,I i)]) (fun s12 gh=>[bE false gh 1 35 (s12.1.map (cL cI))]) (s0:=(([]:LL),U)) 0 h trivial (kw Z Z) (fun s12 u14 ws12 h hg=>?_);let d0:=s4.getD s12.2.toNat default;refine T.seq (T.sr (oN mv (oN mv (oN (Je.lenL bh Z) (oN (Je.ilt Z Z) (TO.nil ?_))))));refine T.ifH Z h (fun q15 h=>?_) (fun q15 h=>?_)
     ·refine T.skip ?_;refine T.jF (G:=Nat) h (fun s16 gh=>True) (fun s16 gh=>[(8,I s12.2),(7,hS false 0 gh 1 s16.length),(6,eL cI s4),(5,eL (cL cI) v3),(1,I i)]) (fun s16 gh=>[bE false gh 1 35 (s16.map (cL cI))]) (fun s16 u32 h hg=>?_) (fun s16 h=>?_)
      ·refine T.region (oN mv (jW h fun g33 h=>oN (Je.add Z Z g33) (oN as' (TO.nil ?_))));obtain rfl:=Jg h;exact ⟨(s16,(s12.2+V)),u32,Z,trivial,kw Z Z⟩
      ·refine T.block (T.sr (oN as' (TO.nil (T.block ?_))));refine T.loop (S:=(LL)×Int) (G:=Nat) (cm i v3 s4 s12) (fun s20 gh=>True) (fun s20 gh=>[(9,I s20.2),(8,I s12.2),(7,hS false 0 gh 1 s20.1.length),(6,eL cI s4),(5,eL (cL cI) v3),(1,I i)]) (fun s20 gh=>[bE false gh 1 35 (s20.1.map (cL cI))]) (s0:=(s12.1,U)) u14 h trivial (kw Z Z) (fun s20 u22 ws20 h hg=>?_);refine T.seq (T.sr (oN mv (oN mv (oN (Je.lenL bR Z) (oN (Je.ilt Z Z) (oN mv ?_))))));refine TO.jB h 7 (fun s23=>[(51,Bo s23),(9,I s20.2),(8,I s12.2),(7,hS false 0 u22 1 s20.1.length),(6,eL cI s4),(5,eL (cL cI) v3),(1,I i)]) (fun s23=>[bE false u22 1 35 (s20.1.map (cL cI))]) (fun s23 q24 h js23=>?_) (fun s23 q24 h js23=>?_) (fun s23 h=>?_)
       ·refine gN Z q24 mv (gN Z q24 mv (jD h fun g25 h=>gN Z q24 (Je.ixL bh Z Z g25 (fun _=>Z)) (gN Z q24 (lf (I d0) Ju Z) (gN Z q24 mv (gN Z q24 (Je.ine Z Z) (oN (Je.pickT Z q24 (Bo (d0 != i)) Z) ?_))))))
        cases h
        exact js23 _ _ (kw Z Z)
       ·refine gS Z q24 (gS Z q24 (gS Z q24 (gS Z q24 (gS Z q24 (gS Z q24 (oN (Je.pickF Z q24 (Bo false) Z) ?_))))))
        cases h
        exact js23 _ _ (kw Z Z)
       ·refine TO.nil ?_;refine T.ifH Z h (fun q26 h=>?_) (fun q26 h=>?_)
        ·refine T.skip (T.seq (T.block (T.drawX [0,1,2,3,4,6,7,8,9,5,10,11,12,13] (fun i=>([(false,[]),(false,[]),(false,[]),(false,[]),(false,[]),(true,[]),(false,[]),(false,[]),(false,[]),(false,[]),(true,[1]),(true,[]),(true,[0]),(false,[])]:List Xc).getD i (false,[])) (by kernel_rfl) (by kernel_rfl) (by kernel_rfl) (xN Z Z mv (xN Z Z mv (xN Z Z mv (jD h fun g27 h=>xN Z Z (Je.ixL bh Z Z g27 (fun _=>Z)) (xN Z Z (lf (I d0) Ju Z) (xN Z Z mv (xN Z Z mv (jD h fun g28 h=>xN Z Z (Je.ixL bR Z Z g28 (fun _=>Z)) (xN Z Z (lf (eL cI (J v3 s20.2)) jm Z) (xA Z Z (EvA.mkO (c:=cI) ([d0]:LI) [[I d0]] bh Z Z Z (fun _=>Z) Z Z) mO ?_)))))))))))));refine jL h fun g29 h=>xA Z Z (EvA.appF (l:=([d0]:LI)) (J v3 s20.2) bh (by kernel_rfl) Z Z Z (aI.fz (l:=(J v3 s20.2)) Z (fun _=>Z)) g29) lu (xA Z Z (EvA.mkR [[hS false 1 (0+1) 1 ((([d0]:LI)++(J v3 s20.2)).length)]] bR Z Z Z Z) mO (jL h fun g30 h=>xA Z Z (EvA.appR (g:=false) (rows:=s20.1.map (cL cI)) (rows':=s20.1.map (cL cI)++[[hS false 1 (0+1) 1 ((([d0]:LI)++(J v3 s20.2)).length)]]) (n':=s20.1.length+1) bR (by kernel_rfl) Z Z (by simp) nofun (aI.raw (rows:=[[hS false 1 (0+1) 1 ((([d0]:LI)++(J v3 s20.2)).length)]]) Z Z Z) g30 Z Z) lu (xN Z Z (Je.asg (hS false 0 (u22+1) 1 (s20.1.length+1)) Z) (TX.nil (T.cut (e0:=ae [(7,hS false 0 (u22+1) 1 ((s20.1++[(([d0]:LI)++(J v3 s20.2))]).length)),(9,I s20.2),(8,I s12.2),(6,eL cI s4),(5,eL (cL cI) v3),(1,I i)]) (H0:=[bE false (u22+1) 1 35 ((s20.1++[(([d0]:LI)++(J v3 s20.2))]).map (cL cI))]) (lL Z (.cons (.snoc (fun _=>Z) (.cons (.cons (.fz (Fz.own (g:=false) (ver:=0+1) (l:=(([d0]:LI)++(J v3 s20.2))) Z Z Z nofun (fun _=>Z))) .nil) .nil)) .nil) (aa (.eqv (congrArg (hS false 0 (u22+1) 1) (by simp:(s20.1.length+1)=(s20.1++[(([d0]:LI)++(J v3 s20.2))]).length)) (.hS (g:=false) (b:=0) (ver:=u22+1) (s:=1) (n:=(s20.1++[(([d0]:LI)++(J v3 s20.2))]).length) Z)) (aa (.fz (.of_isF 9 _ Z)) (aa (.fz (.of_isF 9 _ Z)) (aa (.fz (.of_isF 9 _ Z)) (aa (.fz (.of_isF 9 _ Z)) (aa (.fz (.of_isF 9 _ Z)) aO))))))) (T.region (oN mv (jW h fun g31 h=>oN (Je.add Z Z g31) (oN as' (TO.nil ?_))))))))));obtain rfl:=Jg h;exact ⟨((s20.1++[(([d0]:LI)++(J v3 s20.2))]),(s20.2+V)),u22+1,Z,trivial,kw Z Z⟩
        ·refine T.exit (lX h fun h=>?_)
         cases h
         exact ⟨u22,trivial,kw Z Z⟩
     ·refine T.exit (lX h fun h=>?_)
      cases h
      exact ⟨u14,trivial,kw Z Z⟩
   ·refine T.sr (oN mv (oN mv (jD h fun g5 h=>oN (Je.ixL pg Z Z g5 (fun _=>Z)) (oN (fa jI Z) (oN (lf (Bo ((J events i).Reads)) ty4 Z) (TO.nil ?_))))));refine T.ifH Z h (fun q6 h=>?_) (fun q6 h=>?_)
    ·refine T.clean (H0:=[]) (e0:=ae [(5,eL (cL cI) v3),(0,eL Jj.c events),(1,I i)]) Z (Jd Z (Jd Z (Jd Z Jc))) (T.region (oN mv (oN mv (oN mv (oN (Je.ixL pg Z Z g5 (fun _=>Z)) (oN (fa jI Z) (oN (lf (I ((J events i).Loc)) Ju Z) (oC h (fun _=>kg _ _) Z Z Z Z fun v7 _ h=>oN as' (TO.nil ?_)))))))))
     cases h
     exact ⟨(),trivial,kw Z Z⟩
    ·refine T.skip ?_
     cases h
     exact ⟨(),trivial,kw Z Z⟩
set_option maxHeartbeats 4000000 in
theorem qQ (events:List Jj) (i:Int) {q:(LL)} (h:ku events i=some q):aJ Tryz.prog 89 [eL Jj.c events,I i] (eL (cL cI) q):=by
 obtain ⟨nf,h⟩:=rX h;exact qi nf events i h
set_option maxHeartbeats 4000000 in
theorem qj:∀ (nf:Nat) (list:LI) {q:(LL)} (h:bZ nf list=some q),aJ Tryz.prog 114 [eL cI list] (eL (cL cI) q):=by
 intro nf
 induction nf with
 | zero=>intros;rename_i h;cases h
 | succ nf ih=>
  intro list q h;replace h:bY (bZ nf) list=some q:=h;refine pM Tryz.func114 Z (by kernel_rfl) Z (T.sr (oN as' (TO.nil (T.seq (T.sr (oN mv (oN (Je.lenL bh Z) (oN (Je.ieq Z Z) (TO.nil ?_)))))))));refine T.ifH Z h (fun q1 h=>?_) (fun q1 h=>?_)
  ·refine T.sr (oN (Je.mkF (c:=cI) ([]:LI) [] bh Z Z Z (fun _=>Z) (fun _=>Z) Z) (oN (Je.mkF (c:=(cL cI)) ([([]:LI)]:LL) [[eL cI ([]:LI)]] bR Z Z Z (fun _=>Z) (fun _=>Z) Z) (oN as' (TO.nil (T.ret ?_)))))
   cases h
   exact fB Z Z Z
  ·refine T.skip (T.sr (oA (EvA.mkO (c:=(cL cI)) ([]:LL) [] bR Z Z Z (fun _=>Z) Z Z) (oN (Je.asg (hS false 0 0 1 (([]:LL).length)) Z) (TO.nil ?_))));refine T.jF (G:=Nat) h (fun s2 gh=>True) (fun s2 gh=>[(3,hS false 0 gh 1 s2.length)]) (fun s2 gh=>[bE false gh 1 35 (s2.map (cL cI))]) (fun s2 u31 h hg=>?_) (fun s2 h=>?_)
   ·refine T.sr (oN mv (oN (Je.asg (hS false 0 u31 1 s2.length) Z) (TO.nil (T.ret ?_))));obtain rfl:=Jg h
    repeat (first|refine kP ?_|refine kQ ?_)
    exact Fin.ret (vs:=[hS false 0 u31 1 s2.length]) (.cons (.tmp Z) .nil) (Fz.own (g:=false) (ver:=u31) (l:=s2) Z Z Z nofun (fun _=>Z))
   ·refine T.sr (oN as' (TO.nil (T.block ?_)));refine T.loop (S:=(LL)×Int) (G:=Nat) (eU (bZ nf) list) (fun s6 gh=>True) (fun s6 gh=>[(4,I s6.2),(3,hS false 0 gh 1 s6.1.length),(0,eL cI list)]) (fun s6 gh=>[bE false gh 1 35 (s6.1.map (cL cI))]) (s0:=(([]:LL),U)) 0 h trivial (kw Z Z) (fun s6 u8 ws6 h hg=>?_);refine T.seq (T.sr (oN mv (oN mv (oN (Je.lenL bh Z) (oN (Je.ilt Z Z) (TO.nil ?_))))));refine T.ifH Z h (fun q9 h=>?_) (fun q9 h=>?_)
    ·refine T.skip ?_;refine T.jF (G:=Nat) h (fun s10 gh=>True) (fun s10 gh=>[(4,I s6.2),(3,hS false 0 gh 1 s10.length),(0,eL cI list)]) (fun s10 gh=>[bE false gh 1 35 (s10.map (cL cI))]) (fun s10 u29 h hg=>?_) (fun s10 h=>?_)
     ·refine T.region (oN mv (jW h fun g30 h=>oN (Je.add Z Z g30) (oN as' (TO.nil ?_))));obtain rfl:=Jg h;exact ⟨(s10,(s6.2+V)),u29,Z,trivial,kw Z Z⟩
     ·refine T.block (T.seq (T.reserve (T.drawH (fun i=>[([1],true),([],false),([],false),([],false),([1],true),([],false),([],false),([],false),([],false),([1],true),([],false)].getD i ([],false)) (by kernel_rfl) (by kernel_rfl) (fW 1 [] Z Z (fun G hG=>EvA.mkOR (c:=cI) 1 ([]:LI) [] bh Z Z Z (fun _=>Z) (fun _=>Z) Z (hG.a0 Z)) (fN Z mv (fN Z mv (jD h fun g11 h=>fN Z (Je.slL bh Z .no (.yes Z) g11 (fun _=>Z)) (jL h fun g12 h=>fW 1 [] Z Z (fun G hG=>EvA.appF (l:=([]:LI)) ((list.drop U.toNat).take (s6.2.toNat-U.toNat)) bh (by kernel_rfl) Z Z (hG.a0 Z) (aI.fz (l:=((list.drop U.toNat).take (s6.2.toNat-U.toNat))) Z (fun _=>Z)) g12) (fN Z mv (fN Z mv (jW h fun g13 h=>fN Z (Je.add Z Z g13) (jD h fun g14 h=>?_))))))))))));refine fN Z (Je.slL bh Z (.yes Z) .no g14 (fun _=>Z)) (jL h fun g15 h=>fW 1 [] Z Z (fun G hG=>EvA.appF (l:=(([]:LI)++((list.drop U.toNat).take (s6.2.toNat-U.toNat)))) ((list.drop (s6.2+V).toNat).take ((list.length:Int).toNat-(s6.2+V).toNat)) bh (by kernel_rfl) Z Z (hG.a0 Z) (aI.fz (l:=((list.drop (s6.2+V).toNat).take ((list.length:Int).toNat-(s6.2+V).toNat))) Z (fun _=>Z)) g15) (fN Z (Je.asg (hS false 1 ((0+1)+1) 1 (((([]:LI)++((list.drop U.toNat).take (s6.2.toNat-U.toNat)))++((list.drop (s6.2+V).toNat).take ((list.length:Int).toNat-(s6.2+V).toNat))).length)) Z) (TF.nil (T.sr (oN mv (TO.cut (e0:=ae [(30,eL cI ((([]:LI)++((list.drop U.toNat).take (s6.2.toNat-U.toNat)))++((list.drop (s6.2+V).toNat).take ((list.length:Int).toNat-(s6.2+V).toNat)))),(4,I s6.2),(3,hS false 0 u8 1 s6.1.length),(0,eL cI list)]) (H0:=[bE false u8 1 35 (s6.1.map (cL cI))]) (lL Z (.cons (.list (g:=false) (ver:=u8) (l:=s6.1) (fun _=>Z)) .nil) (aa (.fz (Fz.own (g:=false) (ver:=(0+1)+1) (l:=((([]:LI)++((list.drop U.toNat).take (s6.2.toNat-U.toNat)))++((list.drop (s6.2+V).toNat).take ((list.length:Int).toNat-(s6.2+V).toNat)))) Z Z Z nofun (fun _=>Z))) (aa (.fz (.of_isF 9 _ Z)) (aa (.hS (g:=false) (b:=0) (ver:=u8) (s:=1) (n:=s6.1.length) Z) (aa (.fz (.of_isF 9 _ Z)) aO))))) (oC h (fun _=>ih _) Z Z Z Z fun v16 _ h=>oN as' (TO.nil (T.sr (oN as' (TO.nil (T.block ?_))))))))))));refine T.loop (S:=(LL)×Int) (G:=Nat) (gI list s6 v16) (fun s20 gh=>True) (fun s20 gh=>[(7,I s20.2),(6,eL (cL cI) v16),(4,I s6.2),(3,hS false 0 gh 1 s20.1.length),(0,eL cI list)]) (fun s20 gh=>[bE false gh 1 35 (s20.1.map (cL cI))]) (s0:=(s6.1,U)) u8 h trivial (kw Z Z) (fun s20 u22 ws20 h hg=>?_);refine T.seq (T.sr (oN mv (oN mv (oN (Je.lenL bR Z) (oN (Je.ilt Z Z) (TO.nil ?_))))));refine T.ifH Z h (fun q23 h=>?_) (fun q23 h=>?_)
      ·refine T.skip (T.seq (T.block (T.drawX [0,1,2,3,4,6,7,8,9,5,10,11,12,13] (fun i=>([(false,[]),(false,[]),(false,[]),(false,[]),(false,[]),(true,[]),(false,[]),(false,[]),(false,[]),(false,[]),(true,[1]),(true,[]),(true,[0]),(false,[])]:List Xc).getD i (false,[])) (by kernel_rfl) (by kernel_rfl) (by kernel_rfl) (xN Z Z mv (xN Z Z mv (xN Z Z mv (jD h fun g24 h=>xN Z Z (Je.ixL bh Z Z g24 (fun _=>Z)) (xN Z Z (lf (I (J list s6.2)) Ju Z) (xN Z Z mv (xN Z Z mv (jD h fun g25 h=>xN Z Z (Je.ixL bR Z Z g25 (fun _=>Z)) (xN Z Z (lf (eL cI (J v16 s20.2)) jm Z) (xA Z Z (EvA.mkO (c:=cI) ([(J list s6.2)]:LI) [[I (J list s6.2)]] bh Z Z Z (fun _=>Z) Z Z) mO ?_)))))))))))));refine jL h fun g26 h=>xA Z Z (EvA.appF (l:=([(J list s6.2)]:LI)) (J v16 s20.2) bh (by kernel_rfl) Z Z Z (aI.fz (l:=(J v16 s20.2)) Z (fun _=>Z)) g26) lu (xA Z Z (EvA.mkR [[hS false 1 (0+1) 1 ((([(J list s6.2)]:LI)++(J v16 s20.2)).length)]] bR Z Z Z Z) mO (jL h fun g27 h=>xA Z Z (EvA.appR (g:=false) (rows:=s20.1.map (cL cI)) (rows':=s20.1.map (cL cI)++[[hS false 1 (0+1) 1 ((([(J list s6.2)]:LI)++(J v16 s20.2)).length)]]) (n':=s20.1.length+1) bR (by kernel_rfl) Z Z (by simp) nofun (aI.raw (rows:=[[hS false 1 (0+1) 1 ((([(J list s6.2)]:LI)++(J v16 s20.2)).length)]]) Z Z Z) g27 Z Z) lu (xN Z Z (Je.asg (hS false 0 (u22+1) 1 (s20.1.length+1)) Z) (TX.nil (T.cut (e0:=ae [(3,hS false 0 (u22+1) 1 ((s20.1++[(([(J list s6.2)]:LI)++(J v16 s20.2))]).length)),(7,I s20.2),(6,eL (cL cI) v16),(4,I s6.2),(0,eL cI list)]) (H0:=[bE false (u22+1) 1 35 ((s20.1++[(([(J list s6.2)]:LI)++(J v16 s20.2))]).map (cL cI))]) (lL Z (.cons (.snoc (fun _=>Z) (.cons (.cons (.fz (Fz.own (g:=false) (ver:=0+1) (l:=(([(J list s6.2)]:LI)++(J v16 s20.2))) Z Z Z nofun (fun _=>Z))) .nil) .nil)) .nil) (aa (.eqv (congrArg (hS false 0 (u22+1) 1) (by simp:(s20.1.length+1)=(s20.1++[(([(J list s6.2)]:LI)++(J v16 s20.2))]).length)) (.hS (g:=false) (b:=0) (ver:=u22+1) (s:=1) (n:=(s20.1++[(([(J list s6.2)]:LI)++(J v16 s20.2))]).length) Z)) (aa (.fz (.of_isF 9 _ Z)) (aa (.fz (.of_isF 9 _ Z)) (aa (.fz (.of_isF 9 _ Z)) (aa (.fz (.of_isF 9 _ Z)) aO)))))) (T.region (oN mv (jW h fun g28 h=>oN (Je.add Z Z g28) (oN as' (TO.nil ?_))))))))));obtain rfl:=Jg h;exact ⟨((s20.1++[(([(J list s6.2)]:LI)++(J v16 s20.2))]),(s20.2+V)),u22+1,Z,trivial,kw Z Z⟩
      ·refine T.exit (lX h fun h=>?_)
       cases h
       exact ⟨u22,trivial,kw Z Z⟩
    ·refine T.exit (lX h fun h=>?_)
     cases h
     exact ⟨u8,trivial,kw Z Z⟩
set_option maxHeartbeats 4000000 in
theorem qR (list:LI) {q:(LL)} (h:kv list=some q):aJ Tryz.prog 114 [eL cI list] (eL (cL cI) q):=by
 obtain ⟨nf,h⟩:=rX h;exact qj nf list h
set_option maxHeartbeats 4000000 in
theorem o5:∀ (nf:Nat) (events:List Jj) (loc:Int) {q:(List (LL))} (h:dw nf events loc=some q),aJ Tryz.prog 90 [eL Jj.c events,I loc] (eL (cL (cL cI)) q):=by
 intro nf
 induction nf with
 | zero=>intros;rename_i h;cases h
 | succ nf ih=>
  intro events loc q h;replace h:bH (dw nf) events loc=some q:=h;refine pM Tryz.func90 Z (by kernel_rfl) Z (T.sr (oN as' (TO.nil (T.seq (T.sr (oN mv (oN (Je.igt Z Z) (TO.nil ?_))))))));refine T.ifH Z h (fun q1 h=>?_) (fun q1 h=>?_)
  ·refine T.sr (oN (Je.mkF (c:=(cL cI)) ([]:LL) [] bR Z Z Z (fun _=>Z) (fun _=>Z) Z) (oN (Je.mkF (c:=(cL (cL cI))) ([([]:LL)]:List (LL)) [[eL (cL cI) ([]:LL)]] wz Z Z Z (fun _=>Z) (fun _=>Z) Z) (oN as' (TO.nil (T.ret ?_)))))
   cases h
   exact fB Z Z Z
  ·refine T.skip (T.sr (oN mv (oN mv (jW h fun g2 h=>oN (Je.add Z Z g2) (oC h (fun _=>ih _ _) Z Z Z Z fun v3 _ h=>oN as' (TO.nil (T.sr (oN mv (oN mv (oC h (fun _=>kg _ _) Z Z Z Z fun v4 _ h=>oN as' (TO.nil (T.sr ?_))))))))))));refine oN mv (jD h fun g5 h=>oN (Je.slL bh Z (.yes Z) .no g5 (fun _=>Z)) (oC h (fun _=>qR _) Z Z Z Z fun v6 _ h=>oN as' (TO.nil (T.sr (oA (EvA.mkO (c:=(cL (cL cI))) ([]:List (LL)) [] wz Z Z Z (fun _=>Z) Z Z) (oN (Je.asg (hS false 0 0 1 (([]:List (LL)).length)) Z) (TO.nil ?_)))))));refine T.jF (G:=Nat) h (fun s7 gh=>True) (fun s7 gh=>[(8,hS false 0 gh 1 s7.length)]) (fun s7 gh=>[bE false gh 1 24 (s7.map (cL (cL cI)))]) (fun s7 u32 h hg=>?_) (fun s7 h=>?_)
   ·refine T.cut (e0:=ae [(8,eL (cL (cL cI)) s7)]) (H0:=[]) (lL Z .nil (aa (.fz (Fz.own (g:=false) (ver:=u32) (l:=s7) Z Z Z nofun (fun _=>Z))) aO)) (T.sr (oN mv (oN as' (TO.nil (T.ret ?_)))))
    cases h
    exact fB Z Z Z
   ·refine T.seq (T.clean (H0:=[bE false 0 1 24 (([]:List (LL)).map (cL (cL cI)))]) (e0:=ae [(8,hS false 0 0 1 (([]:List (LL)).length)),(7,eL (cL cI) v6),(6,eL cI v4),(5,eL (cL (cL cI)) v3)]) Z (Jd Z (Jd Z (Jd Z (Jd Z Jc)))) (T.region (oN as' (TO.nil (T.block ?_)))));refine T.loop (S:=(List (LL))×Int) (G:=Nat) (bL v3 v4 v6) (fun s11 gh=>True) (fun s11 gh=>[(9,I s11.2),(8,hS false 0 gh 1 s11.1.length),(7,eL (cL cI) v6),(6,eL cI v4),(5,eL (cL (cL cI)) v3)]) (fun s11 gh=>[bE false gh 1 24 (s11.1.map (cL (cL cI)))]) (s0:=(([]:List (LL)),U)) 0 h trivial (kw Z Z) (fun s11 u13 ws11 h hg=>?_);refine T.seq (T.sr (oN mv (oN mv (oN (Je.lenL bR Z) (oN (Je.ilt Z Z) (TO.nil ?_))))));refine T.ifH Z h (fun q14 h=>?_) (fun q14 h=>?_)
    ·refine T.skip ?_;refine T.jF (G:=Nat) h (fun s15 gh=>True) (fun s15 gh=>[(9,I s11.2),(8,hS false 0 gh 1 s15.length),(7,eL (cL cI) v6),(6,eL cI v4),(5,eL (cL (cL cI)) v3)]) (fun s15 gh=>[bE false gh 1 24 (s15.map (cL (cL cI)))]) (fun s15 u30 h hg=>?_) (fun s15 h=>?_)
     ·refine T.region (oN mv (jW h fun g31 h=>oN (Je.add Z Z g31) (oN as' (TO.nil ?_))));obtain rfl:=Jg h;exact ⟨(s15,(s11.2+V)),u30,Z,trivial,kw Z Z⟩
     ·refine T.block (T.seq (T.reserve (T.drawF (fun i=>[([],false),([],false),([],false),([1],true),([],false),([],false),([],false),([],false),([1],true),([],false)].getD i ([],false)) (by kernel_rfl) (by kernel_rfl) (fN Z mv (jD h fun g16 h=>fN Z (Je.ixL bh Z Z g16 (fun _=>Z)) (fN Z (lf (I (J v4 U)) Ju Z) (fW 1 [] Z Z (fun G hG=>EvA.mkOR (c:=cI) 1 ([(J v4 U)]:LI) [[I (J v4 U)]] bh Z Z Z (fun _=>Z) (fun _=>Z) Z (hG.a0 Z)) (fN Z mv (fN Z mv (jD h fun g17 h=>fN Z (Je.ixL bR Z Z g17 (fun _=>Z)) (fN Z (lf (eL cI (J v6 s11.2)) jm Z) (jL h fun g18 h=>fW 1 [] Z Z (fun G hG=>EvA.appF (l:=([(J v4 U)]:LI)) (J v6 s11.2) bh (by kernel_rfl) Z Z (hG.a0 Z) (aI.fz (l:=(J v6 s11.2)) Z (fun _=>Z)) g18) ?_))))))))))));refine fN Z (Je.asg (hS false 1 (0+1) 1 ((([(J v4 U)]:LI)++(J v6 s11.2)).length)) Z) (TF.nil (T.sr (oN as' (TO.cut (e0:=ae [(11,I U),(10,eL cI (([(J v4 U)]:LI)++(J v6 s11.2))),(9,I s11.2),(8,hS false 0 u13 1 s11.1.length),(7,eL (cL cI) v6),(6,eL cI v4),(5,eL (cL (cL cI)) v3)]) (H0:=[bE false u13 1 24 (s11.1.map (cL (cL cI)))]) (lL Z (.cons (.list (g:=false) (ver:=u13) (l:=s11.1) (fun _=>Z)) .nil) (aa (.fz (.of_isF 9 _ Z)) (aa (.fz (Fz.own (g:=false) (ver:=0+1) (l:=(([(J v4 U)]:LI)++(J v6 s11.2))) Z Z Z nofun (fun _=>Z))) (aa (.fz (.of_isF 9 _ Z)) (aa (.hS (g:=false) (b:=0) (ver:=u13) (s:=1) (n:=s11.1.length) Z) (aa (.fz (.of_isF 9 _ Z)) (aa (.fz (.of_isF 9 _ Z)) (aa (.fz (.of_isF 9 _ Z)) aO)))))))) (TO.nil (T.block ?_))))));refine T.loop (S:=(List (LL))×Int) (G:=Nat) (bK v3 v4 v6 s11) (fun s22 gh=>True) (fun s22 gh=>[(11,I s22.2),(10,eL cI (([(J v4 U)]:LI)++(J v6 s11.2))),(9,I s11.2),(8,hS false 0 gh 1 s22.1.length),(7,eL (cL cI) v6),(6,eL cI v4),(5,eL (cL (cL cI)) v3)]) (fun s22 gh=>[bE false gh 1 24 (s22.1.map (cL (cL cI)))]) (s0:=(s11.1,U)) u13 h trivial (kw Z Z) (fun s22 u24 ws22 h hg=>?_);refine T.seq (T.sr (oN mv (oN mv (oN (Je.lenL wz Z) (oN (Je.ilt Z Z) (TO.nil ?_))))));refine T.ifH Z h (fun q25 h=>?_) (fun q25 h=>?_)
      ·refine T.skip (T.seq (T.block (T.region (oN mv (oN mv (oA (EvA.mkO (c:=(cL cI)) ([(([(J v4 U)]:LI)++(J v6 s11.2))]:LL) [[eL cI (([(J v4 U)]:LI)++(J v6 s11.2))]] bR Z Z Z (fun _=>Z) Z Z) (oN mv (oN mv (jD h fun g26 h=>oN (Je.ixL wz Z Z g26 (fun _=>Z)) (oN (lf (eL (cL cI) (J v3 s22.2)) xL Z) (jL h fun g27 h=>oA (EvA.appF (l:=([(([(J v4 U)]:LI)++(J v6 s11.2))]:LL)) (J v3 s22.2) bR (by kernel_rfl) Z Z Z (aI.fz (l:=(J v3 s22.2)) Z (fun _=>Z)) g27) (oA (EvA.mkR [[hS false 1 (0+1) 1 ((([(([(J v4 U)]:LI)++(J v6 s11.2))]:LL)++(J v3 s22.2)).length)]] wz Z Z Z Z) (jL h fun g28 h=>?_)))))))))))));refine oA (EvA.appR (g:=false) (rows:=s22.1.map (cL (cL cI))) (rows':=s22.1.map (cL (cL cI))++[[hS false 1 (0+1) 1 ((([(([(J v4 (0:Int))]:LI)++(J v6 s11.2))]:LL)++(J v3 s22.2)).length)]]) (n':=s22.1.length+1) wz (by kernel_rfl) Z Z (by simp) nofun (aI.raw (rows:=[[hS false 1 (0+1) 1 ((([(([(J v4 (0:Int))]:LI)++(J v6 s11.2))]:LL)++(J v3 s22.2)).length)]]) Z Z Z) g28 Z Z) (oN (Je.asg (hS false 0 (u24+1) 1 (s22.1.length+1)) Z) (TO.nil (T.cut (e0:=ae [(8,hS false 0 (u24+1) 1 ((s22.1++[(([(([(J v4 (0:Int))]:LI)++(J v6 s11.2))]:LL)++(J v3 s22.2))]).length)),(11,I s22.2),(10,eL cI (([(J v4 (0:Int))]:LI)++(J v6 s11.2))),(9,I s11.2),(7,eL (cL cI) v6),(6,eL cI v4),(5,eL (cL (cL cI)) v3)]) (H0:=[bE false (u24+1) 1 24 ((s22.1++[(([(([(J v4 (0:Int))]:LI)++(J v6 s11.2))]:LL)++(J v3 s22.2))]).map (cL (cL cI)))]) (lL Z (.cons (.snoc (fun _=>Z) (.cons (.cons (.fz (Fz.own (g:=false) (ver:=0+1) (l:=(([(([(J v4 (0:Int))]:LI)++(J v6 s11.2))]:LL)++(J v3 s22.2))) Z Z Z nofun (fun _=>Z))) .nil) .nil)) .nil) (aa (.eqv (congrArg (hS false 0 (u24+1) 1) (by simp:(s22.1.length+1)=(s22.1++[(([(([(J v4 (0:Int))]:LI)++(J v6 s11.2))]:LL)++(J v3 s22.2))]).length)) (.hS (g:=false) (b:=0) (ver:=u24+1) (s:=1) (n:=(s22.1++[(([(([(J v4 (0:Int))]:LI)++(J v6 s11.2))]:LL)++(J v3 s22.2))]).length) Z)) (aa (.fz (.of_isF 9 _ Z)) (aa (.fz (.of_isF 9 _ Z)) (aa (.fz (.of_isF 9 _ Z)) (aa (.fz (.of_isF 9 _ Z)) (aa (.fz (.of_isF 9 _ Z)) (aa (.fz (.of_isF 9 _ Z)) aO)))))))) (T.region (oN mv (jW h fun g29 h=>oN (Je.add Z Z g29) (oN as' (TO.nil ?_))))))));obtain rfl:=Jg h;exact ⟨((s22.1++[(([(([(J v4 U)]:LI)++(J v6 s11.2))]:LL)++(J v3 s22.2))]),(s22.2+V)),u24+1,Z,trivial,kw Z Z⟩
      ·refine T.exit (lX h fun h=>?_)
       cases h
       exact ⟨u24,trivial,kw Z Z⟩
    ·refine T.exit (lX h fun h=>?_)
     cases h
     exact ⟨u13,trivial,kw Z Z⟩
set_option maxHeartbeats 4000000 in
theorem ql (events:List Jj) (loc:Int) {q:(List (LL))} (h:jA events loc=some q):aJ Tryz.prog 90 [eL Jj.c events,I loc] (eL (cL (cL cI)) q):=by
 obtain ⟨nf,h⟩:=rX h;exact o5 nf events loc h
set_option maxHeartbeats 4000000 in
theorem tJ (x:Ji) {q:Ji} (h:gJ x=some q):aJ Tryz.prog 91 [.agg (Ji.c x)] (.agg (Ji.c q)):=by
 refine pM Tryz.func91 Z (by kernel_rfl) Z (T.sr (oN (Je.bxF [eL cI x.From,eL (cL cI) x.Order] Z Z Z) (oA (EvA.al DU Z Z) (TO.nil (T.seq (T.reserve (T.region (oA (EvA.mkO (c:=cI) ([]:LI) [] bh Z Z Z (fun _=>Z) Z Z) (oN (fa wu Z) (oN (lf (eL cI x.From) jm Z) (jL h fun g1 h=>oA (EvA.appF (l:=([]:LI)) x.From bh (by kernel_rfl) Z Z Z (aI.fz (l:=x.From) Z (fun _=>Z)) g1) (oN (Je.build [hS false 2 (0+1) 1 ((([]:LI)++x.From).length),hS true 1 0 1 (([]:LL).length)] Tryz.underlying48 DU wu Z Z) (oA (EvA.al DU Z Z) (oV (sr [hS false 2 (0+1) 1 ((([]:LI)++x.From).length),hS true 1 0 1 (([]:LL).length)] tQ Z Z Z Z) ?_))))))))))))));refine TO.nil ?_;refine T.jF (G:=(Bool×Nat)) h (fun s2 gh=>(gh.1=true->s2=[])) (fun s2 gh=>[(3,.hp 3 0 2 0 0),(2,.hp 0 0 2 0 0)]) (fun s2 gh=>[some ⟨0,2,48,[[.nil,.nil]]⟩,bE gh.1 gh.2 1 35 (s2.map (cL cI)),bE false (0+1) 1 3 ((([]:LI)++x.From).map cI),some ⟨0,2,48,[[hS false 2 (0+1) 1 ((([]:LI)++x.From).length),hS gh.1 1 gh.2 1 s2.length]]⟩]) (fun s2 gh h n20=>?_) (fun s2 h=>?_)
 ·obtain ⟨b19,u18⟩:=gh;refine T.sr (oA (lh (.agg [hS false 2 (0+1) 1 ((([]:LI)++x.From).length),hS b19 1 u18 1 s2.length]) tQ Z Z Z) (oV (EvA.st (cs:=[hS false 2 (0+1) 1 ((([]:LI)++x.From).length),hS b19 1 u18 1 s2.length]) ⟨0,2,48,[[hS false 2 (0+1) 1 ((([]:LI)++x.From).length),hS b19 1 u18 1 s2.length]]⟩ tQ Z (by generalize b19=gq0;cases gq0 <;> rfl) Z Z Z Z Z Z Z) (TO.nil (T.ret ?_))));obtain rfl:=Jg h
  repeat (first|refine kP ?_|refine kQ ?_)
  exact Fin.ret (vs:=[.agg [hS false 2 (0+1) 1 ((([]:LI)++x.From).length),hS b19 1 u18 1 s2.length]]) (.cons (.cell (.agg [hS false 2 (0+1) 1 ((([]:LI)++x.From).length),hS b19 1 u18 1 s2.length]) tQ Z Z Z Z Z Z) .nil) (Fz.aggL (.cons (Fz.own (g:=false) (ver:=0+1) (l:=(([]:LI)++x.From)) Z Z Z nofun (fun _=>Z)) (.cons (Fz.own (g:=b19) (ver:=u18) (l:=s2) Z Z Z n20 (fun _=>Z)) .nil)))
 ·refine T.sr (oN as' (TO.nil (T.block ?_)));refine T.loop (S:=(LL)×Int) (G:=(Bool×Nat)) (iU x) (fun s8 gh=>(gh.1=true->s8.1=[])) (fun s8 gh=>[(4,I s8.2),(3,.hp 3 0 2 0 0),(2,.hp 0 0 2 0 0),(1,.fp (Ji.c x) 0)]) (fun s8 gh=>[some ⟨0,2,48,[[.nil,.nil]]⟩,bE gh.1 gh.2 1 35 (s8.1.map (cL cI)),bE false (0+1) 1 3 ((([]:LI)++x.From).map cI),some ⟨0,2,48,[[hS false 2 (0+1) 1 ((([]:LI)++x.From).length),hS gh.1 1 gh.2 1 s8.1.length]]⟩]) (s0:=(([]:LL),U)) (true,0) h (fun _=>Z) (kw Z Z) (fun s8 gh ws8 h n12=>?_);obtain ⟨b11,u10⟩:=gh;refine T.seq (T.sr (oN mv (oN (fa wu Z) (oN (lf (eL (cL cI) x.Order) xL Z) (oN (Je.lenL bR Z) (oN (Je.ilt Z Z) (TO.nil ?_)))))));refine T.ifH Z h (fun q13 h=>?_) (fun q13 h=>?_)
  ·refine T.skip (T.seq (T.block (T.drawX [0,3,4,5,6,7,1,2,8,9,10,11,12] (fun i=>([(false,[]),(false,[3]),(true,[]),(false,[]),(false,[]),(false,[]),(false,[]),(false,[]),(true,[4]),(true,[]),(true,[1]),(false,[]),(true,[3])]:List Xc).getD i (false,[])) (by kernel_rfl) (by kernel_rfl) (by kernel_rfl) (xN Z Z (fa wu Z) (xN Z Z (fa wu Z) (xN Z Z (lf (eL (cL cI) x.Order) xL Z) (xN Z Z mv (jD h fun g14 h=>xN Z Z (Je.ixL bR Z Z g14 (fun _=>Z)) (xN Z Z (lf (eL cI (J x.Order s8.2)) jm Z) (xR [3] Z Z Z (fun G hG=>EvA.loadhp (hS b11 1 u10 1 s8.1.length) xL Z (hG.a0 Z) Z Z Z Z) (xA Z Z (EvA.mkO (c:=cI) ([]:LI) [] bh Z Z Z (fun _=>Z) Z Z) mO (jL h fun g15 h=>xA Z Z (EvA.appF (l:=([]:LI)) (J x.Order s8.2) bh (by kernel_rfl) Z Z Z (aI.fz (l:=(J x.Order s8.2)) Z (fun _=>Z)) g15) lu (xA Z Z (EvA.mkR [[hS false 4 (0+1) 1 ((([]:LI)++(J x.Order s8.2)).length)]] bR Z Z Z Z) mO ?_)))))))))))));refine jL h fun g16 h=>xA Z Z (EvA.appR (g:=b11) (rows:=s8.1.map (cL cI)) (rows':=s8.1.map (cL cI)++[[hS false 4 (0+1) 1 ((([]:LI)++(J x.Order s8.2)).length)]]) (n':=s8.1.length+1) bR (by kernel_rfl) Z Z (by simp) (fun q=>by first | (rw [n12 q];rfl) | (cases q)) (aI.raw (rows:=[[hS false 4 (0+1) 1 ((([]:LI)++(J x.Order s8.2)).length)]]) Z Z Z) g16 Z Z) lu (xN Z Z (fa wu Z) (xV Z Z (sr [hS false 2 (0+1) 1 ((([]:LI)++x.From).length),hS false 1 (u10+1) 1 (s8.1.length+1)] xL Z Z Z Z) lu (TX.nil (T.cut (e0:=ae [(4,I s8.2),(3,.hp 3 0 2 0 0),(2,.hp 0 0 2 0 0),(1,.fp (Ji.c x) 0)]) (H0:=[some ⟨0,2,48,[[.nil,.nil]]⟩,bE false (u10+1) 1 35 ((s8.1++[(([]:LI)++(J x.Order s8.2))]).map (cL cI)),bE false (0+1) 1 3 ((([]:LI)++x.From).map cI),some ⟨0,2,48,[[hS false 2 (0+1) 1 ((([]:LI)++x.From).length),hS false 1 (u10+1) 1 (s8.1.length+1)]]⟩]) (lL Z (.cons (.row (.cons (.fz (.of_isF 9 _ Z)) (.cons (.fz (.of_isF 9 _ Z)) .nil))) (.cons (.snoc (fun _=>Z) (.cons (.cons (.fz (Fz.own (g:=false) (ver:=0+1) (l:=(([]:LI)++(J x.Order s8.2))) Z Z Z nofun (fun _=>Z))) .nil) .nil)) (.cons (.list (g:=false) (ver:=0+1) (l:=(([]:LI)++x.From)) (fun _=>Z)) (.cons (.row (.cons (.hS (g:=false) (b:=2) (ver:=0+1) (s:=1) (n:=(([]:LI)++x.From).length) Z) (.cons (.hS (g:=false) (b:=1) (ver:=u10+1) (s:=1) (n:=(s8.1.length+1)) Z) .nil))) .nil)))) (aa (.fz (.of_isF 9 _ Z)) (aa (.hp (nlb Z)) (aa (.hp (nlb Z)) (aa (.fz (.of_isF 9 _ Z)) aO))))) (T.region (oN mv (jW h fun g17 h=>oN (Je.add Z Z g17) (oN as' (TO.nil ?_)))))))));obtain rfl:=Jg h;exact ⟨((s8.1++[(([]:LI)++(J x.Order s8.2))]),(s8.2+(1:Int))),(false,u10+1),Z,nofun,kw (by first | (simp only [List.length_set] <;> rfl) | simp only [lla,List.length_singleton,llc,List.length_nil,List.length_set]) Z⟩
  ·refine T.exit (lX h fun h=>?_)
   cases h
   exact ⟨(b11,u10),n12,kw Z Z⟩
theorem uk (p:List (List Jh)) {q:(List Ji)} (h:jV p=some q):aJ Tryz.prog 51 [eL (cL Jh.c) p] (eL Ji.c q):=by
 refine pM Tryz.func51 Z (by kernel_rfl) Z (T.sr (oN as' (TO.nil (T.sr (oN mv (oC h (fun _=>iA _) Z Z Z Z fun v1 _ h=>oN as' (TO.nil (T.sr (oN mv (oC h (fun _=>qQ _ _) Z Z Z Z fun v2 _ h=>oN as' (TO.nil (T.sr (oN mv ?_)))))))))))));refine oC h (fun _=>ql _ _) Z Z Z Z fun v3 _ h=>oN as' (TO.nil (T.sr (oA (EvA.mkO (c:=Ji.c) ([]:List Ji) [] DW Z Z Z (fun _=>Z) Z Z) (oN (Je.asg (hS false 0 0 2 (([]:List Ji).length)) Z) (TO.nil ?_)))));refine T.jF (G:=Nat) h (fun s4 gh=>True) (fun s4 gh=>[(6,hS false 0 gh 2 s4.length)]) (fun s4 gh=>[bE false gh 2 48 (s4.map Ji.c)]) (fun s4 u27 h hg=>?_) (fun s4 h=>?_)
 ·refine T.sr (oN mv (oN (Je.asg (hS false 0 u27 2 s4.length) Z) (TO.nil (T.ret ?_))));obtain rfl:=Jg h
  repeat (first|refine kP ?_|refine kQ ?_)
  exact Fin.ret (vs:=[hS false 0 u27 2 s4.length]) (.cons (.tmp Z) .nil) (Fz.own (g:=false) (ver:=u27) (l:=s4) Z Z Z nofun Ji.isF)
 ·refine T.sr (oN as' (TO.nil (T.block ?_)));refine T.loop (S:=(List Ji)×Int) (G:=Nat) (eB v2 v3) (fun s8 gh=>True) (fun s8 gh=>[(7,I s8.2),(6,hS false 0 gh 2 s8.1.length),(5,eL (cL (cL cI)) v3),(4,eL (cL cI) v2)]) (fun s8 gh=>[bE false gh 2 48 (s8.1.map Ji.c)]) (s0:=(([]:List Ji),U)) 0 h trivial (kw Z Z) (fun s8 u10 ws8 h hg=>?_);refine T.seq (T.sr (oN mv (oN mv (oN (Je.lenL bR Z) (oN (Je.ilt Z Z) (TO.nil ?_))))));refine T.ifH Z h (fun q11 h=>?_) (fun q11 h=>?_)
  ·refine T.skip ?_;refine T.jF (G:=Nat) h (fun s12 gh=>True) (fun s12 gh=>[(7,I s8.2),(6,hS false 0 gh 2 s12.length),(5,eL (cL (cL cI)) v3),(4,eL (cL cI) v2)]) (fun s12 gh=>[bE false gh 2 48 (s12.map Ji.c)]) (fun s12 u25 h hg=>?_) (fun s12 h=>?_)
   ·refine T.region (oN mv (jW h fun g26 h=>oN (Je.add Z Z g26) (oN as' (TO.nil ?_))));obtain rfl:=Jg h;exact ⟨(s12,(s8.2+V)),u25,Z,trivial,kw Z Z⟩
   ·refine T.block (T.sr (oN as' (TO.nil (T.block ?_))));refine T.loop (S:=(List Ji)×Int) (G:=Nat) (dN v2 v3 s8) (fun s16 gh=>True) (fun s16 gh=>[(8,I s16.2),(7,I s8.2),(6,hS false 0 gh 2 s16.1.length),(5,eL (cL (cL cI)) v3),(4,eL (cL cI) v2)]) (fun s16 gh=>[bE false gh 2 48 (s16.1.map Ji.c)]) (s0:=(s8.1,U)) u10 h trivial (kw Z Z) (fun s16 u18 ws16 h hg=>?_);refine T.seq (T.sr (oN mv (oN mv (oN (Je.lenL wz Z) (oN (Je.ilt Z Z) (TO.nil ?_))))));refine T.ifH Z h (fun q19 h=>?_) (fun q19 h=>?_)
    ·refine T.skip (T.seq (T.block (T.drawF (fun i=>[([],false),([],false),([],false),([],false),([],false),([],false),([],false),([],false),([],false),([],false),([],false),([],false),([0],true),([],false)].getD i ([],false)) (by kernel_rfl) (by kernel_rfl) (fN Z mv (fN Z mv (fN Z mv (jD h fun g20 h=>fN Z (Je.ixL bR Z Z g20 (fun _=>Z)) (fN Z (lf (eL cI (J v2 s8.2)) jm Z) (fN Z mv (fN Z mv (jD h fun g21 h=>fN Z (Je.ixL wz Z Z g21 (fun _=>Z)) (fN Z (lf (eL (cL cI) (J v3 s16.2)) xL Z) (fN Z (Je.build [eL cI (J v2 s8.2),eL (cL cI) (J v3 s16.2)] Tryz.underlying48 DU wu Z Z) ?_)))))))))))));refine fC h (fun _=>tJ _) Z Z Z Z Z fun v22 _ h=>fN Z (Je.mkF (c:=Ji.c) ([v22]:List Ji) [(Ji.c v22)] DW Z Z Z (fun _=>Z) Ji.isF Z) (jL h fun g23 h=>fW 0 [] Z Z (fun G hG=>EvA.app1 (g:=false) (l:=s16.1) v22 DW (by kernel_rfl) Z Z (hG.a0 Z) nofun (aI.fz (l:=([v22]:List Ji)) Z (fun _=>Z)) g23) (fN Z (Je.asg (hS false 0 (u18+1) 2 ((s16.1++[v22]).length)) Z) (TF.nil (T.clean (H0:=[bE false (u18+1) 2 48 ((s16.1++[v22]).map Ji.c)]) (e0:=ae [(6,hS false 0 (u18+1) 2 ((s16.1++[v22]).length)),(8,I s16.2),(7,I s8.2),(5,eL (cL (cL cI)) v3),(4,eL (cL cI) v2)]) Z (Jd Z (Jd Z (Jd Z (Jd Z (Jd Z Jc))))) (T.region (oN mv (jW h fun g24 h=>oN (Je.add Z Z g24) (oN as' (TO.nil ?_)))))))));obtain rfl:=Jg h;exact ⟨((s16.1++[v22]),(s16.2+V)),u18+1,Z,trivial,kw Z Z⟩
    ·refine T.exit (lX h fun h=>?_)
     cases h
     exact ⟨u18,trivial,kw Z Z⟩
  ·refine T.exit (lX h fun h=>?_)
   cases h
   exact ⟨u10,trivial,kw Z Z⟩
theorem qm (p:List (List Jh)) {q:(List Ji)} (h:gK p=some q):aJ Tryz.prog 26 [eL (cL Jh.c) p] (eL Ji.c q):=by
 refine pM Tryz.func26 Z (by kernel_rfl) Z (T.sr (oN as' (TO.nil (T.seq (T.sr (oN mv (oC h (fun _=>mo _) Z Z Z Z fun v1 _ h=>oN (Je.not Z) (TO.nil ?_))))))));refine T.ifH Z h (fun q2 h=>?_) (fun q2 h=>?_)
 ·refine T.sr (oN (Je.mkF (c:=Ji.c) ([]:List Ji) [] DW Z Z Z (fun _=>Z) Ji.isF Z) (oN as' (TO.nil (T.ret ?_))))
  cases h
  exact fB Z Z Z
 ·refine T.skip (T.sr (oN mv (oC h (fun _=>uk _) Z Z Z Z fun v3 _ h=>oN as' (TO.nil (T.ret ?_)))))
  cases h
  exact fB Z Z Z
theorem lJ (list:LI) (n:Int) {q:Int} (h:fu list n=some q):aJ Tryz.prog 133 [eL cI list,I n] (I q):=by
 refine pM Tryz.func133 Z (by kernel_rfl) Z (T.sr (oN as' (TO.nil ?_)));obtain ⟨Ks1,es1,ws1,h,ks1⟩:=sumL h;refine T.join (S:=Unit) (G:=Unit) (fun s1=>Ks1 s1=some q) (fun s1 gh=>True) (fun s1 gh=>[]) (fun s1 gh=>[]) (fun s1 gh h hg=>?_) ?_
 ·clear ks1;subst es1;refine T.sr (oN as' (TO.nil (T.ret ?_)))
  cases h
  exact fB Z Z Z
 ·refine T.sr (oN as' (TO.nil (T.block ?_)));refine T.lU h (fun s4=>[(5,I s4),(0,eL cI list),(1,I n)]) (fun s4=>[]) (kw Z Z) (fun s4 ws4 h=>?_);refine T.seq (T.sr (oN mv (oN mv (oN (Je.lenL bh Z) (oN (Je.ilt Z Z) (TO.nil ?_))))));refine T.ifH Z h (fun q6 h=>?_) (fun q6 h=>?_)
  ·refine T.skip (T.seq (T.block (T.sr (oN mv (oN mv (jD h fun g7 h=>oN (Je.ixL bh Z Z g7 (fun _=>Z)) (oN (lf (I (J list s4)) Ju Z) (oN mv (oN (Je.ieq Z Z) (TO.nil ?_))))))))));refine T.ifH Z h (fun q8 h=>?_) (fun q8 h=>?_)
   ·refine T.sr (oN mv (oN as' (TO.nil (T.ret (lX h fun h=>?_)))));obtain rfl:=Jg h;replace h:=congrArg some (show _=_ from ks1)
    cases h
    exact fB Z Z Z
   ·refine T.skip (T.region (oN mv (jW h fun g9 h=>oN (Je.add Z Z g9) (oN as' (TO.nil ?_)))));exact lE h (kw Z Z)
  ·refine T.exit (lX h fun h=>?_)
   cases h
   exact ⟨(),(),ks1,trivial,kw Z Z⟩
theorem kO (x:Ji) (loc:Int) (i:Int) (k_:Int) {q:Bool} (h:eC x loc i k_=some q):aJ Tryz.prog 115 [.agg (Ji.c x),I loc,I i,I k_] (Bo q):=by
 refine pM Tryz.func115 Z (by kernel_rfl) Z (T.sr (oN (Je.bxF [eL cI x.From,eL (cL cI) x.Order] Z Z Z) (oN as' (TO.nil (T.seq (T.drawF (fun _=>([],false)) (by kernel_rfl) (by kernel_rfl) (fN Z (fa wu Z) (fN Z (lf (eL (cL cI) x.Order) xL Z) (fN Z mv (jD h fun g1 h=>fN Z (Je.ixL bR Z Z g1 (fun _=>Z)) (fN Z (lf (eL cI (J x.Order loc)) jm Z) (fN Z mv (fC h (fun _=>lJ _ _) Z Z Z Z Z fun v2 _ h=>fN Z (fa wu Z) ?_)))))))))))));refine fN Z (lf (eL (cL cI) x.Order) xL Z) (fN Z mv (fN Z (Je.ixL bR Z Z g1 (fun _=>Z)) (fN Z (lf (eL cI (J x.Order loc)) jm Z) (fN Z mv (fC h (fun _=>lJ _ _) Z Z Z Z Z fun v3 _ h=>fN Z (Je.ilt Z Z) (fN Z as' (TF.nil (T.ret ?_))))))))
 cases h
 exact fB Z Z Z
theorem qU (list:List Jh) (from_:Int) (to:Int) {q:Bool} (h:m7 list from_ to=some q):aJ Tryz.prog 116 [eL Jh.c list,I from_,I to] (Bo q):=by
 refine pM Tryz.func116 Z (by kernel_rfl) Z (T.sr (oN as' (TO.nil ?_)));obtain ⟨Ks1,es1,ws1,h,ks1⟩:=sumL h;refine T.join (S:=Unit) (G:=Unit) (fun s1=>Ks1 s1=some q) (fun s1 gh=>True) (fun s1 gh=>[]) (fun s1 gh=>[]) (fun s1 gh h hg=>?_) ?_
 ·clear ks1;subst es1;refine T.sr (oN as' (TO.nil (T.ret ?_)))
  cases h
  exact fB Z Z Z
 ·refine T.sr (oN mv (jW h fun g2 h=>oN (Je.add Z Z g2) (oN as' (TO.nil (T.block ?_)))));refine T.lU h (fun s5=>[(7,I s5),(0,eL Jh.c list),(2,I to)]) (fun s5=>[]) (kw Z Z) (fun s5 ws5 h=>?_);refine T.seq (T.sr (oN mv (oN mv (oN (Je.ilt Z Z) (TO.nil ?_)))));refine T.ifH Z h (fun q7 h=>?_) (fun q7 h=>?_)
  ·refine T.skip (T.seq (T.block (T.sr (oN mv (oN mv (jD h fun g8 h=>oN (Je.ixL yZ Z Z g8 (fun _=>Z)) (oN (fa uX Z) (oN (lf (I ((J list s5).Op)) Ju Z) (oN (Je.ieq Z Z) (TO.nil ?_))))))))));refine T.ifH Z h (fun q9 h=>?_) (fun q9 h=>?_)
   ·refine T.sr (oN as' (TO.nil (T.ret (lX h fun h=>?_))));obtain rfl:=Jg h;replace h:=congrArg some (show _=_ from ks1)
    cases h
    exact fB Z Z Z
   ·refine T.skip (T.region (oN mv (jW h fun g10 h=>oN (Je.add Z Z g10) (oN as' (TO.nil ?_)))));exact lE h (kw Z Z)
  ·refine T.exit (lX h fun h=>?_)
   cases h
   exact ⟨(),(),ks1,trivial,kw Z Z⟩
set_option maxHeartbeats 4000000 in
theorem tK (p:List (List Jh)) (x:Ji) (events:List Jj) (name:ByteArray) (i:Int) (k_:Int) {q:Bool} (h:jg p x events name i k_=some q):aJ Tryz.prog 95 [eL (cL Jh.c) p,.agg (Ji.c x),eL Jj.c events,St name,I i,I k_] (Bo q):=by
 refine pM Tryz.func95 Z (by kernel_rfl) Z (T.sr (oN (Je.bxF [eL cI x.From,eL (cL cI) x.Order] Z Z Z) (oN as' (TO.nil (T.sr (oN mv (oN mv (jD h fun g1 h=>oN (Je.ixL pg Z Z g1 (fun _=>Z)) (oN (lf (.agg (Jj.c (J events i))) Dl Z) (oA (EvA.al DV Z Z) (oV (sr (Jj.c (J events i)) Dl Z Z Z Z) (TO.nil (T.sr (oN mv ?_))))))))))))));refine oN mv (jD h fun g2 h=>oN (Je.ixL pg Z Z g2 (fun _=>Z)) (oN (lf (.agg (Jj.c (J events k_))) Dl Z) (oA (EvA.al DV Z Z) (oV (sr (Jj.c (J events k_)) Dl Z Z Z Z) (TO.nil (T.sr (oN (fa jI Z) (oA (lh (I ((J events i).Thread)) Ju Z Z Z) (oN (fa jI Z) (oA (lh (I ((J events k_).Thread)) Ju Z Z Z) (oN (Je.ieq Z Z) (oN mv ?_))))))))))));refine TO.jB h 4 (fun s3=>[(33,Bo s3),(14,.hp 1 0 5 0 0),(13,.hp 0 0 5 0 0),(7,.fp (Ji.c x) 0),(0,eL (cL Jh.c) p),(3,St name),(4,I i),(5,I k_)]) (fun s3=>[some ⟨0,5,84,[(Jj.c (J events i))]⟩,some ⟨0,5,84,[(Jj.c (J events k_))]⟩]) (fun s3 q4 h js3=>?_) (fun s3 q4 h js3=>?_) (fun s3 h=>?_)
 ·refine gN Z q4 (fa jI Z) (gA Z q4 (lh (I ((J events i).Thread)) Ju Z Z Z) (gN Z q4 (Je.ige Z Z) (oN (Je.pickT Z q4 (Bo (decide (U<=((J events i).Thread)))) Z) ?_)))
  cases h
  exact js3 _ _ (kw Z Z)
 ·refine gS Z q4 (gS Z q4 (gS Z q4 (oN (Je.pickF Z q4 (Bo false) Z) ?_)))
  cases h
  exact js3 _ _ (kw Z Z)
 ·refine oN as' (TO.nil ?_);obtain ⟨Ks5,es5,ws5,h,ks5⟩:=sumL h;refine T.join (S:=Unit) (G:=Unit) (fun s5=>Ks5 s5=some q) (fun s5 gh=>True) (fun s5 gh=>[(3,St name),(4,I i),(5,I k_)]) (fun s5 gh=>[some ⟨0,5,84,[(Jj.c (J events i))]⟩,some ⟨0,5,84,[(Jj.c (J events k_))]⟩]) (fun s5 gh h hg=>?_) ?_
  ·clear ks5;subst es5;refine T.sr (oN mv (oN (Je.seq Z Z) (oN mv ?_)));refine TO.jB h 4 (fun s51=>[(188,Bo s51)]) (fun s51=>[some ⟨0,5,84,[(Jj.c (J events i))]⟩,some ⟨0,5,84,[(Jj.c (J events k_))]⟩]) (fun s51 q52 h js51=>?_) (fun s51 q52 h js51=>?_) (fun s51 h=>?_)
   ·refine gN Z q52 mv (gN Z q52 mv (gN Z q52 (Je.ieq Z Z) (oN (Je.pickT Z q52 (Bo (i==k_)) Z) ?_)))
    cases h
    exact js51 _ _ (kw Z Z)
   ·refine gS Z q52 (gS Z q52 (gS Z q52 (oN (Je.pickF Z q52 (Bo false) Z) ?_)))
    cases h
    exact js51 _ _ (kw Z Z)
   ·refine oN as' (TO.nil (T.ret ?_))
    cases h
    exact fB Z Z Z
  ·refine T.sr (oN mv (TO.nil (T.block (T.sr (oN (Je.seq Z Z) (oN as' (TO.nil ?_)))))));refine T.ifH Z h (fun q6 h=>?_) (fun q6 h=>?_)
   ·refine T.sr (oN mv (oN mv ?_));refine TO.jB h 6 (fun s7=>[(44,Bo s7)]) (fun s7=>[some ⟨0,5,84,[(Jj.c (J events i))]⟩,some ⟨0,5,84,[(Jj.c (J events k_))]⟩]) (fun s7 q8 h js7=>?_) (fun s7 q8 h js7=>?_) (fun s7 h=>?_)
    ·refine gN Z q8 (fa jI Z) (gA Z q8 (lh (I ((J events i).Index)) Ju Z Z Z) (gN Z q8 (fa jI Z) (gA Z q8 (lh (I ((J events k_).Index)) Ju Z Z Z) (gN Z q8 (Je.ilt Z Z) (oN (Je.pickT Z q8 (Bo (decide (((J events i).Index)<((J events k_).Index)))) Z) ?_)))))
     cases h
     exact js7 _ _ (kw Z Z)
    ·refine gS Z q8 (gS Z q8 (gS Z q8 (gS Z q8 (gS Z q8 (oN (Je.pickF Z q8 (Bo false) Z) ?_)))))
     cases h
     exact js7 _ _ (kw Z Z)
    ·refine oN as' (TO.nil (T.ret ?_));obtain rfl:=Jg h;replace h:=congrArg some (show _=_ from ks5)
     cases h
     exact fB Z Z Z
   ·refine T.sr (oN (Je.seq Z Z) (oN as' (TO.nil ?_)));refine T.ifH Z h (fun q9 h=>?_) (fun q9 h=>?_)
    ·refine T.sr (oN (fa jI Z) (oA (lh (I ((J events i).Loc)) Ju Z Z Z) (oN (fa jI Z) (oA (lh (I ((J events k_).Loc)) Ju Z Z Z) (oN (Je.ieq Z Z) (oN as' (TO.nil (T.ret ?_))))))));obtain rfl:=Jg h;replace h:=congrArg some (show _=_ from ks5)
     cases h
     exact fB Z Z Z
    ·refine T.sr (oN (Je.seq Z Z) (oN as' (TO.nil ?_)));refine T.ifH Z h (fun q10 h=>?_) (fun q10 h=>?_)
     ·refine T.sr (oN mv (oN (Je.not Z) (oN as' (TO.nil (T.ret ?_)))));obtain rfl:=Jg h;replace h:=congrArg some (show _=_ from ks5)
      cases h
      exact fB Z Z Z
     ·refine T.sr (oN (Je.seq Z Z) (oN as' (TO.nil ?_)));refine T.ifH Z h (fun q11 h=>?_) (fun q11 h=>?_)
      ·refine T.sr (oN (fa jI Z) (oA (lh (Bo ((J events k_).Reads)) ty4 Z Z Z) (oN mv ?_)));refine TO.jB h 8 (fun s12=>[(68,Bo s12)]) (fun s12=>[some ⟨0,5,84,[(Jj.c (J events i))]⟩,some ⟨0,5,84,[(Jj.c (J events k_))]⟩]) (fun s12 q13 h js12=>?_) (fun s12 q13 h js12=>?_) (fun s12 h=>?_)
       ·refine gN Z q13 (fa wu Z) (gN Z q13 (lf (eL cI x.From) jm Z) (gN Z q13 mv (jD h fun g14 h=>gN Z q13 (Je.ixL bh Z Z g14 (fun _=>Z)) (gN Z q13 (lf (I (J x.From k_)) Ju Z) (gN Z q13 mv (gN Z q13 (Je.ieq Z Z) (oN (Je.pickT Z q13 (Bo ((J x.From k_)==i)) Z) ?_)))))))
        cases h
        exact js12 _ _ (kw Z Z)
       ·refine gS Z q13 (gS Z q13 (gS Z q13 (gS Z q13 (gS Z q13 (gS Z q13 (gS Z q13 (oN (Je.pickF Z q13 (Bo false) Z) ?_)))))))
        cases h
        exact js12 _ _ (kw Z Z)
       ·refine oN as' (TO.nil (T.ret ?_));obtain rfl:=Jg h;replace h:=congrArg some (show _=_ from ks5)
        cases h
        exact fB Z Z Z
      ·refine T.sr (oN (Je.seq Z Z) (oN as' (TO.nil ?_)));refine T.ifH Z h (fun q15 h=>?_) (fun q15 h=>?_)
       ·refine T.sr (oN (fa jI Z) (oA (lh (Bo ((J events i).Writes)) ty4 Z Z Z) (oN mv ?_)));refine TO.jB h 3 (fun s16=>[(76,Bo s16),(14,.hp 1 0 5 0 0),(13,.hp 0 0 5 0 0),(7,.fp (Ji.c x) 0),(4,I i),(5,I k_)]) (fun s16=>[some ⟨0,5,84,[(Jj.c (J events i))]⟩,some ⟨0,5,84,[(Jj.c (J events k_))]⟩]) (fun s16 q17 h js16=>?_) (fun s16 q17 h js16=>?_) (fun s16 h=>?_)
        ·refine gN Z q17 (fa jI Z) (gA Z q17 (lh (Bo ((J events k_).Writes)) ty4 Z Z Z) (oN (Je.pickT Z q17 (Bo ((J events k_).Writes)) Z) ?_))
         cases h
         exact js16 _ _ (kw Z Z)
        ·refine gS Z q17 (gS Z q17 (oN (Je.pickF Z q17 (Bo false) Z) ?_))
         cases h
         exact js16 _ _ (kw Z Z)
        ·refine oN mv ?_;refine TO.jB h 6 (fun s18=>[(83,Bo s18),(13,.hp 0 0 5 0 0),(7,.fp (Ji.c x) 0),(4,I i),(5,I k_)]) (fun s18=>[some ⟨0,5,84,[(Jj.c (J events i))]⟩,some ⟨0,5,84,[(Jj.c (J events k_))]⟩]) (fun s18 q19 h js18=>?_) (fun s18 q19 h js18=>?_) (fun s18 h=>?_)
         ·refine gN Z q19 (fa jI Z) (gA Z q19 (lh (I ((J events i).Loc)) Ju Z Z Z) (gN Z q19 (fa jI Z) (gA Z q19 (lh (I ((J events k_).Loc)) Ju Z Z Z) (gN Z q19 (Je.ieq Z Z) (oN (Je.pickT Z q19 (Bo (((J events i).Loc)==((J events k_).Loc))) Z) ?_)))))
          cases h
          exact js18 _ _ (kw Z Z)
         ·refine gS Z q19 (gS Z q19 (gS Z q19 (gS Z q19 (gS Z q19 (oN (Je.pickF Z q19 (Bo false) Z) ?_)))))
          cases h
          exact js18 _ _ (kw Z Z)
         ·refine oN mv ?_;refine TO.jB h 7 (fun s20=>[(91,Bo s20)]) (fun s20=>[some ⟨0,5,84,[(Jj.c (J events i))]⟩,some ⟨0,5,84,[(Jj.c (J events k_))]⟩]) (fun s20 q21 h js20=>?_) (fun s20 q21 h js20=>?_) (fun s20 h=>?_)
          ·refine gN Z q21 (lf (.agg (Ji.c x)) tQ Z) (gN Z q21 (fa jI Z) (gA Z q21 (lh (I ((J events i).Loc)) Ju Z Z Z) (gN Z q21 mv (gN Z q21 mv (jB h fun v22 cv22 h=>gN Z q21 (Je.call Z Z Z (kO x ((J events i).Loc) i k_ cv22) Z) (oN (Je.pickT Z q21 (Bo v22) Z) ?_))))))
           cases h
           exact js20 _ _ (kw Z Z)
          ·refine gS Z q21 (gS Z q21 (gS Z q21 (gS Z q21 (gS Z q21 (gS Z q21 (oN (Je.pickF Z q21 (Bo false) Z) ?_))))))
           cases h
           exact js20 _ _ (kw Z Z)
          ·refine oN as' (TO.nil (T.ret ?_));obtain rfl:=Jg h;replace h:=congrArg some (show _=_ from ks5)
           cases h
           exact fB Z Z Z
       ·refine T.sr (oN (Je.seq Z Z) (oN as' (TO.nil ?_)));refine T.ifH Z h (fun q23 h=>?_) (fun q23 h=>?_)
        ·refine T.jU h (fun s24=>[(12,Bo s24)]) (fun s24=>[some ⟨0,5,84,[(Jj.c (J events i))]⟩,some ⟨0,5,84,[(Jj.c (J events k_))]⟩]) (fun s24 h=>?_) (fun s24 h=>?_)
         ·refine T.ret ?_;obtain rfl:=Jg h;replace h:=congrArg some (show _=_ from ks5)
          cases h
          exact fB Z Z Z
         ·refine T.clean (H0:=[some ⟨0,5,84,[(Jj.c (J events i))]⟩,some ⟨0,5,84,[(Jj.c (J events k_))]⟩]) (e0:=ae [(14,.hp 1 0 5 0 0),(13,.hp 0 0 5 0 0),(7,.fp (Ji.c x) 0),(4,I i),(5,I k_)]) Z (Jd Z (Jd Z (Jd Z (Jd Z (Jd Z Jc))))) (T.drawG (fun i=>[([],false),([0],false),([],false),([],false),([1],false),([],false),([],false),([],false),([0],false),([],false),([1],false),([],false),([],false),([],false),([],false),([],false),([],false),([],false),([],false),([],false),([],false),([0],false),([],false),([],false),([],false),([],false),([],false),([],false),([],false),([],false),([],false)].getD i ([],false)) (by kernel_rfl) (by kernel_rfl) (tN Z (fa jI Z) (tR [0] Z (fun G hG=>EvA.loadhp (Bo ((J events i).Reads)) ty4 Z (hG.a0 Z) Z Z Z Z) (tN Z mv ?_))));rcases BO h with ⟨q25,h⟩ | ⟨q25,h⟩
          ·refine Jv Z q25 Z (fa jI Z) (tgR Z q25 [1] Z (fun G hG=>EvA.loadhp (Bo ((J events k_).Writes)) ty4 Z (hG.a0 Z) Z Z Z Z) (tN Z (Je.pickT Z q25 (Bo ((J events k_).Writes)) Z) (tN Z mv ?_)));rcases BO h with ⟨q26,h⟩ | ⟨q26,h⟩
           ·refine Jv Z q26 Z (fa jI Z) (tgR Z q26 [0] Z (fun G hG=>EvA.loadhp (I ((J events i).Loc)) Ju Z (hG.a0 Z) Z Z Z Z) (Jv Z q26 Z (fa jI Z) (tgR Z q26 [1] Z (fun G hG=>EvA.loadhp (I ((J events k_).Loc)) Ju Z (hG.a0 Z) Z Z Z Z) (Jv Z q26 Z (Je.ieq Z Z) (tN Z (Je.pickT Z q26 (Bo (((J events i).Loc)==((J events k_).Loc))) Z) (tN Z mv ?_))))));rcases BO h with ⟨q27,h⟩ | ⟨q27,h⟩
            ·refine Jv Z q27 Z mv (Jv Z q27 Z mv (Jv Z q27 Z (Je.ine Z Z) (tN Z (Je.pickT Z q27 (Bo (i != k_)) Z) (tN Z mv ?_))));rcases BO h with ⟨q28,h⟩ | ⟨q28,h⟩
             ·refine Jv Z q28 Z (lf (.agg (Ji.c x)) tQ Z) (Jv Z q28 Z (fa jI Z) (tgR Z q28 [0] Z (fun G hG=>EvA.loadhp (I ((J events i).Loc)) Ju Z (hG.a0 Z) Z Z Z Z) (Jv Z q28 Z (fa wu Z) (Jv Z q28 Z (lf (eL cI x.From) jm Z) (Jv Z q28 Z mv (jD h fun g29 h=>Jv Z q28 Z (Je.ixL bh Z Z g29 (fun _=>Z)) (Jv Z q28 Z (lf (I (J x.From i)) Ju Z) (Jv Z q28 Z mv (jB h fun v30 cv30 h=>Jv Z q28 Z (Je.call Z Z Z (kO x ((J events i).Loc) (J x.From i) k_ cv30) Z) (tN Z (Je.pickT Z q28 (Bo v30) Z) (tN Z as' (TG.nil ?_))))))))))))
              cases h
              exact ⟨(),trivial,kw Z Z⟩
             ·refine Jw Z q28 (Jw Z q28 (Jw Z q28 (Jw Z q28 (Jw Z q28 (Jw Z q28 (Jw Z q28 (Jw Z q28 (Jw Z q28 (Jw Z q28 (tN Z (Je.pickF Z q28 (Bo false) Z) (tN Z as' (TG.nil ?_))))))))))))
              cases h
              exact ⟨(),trivial,kw Z Z⟩
            ·refine Jw Z q27 (Jw Z q27 (Jw Z q27 (tN Z (Je.pickF Z q27 (Bo false) Z) (tN Z mv (Jw Z Z (Jw Z Z (Jw Z Z (Jw Z Z (Jw Z Z (Jw Z Z (Jw Z Z (Jw Z Z (Jw Z Z (Jw Z Z (tN Z (Je.pickF Z Z (Bo false) Z) ?_)))))))))))))));refine tN Z as' (TG.nil ?_)
             cases h
             exact ⟨(),trivial,kw Z Z⟩
           ·refine Jw Z q26 (Jw Z q26 (Jw Z q26 (Jw Z q26 (Jw Z q26 (tN Z (Je.pickF Z q26 (Bo false) Z) (tN Z mv (Jw Z Z (Jw Z Z (Jw Z Z (tN Z (Je.pickF Z Z (Bo false) Z) (tN Z mv (Jw Z Z (Jw Z Z (Jw Z Z (Jw Z Z ?_)))))))))))))));refine Jw Z Z (Jw Z Z (Jw Z Z (Jw Z Z (Jw Z Z (Jw Z Z (tN Z (Je.pickF Z Z (Bo false) Z) (tN Z as' (TG.nil ?_))))))))
            cases h
            exact ⟨(),trivial,kw Z Z⟩
          ·refine Jw Z q25 (Jw Z q25 (tN Z (Je.pickF Z q25 (Bo false) Z) (tN Z mv (Jw Z Z (Jw Z Z (Jw Z Z (Jw Z Z (Jw Z Z (tN Z (Je.pickF Z Z (Bo false) Z) (tN Z mv (Jw Z Z (Jw Z Z (Jw Z Z (tN Z (Je.pickF Z Z (Bo false) Z) (tN Z mv ?_)))))))))))))));refine Jw Z Z (Jw Z Z (Jw Z Z (Jw Z Z (Jw Z Z (Jw Z Z (Jw Z Z (Jw Z Z (Jw Z Z (Jw Z Z (tN Z (Je.pickF Z Z (Bo false) Z) (tN Z as' (TG.nil ?_))))))))))))
           cases h
           exact ⟨(),trivial,kw Z Z⟩
        ·refine T.sr (oN (Je.seq Z Z) (oN as' (TO.nil ?_)));refine T.ifH Z h (fun q31 h=>?_) (fun q31 h=>?_)
         ·refine T.jU h (fun s32=>[(12,Bo s32)]) (fun s32=>[some ⟨0,5,84,[(Jj.c (J events i))]⟩,some ⟨0,5,84,[(Jj.c (J events k_))]⟩]) (fun s32 h=>?_) (fun s32 h=>?_)
          ·refine T.ret ?_;obtain rfl:=Jg h;replace h:=congrArg some (show _=_ from ks5)
           cases h
           exact fB Z Z Z
          ·refine T.clean (H0:=[some ⟨0,5,84,[(Jj.c (J events i))]⟩,some ⟨0,5,84,[(Jj.c (J events k_))]⟩]) (e0:=ae [(15,Bo s3),(14,.hp 1 0 5 0 0),(13,.hp 0 0 5 0 0),(0,eL (cL Jh.c) p)]) Z (Jd Z (Jd Z (Jd Z (Jd Z Jc)))) (T.drawG (fun i=>[([],false),([],false),([],false),([0],false),([],false),([1],false),([],false),([],false),([],false),([],false),([],false),([0],false),([],false),([],false),([],false),([0],false),([],false),([1],false),([],false),([],false),([],false)].getD i ([],false)) (by kernel_rfl) (by kernel_rfl) (tN Z mv (tN Z mv ?_)));rcases BO h with ⟨q33,h⟩ | ⟨q33,h⟩
           ·refine Jv Z q33 Z (fa jI Z) (tgR Z q33 [0] Z (fun G hG=>EvA.loadhp (I ((J events i).Index)) Ju Z (hG.a0 Z) Z Z Z Z) (Jv Z q33 Z (fa jI Z) (tgR Z q33 [1] Z (fun G hG=>EvA.loadhp (I ((J events k_).Index)) Ju Z (hG.a0 Z) Z Z Z Z) (Jv Z q33 Z (Je.ilt Z Z) (tN Z (Je.pickT Z q33 (Bo (decide (((J events i).Index)<((J events k_).Index)))) Z) (tN Z mv ?_))))));rcases BO h with ⟨q34,h⟩ | ⟨q34,h⟩
            ·refine Jv Z q34 Z mv (Jv Z q34 Z (fa jI Z) (tgR Z q34 [0] Z (fun G hG=>EvA.loadhp (I ((J events i).Thread)) Ju Z (hG.a0 Z) Z Z Z Z) (jD h fun g35 h=>Jv Z q34 Z (Je.ixL tT Z Z g35 (fun _=>Z)) (Jv Z q34 Z (lf (eL Jh.c (J p ((J events i).Thread))) Bc Z) (Jv Z q34 Z (fa jI Z) (tgR Z q34 [0] Z (fun G hG=>EvA.loadhp (I ((J events i).Index)) Ju Z (hG.a0 Z) Z Z Z Z) (Jv Z q34 Z (fa jI Z) (tgR Z q34 [1] Z (fun G hG=>EvA.loadhp (I ((J events k_).Index)) Ju Z (hG.a0 Z) Z Z Z Z) (jB h fun v36 cv36 h=>Jv Z q34 Z (Je.call Z Z Z (qU (J p ((J events i).Thread)) ((J events i).Index) ((J events k_).Index) cv36) Z) (tN Z (Je.pickT Z q34 (Bo v36) Z) (tN Z as' (TG.nil ?_))))))))))))
             cases h
             exact ⟨(),trivial,kw Z Z⟩
            ·refine Jw Z q34 (Jw Z q34 (Jw Z q34 (Jw Z q34 (Jw Z q34 (Jw Z q34 (Jw Z q34 (Jw Z q34 (Jw Z q34 (Jw Z q34 (tN Z (Je.pickF Z q34 (Bo false) Z) (tN Z as' (TG.nil ?_))))))))))))
             cases h
             exact ⟨(),trivial,kw Z Z⟩
           ·refine Jw Z q33 (Jw Z q33 (Jw Z q33 (Jw Z q33 (Jw Z q33 (tN Z (Je.pickF Z q33 (Bo false) Z) (tN Z mv (Jw Z Z (Jw Z Z (Jw Z Z (Jw Z Z (Jw Z Z (Jw Z Z (Jw Z Z (Jw Z Z (Jw Z Z ?_)))))))))))))));refine Jw Z Z (tN Z (Je.pickF Z Z (Bo false) Z) (tN Z as' (TG.nil ?_)))
            cases h
            exact ⟨(),trivial,kw Z Z⟩
         ·refine T.seq (T.clean (H0:=[some ⟨0,5,84,[(Jj.c (J events i))]⟩,some ⟨0,5,84,[(Jj.c (J events k_))]⟩]) (e0:=ae [(34,St name),(14,.hp 1 0 5 0 0),(13,.hp 0 0 5 0 0),(3,St name),(4,I i),(5,I k_)]) Z (Jd Z (Jd Z (Jd Z (Jd Z (Jd Z (Jd Z Jc)))))) (T.region (oN (Je.seq Z Z) (oN as' (TO.nil ?_)))));refine T.ifH Z h (fun q37 h=>?_) (fun q37 h=>?_)
          ·refine T.sr (oN (fa jI Z) (oA (lh (Bo ((J events i).Writes)) ty4 Z Z Z) (oN mv ?_)));refine TO.jB h 4 (fun s38=>[(154,Bo s38),(14,.hp 1 0 5 0 0)]) (fun s38=>[some ⟨0,5,84,[(Jj.c (J events i))]⟩,some ⟨0,5,84,[(Jj.c (J events k_))]⟩]) (fun s38 q39 h js38=>?_) (fun s38 q39 h js38=>?_) (fun s38 h=>?_)
           ·refine gN Z q39 (fa jI Z) (gA Z q39 (lh (Bo ((J events i).Reads)) ty4 Z Z Z) (gN Z q39 (Je.not Z) (oN (Je.pickT Z q39 (Bo (!((J events i).Reads))) Z) ?_)))
            cases h
            exact js38 _ _ (kw Z Z)
           ·refine gS Z q39 (gS Z q39 (gS Z q39 (oN (Je.pickF Z q39 (Bo false) Z) ?_)))
            cases h
            exact js38 _ _ (kw Z Z)
           ·refine oN mv ?_;refine TO.jB h 3 (fun s40=>[(158,Bo s40),(14,.hp 1 0 5 0 0)]) (fun s40=>[some ⟨0,5,84,[(Jj.c (J events i))]⟩,some ⟨0,5,84,[(Jj.c (J events k_))]⟩]) (fun s40 q41 h js40=>?_) (fun s40 q41 h js40=>?_) (fun s40 h=>?_)
            ·refine gN Z q41 (fa jI Z) (gA Z q41 (lh (Bo ((J events k_).Reads)) ty4 Z Z Z) (oN (Je.pickT Z q41 (Bo ((J events k_).Reads)) Z) ?_))
             cases h
             exact js40 _ _ (kw Z Z)
            ·refine gS Z q41 (gS Z q41 (oN (Je.pickF Z q41 (Bo false) Z) ?_))
             cases h
             exact js40 _ _ (kw Z Z)
            ·refine oN mv ?_;refine TO.jB h 4 (fun s42=>[(163,Bo s42)]) (fun s42=>[some ⟨0,5,84,[(Jj.c (J events i))]⟩,some ⟨0,5,84,[(Jj.c (J events k_))]⟩]) (fun s42 q43 h js42=>?_) (fun s42 q43 h js42=>?_) (fun s42 h=>?_)
             ·refine gN Z q43 (fa jI Z) (gA Z q43 (lh (Bo ((J events k_).Writes)) ty4 Z Z Z) (gN Z q43 (Je.not Z) (oN (Je.pickT Z q43 (Bo (!((J events k_).Writes))) Z) ?_)))
              cases h
              exact js42 _ _ (kw Z Z)
             ·refine gS Z q43 (gS Z q43 (gS Z q43 (oN (Je.pickF Z q43 (Bo false) Z) ?_)))
              cases h
              exact js42 _ _ (kw Z Z)
             ·refine oN as' (TO.nil (T.ret ?_));obtain rfl:=Jg h;replace h:=congrArg some (show _=_ from ks5)
              cases h
              exact fB Z Z Z
          ·refine T.sr (oN (Je.seq Z Z) (oN as' (TO.nil ?_)));refine T.ifH Z h (fun q44 h=>?_) (fun q44 h=>?_)
           ·refine T.sr (oN (fa jI Z) (oA (lh (Bo ((J events i).Writes)) ty4 Z Z Z) (oN mv ?_)));refine TO.jB h 4 (fun s45=>[(172,Bo s45),(14,.hp 1 0 5 0 0)]) (fun s45=>[some ⟨0,5,84,[(Jj.c (J events i))]⟩,some ⟨0,5,84,[(Jj.c (J events k_))]⟩]) (fun s45 q46 h js45=>?_) (fun s45 q46 h js45=>?_) (fun s45 h=>?_)
            ·refine gN Z q46 (fa jI Z) (gA Z q46 (lh (Bo ((J events i).Reads)) ty4 Z Z Z) (gN Z q46 (Je.not Z) (oN (Je.pickT Z q46 (Bo (!((J events i).Reads))) Z) ?_)))
             cases h
             exact js45 _ _ (kw Z Z)
            ·refine gS Z q46 (gS Z q46 (gS Z q46 (oN (Je.pickF Z q46 (Bo false) Z) ?_)))
             cases h
             exact js45 _ _ (kw Z Z)
            ·refine oN mv ?_;refine TO.jB h 3 (fun s47=>[(176,Bo s47),(14,.hp 1 0 5 0 0)]) (fun s47=>[some ⟨0,5,84,[(Jj.c (J events i))]⟩,some ⟨0,5,84,[(Jj.c (J events k_))]⟩]) (fun s47 q48 h js47=>?_) (fun s47 q48 h js47=>?_) (fun s47 h=>?_)
             ·refine gN Z q48 (fa jI Z) (gA Z q48 (lh (Bo ((J events k_).Writes)) ty4 Z Z Z) (oN (Je.pickT Z q48 (Bo ((J events k_).Writes)) Z) ?_))
              cases h
              exact js47 _ _ (kw Z Z)
             ·refine gS Z q48 (gS Z q48 (oN (Je.pickF Z q48 (Bo false) Z) ?_))
              cases h
              exact js47 _ _ (kw Z Z)
             ·refine oN mv ?_;refine TO.jB h 4 (fun s49=>[(181,Bo s49)]) (fun s49=>[some ⟨0,5,84,[(Jj.c (J events i))]⟩,some ⟨0,5,84,[(Jj.c (J events k_))]⟩]) (fun s49 q50 h js49=>?_) (fun s49 q50 h js49=>?_) (fun s49 h=>?_)
              ·refine gN Z q50 (fa jI Z) (gA Z q50 (lh (Bo ((J events k_).Reads)) ty4 Z Z Z) (gN Z q50 (Je.not Z) (oN (Je.pickT Z q50 (Bo (!((J events k_).Reads))) Z) ?_)))
               cases h
               exact js49 _ _ (kw Z Z)
              ·refine gS Z q50 (gS Z q50 (gS Z q50 (oN (Je.pickF Z q50 (Bo false) Z) ?_)))
               cases h
               exact js49 _ _ (kw Z Z)
              ·refine oN as' (TO.nil (T.ret ?_));obtain rfl:=Jg h;replace h:=congrArg some (show _=_ from ks5)
               cases h
               exact fB Z Z Z
           ·refine T.skip ?_
            cases h
            exact ⟨(),(),ks5,trivial,kw Z Z⟩
theorem iH (p:List (List Jh)) (x:Ji) (name:ByteArray) {q:(LI)} (h:eF p x name=some q):aJ Tryz.prog 56 [eL (cL Jh.c) p,.agg (Ji.c x),St name] (eL cI q):=by
 refine pM Tryz.func56 Z (by kernel_rfl) Z (T.sr (oN (Je.bxF [eL cI x.From,eL (cL cI) x.Order] Z Z Z) (oN as' (TO.nil (T.sr (oN mv (oC h (fun _=>iA _) Z Z Z Z fun v1 _ h=>oN as' (TO.nil (T.sr (oA (EvA.mkO (c:=cI) ([]:LI) [] bh Z Z Z (fun _=>Z) Z Z) (oN (Je.asg (hS false 0 0 1 (([]:LI).length)) Z) (TO.nil ?_))))))))))));refine T.jF (G:=Nat) h (fun s2 gh=>True) (fun s2 gh=>[(8,hS false 0 gh 1 s2.length)]) (fun s2 gh=>[bE false gh 1 3 (s2.map cI)]) (fun s2 u25 h hg=>?_) (fun s2 h=>?_)
 ·refine T.sr (oN mv (oN (Je.asg (hS false 0 u25 1 s2.length) Z) (TO.nil (T.ret ?_))));obtain rfl:=Jg h
  repeat (first|refine kP ?_|refine kQ ?_)
  exact Fin.ret (vs:=[hS false 0 u25 1 s2.length]) (.cons (.tmp Z) .nil) (Fz.own (g:=false) (ver:=u25) (l:=s2) Z Z Z nofun (fun _=>Z))
 ·refine T.sr (oN as' (TO.nil (T.block ?_)));refine T.loop (S:=(LI)×Int) (G:=Nat) (jC p x name v1) (fun s6 gh=>True) (fun s6 gh=>[(9,I s6.2),(8,hS false 0 gh 1 s6.1.length),(7,eL Jj.c v1),(4,.fp (Ji.c x) 0),(0,eL (cL Jh.c) p),(2,St name)]) (fun s6 gh=>[bE false gh 1 3 (s6.1.map cI)]) (s0:=(([]:LI),U)) 0 h trivial (kw Z Z) (fun s6 u8 ws6 h hg=>?_);refine T.seq (T.sr (oN mv (oN mv (oN (Je.lenL pg Z) (oN (Je.ilt Z Z) (TO.nil ?_))))));refine T.ifH Z h (fun q9 h=>?_) (fun q9 h=>?_)
  ·refine T.skip ?_;refine T.jF (G:=Nat) h (fun s10 gh=>True) (fun s10 gh=>[(8,hS false 0 gh 1 s10.length),(9,I s6.2),(7,eL Jj.c v1),(4,.fp (Ji.c x) 0),(0,eL (cL Jh.c) p),(2,St name)]) (fun s10 gh=>[bE false gh 1 3 (s10.map cI)]) (fun s10 u23 h hg=>?_) (fun s10 h=>?_)
   ·refine T.region (oN mv (jW h fun g24 h=>oN (Je.add Z Z g24) (oN as' (TO.nil ?_))));obtain rfl:=Jg h;exact ⟨(s10,(s6.2+V)),u23,Z,trivial,kw Z Z⟩
   ·refine T.block (T.sr (oN as' (TO.nil ?_)));refine T.jU h (fun s11=>[(10,I s11),(9,I s6.2),(8,hS false 0 u8 1 s6.1.length),(7,eL Jj.c v1),(4,.fp (Ji.c x) 0),(0,eL (cL Jh.c) p),(2,St name)]) (fun s11=>[bE false u8 1 3 (s6.1.map cI)]) (fun s11 h=>?_) (fun s11 h=>?_)
    ·refine T.region (oN mv (oN mv (oN (Je.mkF (c:=cI) ([s11]:LI) [[I s11]] bh Z Z Z (fun _=>Z) (fun _=>Z) Z) (jL h fun g22 h=>oA (EvA.app1 (g:=false) (l:=s6.1) s11 bh (by kernel_rfl) Z Z Z nofun (aI.fz (l:=([s11]:LI)) Z (fun _=>Z)) g22) (oN (Je.asg (hS false 0 (u8+1) 1 ((s6.1++[s11]).length)) Z) (TO.nil ?_))))))
     cases h
     exact ⟨u8+1,trivial,kw Z Z⟩
    ·refine T.sr (oN as' (TO.nil (T.block ?_)));refine T.lU h (fun s14=>[(11,I s14.1),(10,I s14.2),(9,I s6.2),(8,hS false 0 u8 1 s6.1.length),(7,eL Jj.c v1),(4,.fp (Ji.c x) 0),(0,eL (cL Jh.c) p),(2,St name)]) (fun s14=>[bE false u8 1 3 (s6.1.map cI)]) (kw Z Z) (fun s14 ws14 h=>?_);refine T.seq (T.sr (oN mv (oN mv (oN (Je.lenL pg Z) (oN (Je.ilt Z Z) (TO.nil ?_))))));refine T.ifH Z h (fun q16 h=>?_) (fun q16 h=>?_)
     ·refine T.skip ?_;refine T.jU h (fun s17=>[(10,I s17),(11,I s14.1),(9,I s6.2),(8,hS false 0 u8 1 s6.1.length),(7,eL Jj.c v1),(4,.fp (Ji.c x) 0),(0,eL (cL Jh.c) p),(2,St name)]) (fun s17=>[bE false u8 1 3 (s6.1.map cI)]) (fun s17 h=>?_) (fun s17 h=>?_)
      ·refine T.region (oN mv (jW h fun g21 h=>oN (Je.add Z Z g21) (oN as' (TO.nil ?_))));exact lE h (kw Z Z)
      ·refine T.block (T.sr (oN mv (oN (lf (.agg (Ji.c x)) tQ Z) (oN mv (oN mv (oN mv (oN mv (oC h (fun _=>tK _ _ _ _ _ _) Z Z Z Z fun v18 _ h=>TO.nil ?_))))))));refine T.ifH Z h (fun q19 h=>?_) (fun q19 h=>?_)
       ·refine T.region (oN mv (oN mv (jD h fun g20 h=>oN (Je.shl Z Z g20) (oN (Je.bor Z Z) (oN as' (TO.nil ?_))))))
        cases h
        exact ⟨(),trivial,kw Z Z⟩
       ·refine T.skip ?_
        cases h
        exact ⟨(),trivial,kw Z Z⟩
     ·refine T.exit (lX h fun h=>?_)
      cases h
      exact ⟨(),trivial,kw Z Z⟩
  ·refine T.exit (lX h fun h=>?_)
   cases h
   exact ⟨u8,trivial,kw Z Z⟩
theorem iW (a:LI) (b:LI) {q:(LI)} (h:dO a b=some q):aJ Tryz.prog 57 [eL cI a,eL cI b] (eL cI q):=by
 refine pM Tryz.func57 Z (by kernel_rfl) Z (T.sr (oN as' (TO.nil (T.sr (oA (EvA.mkO (c:=cI) ([]:LI) [] bh Z Z Z (fun _=>Z) Z Z) (oN (Je.asg (hS false 0 0 1 (([]:LI).length)) Z) (TO.nil ?_)))))));refine T.jF (G:=Nat) h (fun s1 gh=>True) (fun s1 gh=>[(5,hS false 0 gh 1 s1.length)]) (fun s1 gh=>[bE false gh 1 3 (s1.map cI)]) (fun s1 u13 h hg=>?_) (fun s1 h=>?_)
 ·refine T.sr (oN mv (oN (Je.asg (hS false 0 u13 1 s1.length) Z) (TO.nil (T.ret ?_))));obtain rfl:=Jg h
  repeat (first|refine kP ?_|refine kQ ?_)
  exact Fin.ret (vs:=[hS false 0 u13 1 s1.length]) (.cons (.tmp Z) .nil) (Fz.own (g:=false) (ver:=u13) (l:=s1) Z Z Z nofun (fun _=>Z))
 ·refine T.sr (oN as' (TO.nil (T.block ?_)));refine T.loop (S:=(LI)×Int) (G:=Nat) (iy a b) (fun s5 gh=>True) (fun s5 gh=>[(6,I s5.2),(5,hS false 0 gh 1 s5.1.length),(0,eL cI a),(1,eL cI b)]) (fun s5 gh=>[bE false gh 1 3 (s5.1.map cI)]) (s0:=(([]:LI),U)) 0 h trivial (kw Z Z) (fun s5 u7 ws5 h hg=>?_);refine T.seq (T.sr (oN mv (oN mv (oN (Je.lenL bh Z) (oN (Je.ilt Z Z) (TO.nil ?_))))));refine T.ifH Z h (fun q8 h=>?_) (fun q8 h=>?_)
  ·refine T.skip (T.seq (T.block (T.drawF (fun i=>[([],false),([],false),([],false),([],false),([],false),([],false),([],false),([],false),([],false),([],false),([],false),([0],true),([],false)].getD i ([],false)) (by kernel_rfl) (by kernel_rfl) (fN Z mv (fN Z mv (fN Z mv (jD h fun g9 h=>fN Z (Je.ixL bh Z Z g9 (fun _=>Z)) (fN Z (lf (I (J a s5.2)) Ju Z) (fN Z mv (fN Z mv (jD h fun g10 h=>fN Z (Je.ixL bh Z Z g10 (fun _=>Z)) (fN Z (lf (I (J b s5.2)) Ju Z) (fN Z (Je.bor Z Z) ?_)))))))))))));refine fN Z (Je.mkF (c:=cI) ([(bOr .i64 (J a s5.2) (J b s5.2))]:LI) [[I (bOr .i64 (J a s5.2) (J b s5.2))]] bh Z Z Z (fun _=>Z) (fun _=>Z) Z) (jL h fun g11 h=>fW 0 [] Z Z (fun G hG=>EvA.app1 (g:=false) (l:=s5.1) (bOr .i64 (J a s5.2) (J b s5.2)) bh (by kernel_rfl) Z Z (hG.a0 Z) nofun (aI.fz (l:=([(bOr .i64 (J a s5.2) (J b s5.2))]:LI)) Z (fun _=>Z)) g11) (fN Z (Je.asg (hS false 0 (u7+1) 1 ((s5.1++[(bOr .i64 (J a s5.2) (J b s5.2))]).length)) Z) (TF.nil (T.clean (H0:=[bE false (u7+1) 1 3 ((s5.1++[(bOr .i64 (J a s5.2) (J b s5.2))]).map cI)]) (e0:=ae [(5,hS false 0 (u7+1) 1 ((s5.1++[(bOr .i64 (J a s5.2) (J b s5.2))]).length)),(6,I s5.2),(0,eL cI a),(1,eL cI b)]) Z (Jd Z (Jd Z (Jd Z (Jd Z Jc)))) (T.region (oN mv (jW h fun g12 h=>oN (Je.add Z Z g12) (oN as' (TO.nil ?_)))))))));obtain rfl:=Jg h;exact ⟨((s5.1++[(bOr .i64 (J a s5.2) (J b s5.2))]),(s5.2+V)),u7+1,Z,trivial,kw Z Z⟩
  ·refine T.exit (lX h fun h=>?_)
   cases h
   exact ⟨u7,trivial,kw Z Z⟩
theorem o6 (p:List (List Jh)) (x:Ji) {q:(LI)} (h:fE p x=some q):aJ Tryz.prog 28 [eL (cL Jh.c) p,.agg (Ji.c x)] (eL cI q):=by
 refine pM Tryz.func28 Z (by kernel_rfl) Z (T.sr (oN (Je.bxF [eL cI x.From,eL (cL cI) x.Order] Z Z Z) (oN as' (TO.nil (T.sr (oN mv (oN (lf (.agg (Ji.c x)) tQ Z) (oC h (fun _=>iH _ _ _) Z Z Z Z fun v1 _ h=>oN as' (TO.nil (T.sr (oN mv (oN mv (oN (lf (.agg (Ji.c x)) tQ Z) (oC h (fun _=>iH _ _ _) Z Z Z Z fun v2 _ h=>?_))))))))))))));refine oC h (fun _=>iW _ _) Z Z Z Z fun v3 _ h=>oN as' (TO.nil (T.sr (oN mv (oN mv (oN (lf (.agg (Ji.c x)) tQ Z) (oC h (fun _=>iH _ _ _) Z Z Z Z fun v4 _ h=>oC h (fun _=>iW _ _) Z Z Z Z fun v5 _ h=>oN as' (TO.nil (T.seq (T.clean (H0:=[]) (e0:=ae [(5,eL cI v5),(3,.fp (Ji.c x) 0),(0,eL (cL Jh.c) p)]) Z (Jd Z (Jd Z (Jd Z Jc))) (T.region (oN mv (oN mv ?_))))))))))));refine oN (lf (.agg (Ji.c x)) tQ Z) (oC h (fun _=>iH _ _ _) Z Z Z Z fun v6 _ h=>oC h (fun _=>iW _ _) Z Z Z Z fun v7 _ h=>oN as' (TO.nil (T.ret ?_)))
 cases h
 exact fB Z Z Z
theorem tL (n:Int) {q:Int} (h:lc n=some q):aJ Tryz.prog 53 [I n] (I q):=by
 refine pM Tryz.func53 Z (by kernel_rfl) Z (T.sr (oN as' (TO.nil (T.sr (oN mv (jD h fun g1 h=>oN (Je.shl Z Z g1) (jW h fun g2 h=>oN (Je.sub Z Z g2) (oN as' (TO.nil (T.ret ?_))))))))))
 cases h
 exact fB Z Z Z
theorem qo (events:List Jj) (t:Int) (index:Int) {q:Int} (h:gL events t index=some q):aJ Tryz.prog 54 [eL Jj.c events,I t,I index] (I q):=by
 refine pM Tryz.func54 Z (by kernel_rfl) Z (T.sr (oN as' (TO.nil ?_)));obtain ⟨Ks1,es1,ws1,h,ks1⟩:=sumL h;refine T.join (S:=Unit) (G:=Unit) (fun s1=>Ks1 s1=some q) (fun s1 gh=>True) (fun s1 gh=>[]) (fun s1 gh=>[]) (fun s1 gh h hg=>?_) ?_
 ·clear ks1;subst es1;refine T.sr (oN as' (TO.nil (T.ret ?_)))
  cases h
  exact fB Z Z Z
 ·refine T.sr (oN as' (TO.nil (T.block ?_)));refine T.lU h (fun s4=>[(7,I s4),(0,eL Jj.c events),(1,I t),(2,I index)]) (fun s4=>[]) (kw Z Z) (fun s4 ws4 h=>?_);refine T.seq (T.sr (oN mv (oN mv (oN (Je.lenL pg Z) (oN (Je.ilt Z Z) (TO.nil ?_))))));refine T.ifH Z h (fun q6 h=>?_) (fun q6 h=>?_)
  ·refine T.skip (T.seq (T.block (T.sr (oN mv (oN mv (jD h fun g7 h=>oN (Je.ixL pg Z Z g7 (fun _=>Z)) (oN (fa jI Z) (oN (lf (I ((J events s4).Thread)) Ju Z) (oN mv (oN (Je.ieq Z Z) (oN mv ?_)))))))))));refine TO.jB h 8 (fun s8=>[(29,Bo s8),(7,I s4),(0,eL Jj.c events),(1,I t),(2,I index)]) (fun s8=>[]) (fun s8 q9 h js8=>?_) (fun s8 q9 h js8=>?_) (fun s8 h=>?_)
   ·refine gN Z q9 mv (gN Z q9 mv (gN Z q9 (Je.ixL pg Z Z g7 (fun _=>Z)) (gN Z q9 (fa jI Z) (gN Z q9 (lf (I ((J events s4).Index)) Ju Z) (gN Z q9 mv (gN Z q9 (Je.ieq Z Z) (oN (Je.pickT Z q9 (Bo (((J events s4).Index)==index)) Z) ?_)))))))
    cases h
    exact js8 _ _ (kw Z Z)
   ·refine gS Z q9 (gS Z q9 (gS Z q9 (gS Z q9 (gS Z q9 (gS Z q9 (gS Z q9 (oN (Je.pickF Z q9 (Bo false) Z) ?_)))))))
    cases h
    exact js8 _ _ (kw Z Z)
   ·refine TO.nil ?_;refine T.ifH Z h (fun q10 h=>?_) (fun q10 h=>?_)
    ·refine T.sr (oN mv (oN as' (TO.nil (T.ret (lX h fun h=>?_)))));obtain rfl:=Jg h;replace h:=congrArg some (show _=_ from ks1)
     cases h
     exact fB Z Z Z
    ·refine T.skip (T.region (oN mv (jW h fun g11 h=>oN (Je.add Z Z g11) (oN as' (TO.nil ?_)))));exact lE h (kw Z Z)
  ·refine T.exit (lX h fun h=>?_)
   cases h
   exact ⟨(),(),ks1,trivial,kw Z Z⟩
theorem ul (r_:LI) (i:Int) (k_:Int) {q:Bool} (h:ma r_ i k_=some q):aJ Tryz.prog 94 [eL cI r_,I i,I k_] (Bo q):=by
 refine pM Tryz.func94 Z (by kernel_rfl) Z (T.sr (oN as' (TO.nil (T.sr (oN mv (oN mv (jD h fun g1 h=>oN (Je.ixL bh Z Z g1 (fun _=>Z)) (oN (lf (I (J r_ i)) Ju Z) (oN mv (jD h fun g2 h=>oN (Je.shr Z Z g2) (oN (Je.band Z Z) (oN (Je.ieq Z Z) (oN as' ?_)))))))))))));refine TO.nil (T.ret ?_)
 cases h
 exact fB Z Z Z
theorem qp (before:LI) (done:Int) (k_:Int) {q:Bool} (h:gM before done k_=some q):aJ Tryz.prog 55 [eL cI before,I done,I k_] (Bo q):=by
 refine pM Tryz.func55 Z (by kernel_rfl) Z (T.sr (oN as' (TO.nil ?_)));obtain ⟨Ks1,es1,ws1,h,ks1⟩:=sumL h;refine T.join (S:=Unit) (G:=Unit) (fun s1=>Ks1 s1=some q) (fun s1 gh=>True) (fun s1 gh=>[]) (fun s1 gh=>[]) (fun s1 gh h hg=>?_) ?_
 ·clear ks1;subst es1;refine T.sr (oN as' (TO.nil (T.ret ?_)))
  cases h
  exact fB Z Z Z
 ·refine T.sr (oN as' (TO.nil (T.block ?_)));refine T.lU h (fun s4=>[(7,I s4),(0,eL cI before),(1,I done),(2,I k_)]) (fun s4=>[]) (kw Z Z) (fun s4 ws4 h=>?_);refine T.seq (T.sr (oN mv (oN mv (oN (Je.lenL bh Z) (oN (Je.ilt Z Z) (TO.nil ?_))))));refine T.ifH Z h (fun q6 h=>?_) (fun q6 h=>?_)
  ·refine T.skip (T.seq (T.block (T.sr (oN mv (oN mv (oN mv (oC h (fun _=>ul _ _ _) Z Z Z Z fun v7 _ h=>oN mv ?_)))))));refine TO.jB h 6 (fun s8=>[(24,Bo s8),(7,I s4),(0,eL cI before),(1,I done),(2,I k_)]) (fun s8=>[]) (fun s8 q9 h js8=>?_) (fun s8 q9 h js8=>?_) (fun s8 h=>?_)
   ·refine gN Z q9 mv (gN Z q9 mv (jD h fun g10 h=>gN Z q9 (Je.shr Z Z g10) (gN Z q9 (Je.band Z Z) (gN Z q9 (Je.ieq Z Z) (oN (Je.pickT Z q9 (Bo ((GY .i64 (GH .i64 done s4) V)==U)) Z) ?_)))))
    cases h
    exact js8 _ _ (kw Z Z)
   ·refine gS Z q9 (gS Z q9 (gS Z q9 (gS Z q9 (gS Z q9 (oN (Je.pickF Z q9 (Bo false) Z) ?_)))))
    cases h
    exact js8 _ _ (kw Z Z)
   ·refine TO.nil ?_;refine T.ifH Z h (fun q11 h=>?_) (fun q11 h=>?_)
    ·refine T.sr (oN as' (TO.nil (T.ret (lX h fun h=>?_))));obtain rfl:=Jg h;replace h:=congrArg some (show _=_ from ks1)
     cases h
     exact fB Z Z Z
    ·refine T.skip (T.region (oN mv (jW h fun g12 h=>oN (Je.add Z Z g12) (oN as' (TO.nil ?_)))));exact lE h (kw Z Z)
  ·refine T.exit (lX h fun h=>?_)
   cases h
   exact ⟨(),(),ks1,trivial,kw Z Z⟩
set_option maxHeartbeats 4000000 in
theorem qV (p:List (List Jh)) (before:LI) {q:(LI)×Bool} (h:cK p before=some q):aJ Tryz.prog 27 [eL (cL Jh.c) p,eL cI before] (.tup [eL cI q.1,Bo q.2]):=by
 refine pM Tryz.func27 Z (by kernel_rfl) Z (T.sr (oN as' (oN as' (TO.nil (T.sr (oN mv (oC h (fun _=>iA _) Z Z Z Z fun v1 _ h=>oN as' (TO.nil (T.sr (oN mv (oN (Je.lenL tT Z) (jD h fun g2 h=>oA (EvA.mkN (c:=cI) (default:Int) bh Z Z g2 Z Z Z) (oN (Je.asg (hS false 0 0 1 ((List.replicate (p.length:Int).toNat (default:Int)).length)) Z) ?_)))))))))))));refine TO.nil (T.sr (oC h (fun _=>tL _) Z Z Z Z fun v3 _ h=>oN as' (TO.nil (T.sr (oA (EvA.mkO (c:=cI) ([]:LI) [] bh Z Z Z (fun _=>Z) Z Z) (oN (Je.asg (hS false 1 0 1 (([]:LI).length)) Z) (TO.nil (T.sr (oN as' (TO.nil ?_))))))))));refine T.jF (G:=Nat×Nat) h (fun s4 gh=>True) (fun s4 gh=>[(9,hS false 1 gh.2 1 s4.2.length),(7,hS false 0 gh.1 1 s4.1.length),(0,eL (cL Jh.c) p)]) (fun s4 gh=>[bE false gh.1 1 3 (s4.1.map cI),bE false gh.2 1 3 (s4.2.map cI)]) (fun s4 gh h hg=>?_) (fun s4 h=>?_)
 ·obtain ⟨u42,u43⟩:=gh;obtain ⟨Ks44,es44,ws44,h,ks44⟩:=sumL h;refine T.join (S:=Unit) (G:=Unit) (fun s44=>Ks44 s44=some q) (fun s44 gh=>True) (fun s44 gh=>[(9,hS false 1 u43 1 s4.2.length)]) (fun s44 gh=>[bE false u42 1 3 (s4.1.map cI),bE false u43 1 3 (s4.2.map cI)]) (fun s44 gh h hg=>?_) ?_
  ·clear ks44;subst es44;refine T.sr (oN mv (oN (Je.asg (hS false 1 u43 1 s4.2.length) Z) (oN as' (TO.nil (T.ret ?_)))));obtain rfl:=Jg h
   repeat (first|refine kP ?_|refine kQ ?_)
   exact Fin.ret (vs:=[hS false 1 u43 1 s4.2.length,Bo true]) (.cons (.tmp Z) (.cons (.tmp Z) .nil)) (.tupL (.cons (Fz.own (g:=false) (ver:=u43) (l:=s4.2) Z Z Z nofun (fun _=>Z)) (.cons (.of_isF 9 _ Z) .nil)))
  ·refine T.sr (oN as' (TO.nil (T.block ?_)));refine T.lU h (fun s47=>[(13,I s47),(9,hS false 1 u43 1 s4.2.length),(7,hS false 0 u42 1 s4.1.length),(0,eL (cL Jh.c) p)]) (fun s47=>[bE false u42 1 3 (s4.1.map cI),bE false u43 1 3 (s4.2.map cI)]) (kw Z Z) (fun s47 ws47 h=>?_);refine T.seq (T.sr (oN mv (oN mv (oN (Je.lenL tT Z) (oN (Je.ilt Z Z) (TO.nil ?_))))));refine T.ifH Z h (fun q49 h=>?_) (fun q49 h=>?_)
   ·refine T.skip (T.seq (T.block (T.seq (T.drawF (fun i=>[([],false),([],false),([],false),([0],false),([],false),([],false),([],false),([],false),([],false),([],false)].getD i ([],false)) (by kernel_rfl) (by kernel_rfl) (fN Z mv (fN Z mv (jD h fun g50 h=>fN Z (Je.ixO (g:=false) bh Z Z nofun g50) (fR [0] Z (fun G hG=>EvA.ldO (g:=false) (l:=s4.1) (I (J s4.1 s47)) Ju Z (hG.a0 Z) nofun (aX Z g50) Z) (fN Z mv (fN Z mv (jD h fun g51 h=>fN Z (Je.ixL tT Z Z g51 (fun _=>Z)) (fN Z (lf (eL Jh.c (J p s47)) Bc Z) (fN Z (Je.lenL yZ Z) ?_)))))))))))));refine fN Z (Je.ilt Z Z) (TF.nil ?_);refine T.ifH Z h (fun q52 h=>?_) (fun q52 h=>?_)
    ·refine T.seq (T.clean (H0:=[bE false u42 1 3 (s4.1.map cI),bE false u43 1 3 (s4.2.map cI)]) (e0:=ae []) Z Jc (T.region (oN (Je.mkF (c:=cI) ([]:LI) [] bh Z Z Z (fun _=>Z) (fun _=>Z) Z) (oN as' (oN as' (TO.nil (T.ret (lX h fun h=>?_))))))));obtain rfl:=Jg h;replace h:=congrArg some (show _=_ from ks44);obtain rfl:=Jg h
     repeat (first|refine kP ?_|refine kQ ?_)
     exact Fin.ret (vs:=[eL cI ([]:LI),Bo false]) (.cons (.tmp Z) (.cons (.tmp Z) .nil)) (.tupL (.cons (.of_isF 9 _ Z) (.cons (.of_isF 9 _ Z) .nil)))
    ·refine T.skip (T.region (oN mv (jW h fun g53 h=>oN (Je.add Z Z g53) (oN as' (TO.nil ?_)))));exact lE h (kw Z Z)
   ·refine T.exit (lX h fun h=>?_)
    cases h
    exact ⟨(),(),ks44,trivial,kw Z Z⟩
 ·refine T.block ?_;refine T.loop (S:=(LI)×(LI)×Bool×Int) (G:=Nat×Nat) (gQ p before v1) (fun s9 gh=>True) (fun s9 gh=>[(10,Bo s9.2.2.1),(9,hS false 1 gh.2 1 s9.2.1.length),(8,I s9.2.2.2),(7,hS false 0 gh.1 1 s9.1.length),(6,eL Jj.c v1),(0,eL (cL Jh.c) p),(1,eL cI before)]) (fun s9 gh=>[bE false gh.1 1 3 (s9.1.map cI),bE false gh.2 1 3 (s9.2.1.map cI)]) (s0:=((List.replicate (p.length:Int).toNat (default:Int)),([]:LI),true,v3)) (0,0) h trivial (kw Z Z) (fun s9 gh ws9 h hg=>?_);obtain ⟨u11,u12⟩:=gh;refine T.seq (T.sr (oN mv (TO.nil ?_)));refine T.ifH Z h (fun q13 h=>?_) (fun q13 h=>?_)
  ·refine T.skip (T.block (T.sr (oN as' (TO.nil (T.sr (oN as' (TO.nil (T.block ?_))))))));refine T.loop (S:=(LI)×(LI)×Int×Bool×Int) (G:=Nat×Nat) (gP p before v1) (fun s18 gh=>True) (fun s18 gh=>[(11,I s18.2.2.1),(10,Bo s18.2.2.2.1),(9,hS false 1 gh.2 1 s18.2.1.length),(8,I s18.2.2.2.2),(7,hS false 0 gh.1 1 s18.1.length),(6,eL Jj.c v1),(0,eL (cL Jh.c) p),(1,eL cI before)]) (fun s18 gh=>[bE false gh.1 1 3 (s18.1.map cI),bE false gh.2 1 3 (s18.2.1.map cI)]) (s0:=(s9.1,s9.2.1,U,false,s9.2.2.2)) (u11,u12) h trivial (kw Z Z) (fun s18 gh ws18 h hg=>?_);let d0:=s18.1.getD s18.2.2.1.toNat default;obtain ⟨u20,u21⟩:=gh;refine T.seq (T.sr (oN mv (oN mv (oN (Je.lenL tT Z) (oN (Je.ilt Z Z) (oN mv ?_))))));refine TO.jB h 3 (fun s22=>[(29,Bo s22),(11,I s18.2.2.1),(10,Bo s18.2.2.2.1),(9,hS false 1 u21 1 s18.2.1.length),(8,I s18.2.2.2.2),(7,hS false 0 u20 1 s18.1.length),(6,eL Jj.c v1),(0,eL (cL Jh.c) p),(1,eL cI before)]) (fun s22=>[bE false u20 1 3 (s18.1.map cI),bE false u21 1 3 (s18.2.1.map cI)]) (fun s22 q23 h js22=>?_) (fun s22 q23 h js22=>?_) (fun s22 h=>?_)
   ·refine gN Z q23 mv (gN Z q23 (Je.not Z) (oN (Je.pickT Z q23 (Bo (!s18.2.2.2.1)) Z) ?_))
    cases h
    exact js22 _ _ (kw Z Z)
   ·refine gS Z q23 (gS Z q23 (oN (Je.pickF Z q23 (Bo false) Z) ?_))
    cases h
    exact js22 _ _ (kw Z Z)
   ·refine TO.nil ?_;refine T.ifH Z h (fun q24 h=>?_) (fun q24 h=>?_)
    ·refine T.skip ?_;refine T.jF (G:=Nat×Nat) h (fun s25 gh=>True) (fun s25 gh=>[(11,I s18.2.2.1),(10,Bo s25.2.2.1),(9,hS false 1 gh.2 1 s25.2.1.length),(8,I s25.2.2.2),(7,hS false 0 gh.1 1 s25.1.length),(6,eL Jj.c v1),(0,eL (cL Jh.c) p),(1,eL cI before)]) (fun s25 gh=>[bE false gh.1 1 3 (s25.1.map cI),bE false gh.2 1 3 (s25.2.1.map cI)]) (fun s25 gh h hg=>?_) (fun s25 h=>?_)
     ·obtain ⟨u39,u40⟩:=gh;refine T.region (oN mv (jW h fun g41 h=>oN (Je.add Z Z g41) (oN as' (TO.nil ?_))));obtain rfl:=Jg h;exact ⟨(s25.1,s25.2.1,(s18.2.2.1+V),s25.2.2.1,s25.2.2.2),(u39,u40),Z,trivial,kw Z Z⟩
     ·refine T.block (T.seq (T.seq (T.drawF (fun i=>[([],false),([],false),([],false),([0],false),([],false),([],false),([],false),([],false),([],false),([],false)].getD i ([],false)) (by kernel_rfl) (by kernel_rfl) (fN Z mv (fN Z mv (jD h fun g26 h=>fN Z (Je.ixO (g:=false) bh Z Z nofun g26) (fR [0] Z (fun G hG=>EvA.ldO (g:=false) (l:=s18.1) (I d0) Ju Z (hG.a0 Z) nofun (aX Z g26) Z) (fN Z mv (fN Z mv (jD h fun g27 h=>fN Z (Je.ixL tT Z Z g27 (fun _=>Z)) (fN Z (lf (eL Jh.c (J p s18.2.2.1)) Bc Z) (fN Z (Je.lenL yZ Z) (fN Z (Je.ieq Z Z) ?_)))))))))))));refine TF.nil ?_;refine T.ifH Z h (fun q28 h=>?_) (fun q28 h=>?_)
      ·refine T.exit ?_
       cases h
       exact ⟨(u20,u21),trivial,kw Z Z⟩
      ·refine T.skip (T.sr (oN mv (oN mv (oN mv (oN mv (oN (Je.ixO (g:=false) bh Z Z nofun g26) (oA (EvA.ldO (g:=false) (l:=s18.1) (I d0) Ju Z Z nofun (aX Z g26) Z) (oC h (fun _=>qo _ _ _) Z Z Z Z fun v29 _ h=>oN as' (TO.nil (T.seq (T.seq (T.clean (H0:=[bE false u20 1 3 (s18.1.map cI),bE false u21 1 3 (s18.2.1.map cI)]) (e0:=ae [(12,I v29),(11,I s18.2.2.1),(10,Bo s18.2.2.2.1),(9,hS false 1 u21 1 s18.2.1.length),(8,I s18.2.2.2.2),(7,hS false 0 u20 1 s18.1.length),(6,eL Jj.c v1),(0,eL (cL Jh.c) p),(1,eL cI before)]) Z (Jd Z (Jd Z (Jd Z (Jd Z (Jd Z (Jd Z (Jd Z (Jd Z (Jd Z Jc))))))))) (T.region (oN mv ?_))))))))))))));refine oN (Je.ige Z Z) (oN mv ?_);refine TO.jB h 6 (fun s30=>[(57,Bo s30),(12,I v29),(11,I s18.2.2.1),(10,Bo s18.2.2.2.1),(9,hS false 1 u21 1 s18.2.1.length),(8,I s18.2.2.2.2),(7,hS false 0 u20 1 s18.1.length),(6,eL Jj.c v1),(0,eL (cL Jh.c) p),(1,eL cI before)]) (fun s30=>[bE false u20 1 3 (s18.1.map cI),bE false u21 1 3 (s18.2.1.map cI)]) (fun s30 q31 h js30=>?_) (fun s30 q31 h js30=>?_) (fun s30 h=>?_)
       ·refine gN Z q31 mv (gN Z q31 mv (gN Z q31 mv (jB h fun v32 cv32 h=>gN Z q31 (Je.call Z Z Z (qp before s18.2.2.2.2 v29 cv32) Z) (gN Z q31 (Je.not Z) (oN (Je.pickT Z q31 (Bo (!v32)) Z) ?_)))))
        cases h
        exact js30 _ _ (kw Z Z)
       ·refine gS Z q31 (gS Z q31 (gS Z q31 (gS Z q31 (gS Z q31 (oN (Je.pickF Z q31 (Bo false) Z) ?_)))))
        cases h
        exact js30 _ _ (kw Z Z)
       ·refine TO.nil ?_;refine T.ifH Z h (fun q33 h=>?_) (fun q33 h=>?_)
        ·refine T.exit ?_
         cases h
         exact ⟨(u20,u21),trivial,kw Z Z⟩
        ·refine T.skip ?_;refine T.jU h (fun s34=>[(8,I s34),(11,I s18.2.2.1),(9,hS false 1 u21 1 s18.2.1.length),(7,hS false 0 u20 1 s18.1.length),(6,eL Jj.c v1),(0,eL (cL Jh.c) p),(1,eL cI before)]) (fun s34=>[bE false u20 1 3 (s18.1.map cI),bE false u21 1 3 (s18.2.1.map cI)]) (fun s34 h=>?_) (fun s34 h=>?_)
         ·refine T.sr (oN mv (oN mv (oN mv (oN mv (oN (Je.ixO (g:=false) bh Z Z nofun g26) (oA (EvA.ldO (g:=false) (l:=s18.1) (I d0) Ju Z Z nofun (aX Z g26) Z) (jW h fun g37 h=>oN (Je.add Z Z g37) (oN (Je.ixO (g:=false) bh Z Z nofun g26) (oV (EvA.stO (g:=false) (l:=s18.1) (cs:=[I (d0+V)]) (d0+V) Ju Z Z Z nofun (aX Z g26) Z Z Z) (TO.nil (T.sr (oN mv (oN mv (oN (Je.mkF (c:=cI) ([s18.2.2.1]:LI) [[I s18.2.2.1]] bh Z Z Z (fun _=>Z) (fun _=>Z) Z) ?_))))))))))))));refine jL h fun g38 h=>oA (EvA.app1 (g:=false) (l:=s18.2.1) s18.2.2.1 bh (by kernel_rfl) Z Z Z nofun (aI.fz (l:=([s18.2.2.1]:LI)) Z (fun _=>Z)) g38) (oN (Je.asg (hS false 1 (u21+1) 1 ((s18.2.1++[s18.2.2.1]).length)) Z) (TO.nil (T.region (oN as' (TO.nil ?_)))));obtain rfl:=Jg h;exact ⟨(u20,u21+1),trivial,Ec Z (Jd Z (Jd Z (Jd Z (Jd Z (Jd (congrArg (hS false 0 u20 1) (by simp:s18.1.length=(s18.1.set s18.2.2.1.toNat (d0+(1:Int))).length)) (Jd Z (Jd Z (Jd Z Jc))))))))⟩
         ·refine T.sr (oN mv (oN (Je.ige Z Z) (TO.nil ?_)));refine T.ifH Z h (fun q35 h=>?_) (fun q35 h=>?_)
          ·refine T.region (oN mv (oN mv (jD h fun g36 h=>oN (Je.shl Z Z g36) (oN (Je.bor Z Z) (oN as' (TO.nil ?_))))))
           cases h
           exact ⟨(),trivial,kw Z Z⟩
          ·refine T.skip ?_
           cases h
           exact ⟨(),trivial,kw Z Z⟩
    ·refine T.exit (lX h fun h=>?_);obtain rfl:=Jg h;exact ⟨(s18.1,s18.2.1,s18.2.2.2.1,s18.2.2.2.2),(u20,u21),Z,trivial,kw Z Z⟩
  ·refine T.exit (lX h fun h=>?_)
   cases h
   exact ⟨(u11,u12),trivial,kw Z Z⟩
theorem mr (a:LI) (b:LI) {q:Int} (h:gT a b=some q):aJ Tryz.prog 96 [eL cI a,eL cI b] (I q):=by
 refine pM Tryz.func96 Z (by kernel_rfl) Z (T.sr (oN as' (TO.nil ?_)));obtain ⟨Ks1,es1,ws1,h,ks1⟩:=sumL h;refine T.join (S:=Unit) (G:=Unit) (fun s1=>Ks1 s1=some q) (fun s1 gh=>True) (fun s1 gh=>[]) (fun s1 gh=>[]) (fun s1 gh h hg=>?_) ?_
 ·clear ks1;subst es1;refine T.sr (oN as' (TO.nil (T.ret ?_)))
  cases h
  exact fB Z Z Z
 ·refine T.sr (oN as' (TO.nil (T.block ?_)));refine T.lU h (fun s4=>[(5,I s4),(0,eL cI a),(1,eL cI b)]) (fun s4=>[]) (kw Z Z) (fun s4 ws4 h=>?_);refine T.seq (T.sr (oN mv (oN mv (oN (Je.lenL bh Z) (oN (Je.ilt Z Z) (oN mv ?_))))));refine TO.jB h 5 (fun s6=>[(15,Bo s6),(5,I s4),(0,eL cI a),(1,eL cI b)]) (fun s6=>[]) (fun s6 q7 h js6=>?_) (fun s6 q7 h js6=>?_) (fun s6 h=>?_)
  ·refine gN Z q7 mv (gN Z q7 mv (gN Z q7 (Je.lenL bh Z) (gN Z q7 (Je.ilt Z Z) (oN (Je.pickT Z q7 (Bo (decide (s4<(b.length:Int)))) Z) ?_))))
   cases h
   exact js6 _ _ (kw Z Z)
  ·refine gS Z q7 (gS Z q7 (gS Z q7 (gS Z q7 (oN (Je.pickF Z q7 (Bo false) Z) ?_))))
   cases h
   exact js6 _ _ (kw Z Z)
  ·refine TO.nil ?_;refine T.ifH Z h (fun q8 h=>?_) (fun q8 h=>?_)
   ·refine T.skip (T.seq (T.block (T.seq (T.seq (T.drawF (fun _=>([],false)) (by kernel_rfl) (by kernel_rfl) (fN Z mv (fN Z mv (jD h fun g9 h=>fN Z (Je.ixL bh Z Z g9 (fun _=>Z)) (fN Z (lf (I (J a s4)) Ju Z) (fN Z mv (fN Z mv (jD h fun g10 h=>fN Z (Je.ixL bh Z Z g10 (fun _=>Z)) (fN Z (lf (I (J b s4)) Ju Z) ?_)))))))))))));refine fN Z (Je.ilt Z Z) (TF.nil ?_);refine T.ifH Z h (fun q11 h=>?_) (fun q11 h=>?_)
    ·refine T.sr (oN as' (TO.nil (T.ret (lX h fun h=>?_))));obtain rfl:=Jg h;replace h:=congrArg some (show _=_ from ks1)
     cases h
     exact fB Z Z Z
    ·refine T.skip (T.seq (T.drawF (fun _=>([],false)) (by kernel_rfl) (by kernel_rfl) (fN Z mv (fN Z mv (fN Z (Je.ixL bh Z Z g9 (fun _=>Z)) (fN Z (lf (I (J a s4)) Ju Z) (fN Z mv (fN Z mv (fN Z (Je.ixL bh Z Z g10 (fun _=>Z)) (fN Z (lf (I (J b s4)) Ju Z) (fN Z (Je.igt Z Z) (TF.nil ?_))))))))))));refine T.ifH Z h (fun q12 h=>?_) (fun q12 h=>?_)
     ·refine T.seq (T.clean (H0:=[]) (e0:=ae []) Z Jc (T.region (oN as' (TO.nil (T.ret (lX h fun h=>?_))))));obtain rfl:=Jg h;replace h:=congrArg some (show _=_ from ks1)
      cases h
      exact fB Z Z Z
     ·refine T.skip (T.clean (H0:=[]) (e0:=ae [(5,I s4),(0,eL cI a),(1,eL cI b)]) Z (Jd Z (Jd Z (Jd Z Jc))) (T.region (oN mv (jW h fun g13 h=>oN (Je.add Z Z g13) (oN as' (TO.nil ?_))))));exact lE h (kw Z Z)
   ·refine T.exit (lX h fun h=>?_)
    cases h
    exact ⟨(),(),ks1,trivial,kw Z Z⟩
theorem um (list:LL) (o_:LI) {q:(LL)} (h:j3 list o_=some q):aJ Tryz.prog 58 [eL (cL cI) list,eL cI o_] (eL (cL cI) q):=by
 refine pM Tryz.func58 Z (by kernel_rfl) Z (T.sr (oN as' (TO.nil (T.sr (oN as' (TO.nil ?_))))));refine T.jU h (fun s1=>[(5,I s1),(0,eL (cL cI) list),(1,eL cI o_)]) (fun s1=>[]) (fun s1 h=>?_) (fun s1 h=>?_)
 ·refine T.seq (T.sr (oN mv (oN mv (oN (Je.lenL bR Z) (oN (Je.ilt Z Z) (oN mv ?_))))));refine TO.jB h 8 (fun s12=>[(34,Bo s12),(5,I s1),(0,eL (cL cI) list),(1,eL cI o_)]) (fun s12=>[]) (fun s12 q13 h js12=>?_) (fun s12 q13 h js12=>?_) (fun s12 h=>?_)
  ·refine gN Z q13 mv (gN Z q13 mv (jD h fun g14 h=>gN Z q13 (Je.ixL bR Z Z g14 (fun _=>Z)) (gN Z q13 (lf (eL cI (J list s1)) jm Z) (gN Z q13 mv (jB h fun v15 cv15 h=>gN Z q13 (Je.call Z Z Z (mr (J list s1) o_ cv15) Z) (gN Z q13 (Je.ieq Z Z) (oN (Je.pickT Z q13 (Bo (v15==U)) Z) ?_)))))))
   cases h
   exact js12 _ _ (kw Z Z)
  ·refine gS Z q13 (gS Z q13 (gS Z q13 (gS Z q13 (gS Z q13 (gS Z q13 (gS Z q13 (oN (Je.pickF Z q13 (Bo false) Z) ?_)))))))
   cases h
   exact js12 _ _ (kw Z Z)
  ·refine TO.nil ?_;refine T.ifH Z h (fun q16 h=>?_) (fun q16 h=>?_)
   ·refine T.sr (oN mv (oN as' (TO.nil (T.ret ?_))))
    cases h
    exact fB Z Z Z
   ·refine T.skip (T.sr (oA (EvA.mkO (c:=(cL cI)) ([]:LL) [] bR Z Z Z (fun _=>Z) Z Z) (oN mv (oN mv (jD h fun g17 h=>oN (Je.slL bR Z .no (.yes Z) g17 (fun _=>Z)) (jL h fun g18 h=>oA (EvA.appF (l:=([]:LL)) ((list.drop U.toNat).take (s1.toNat-U.toNat)) bR (by kernel_rfl) Z Z Z (aI.fz (l:=((list.drop U.toNat).take (s1.toNat-U.toNat))) Z (fun _=>Z)) g18) (oN (Je.asg (hS false 0 (0+1) 1 ((([]:LL)++((list.drop U.toNat).take (s1.toNat-U.toNat))).length)) Z) (TO.nil (T.sr (oN mv (oN mv (oN (Je.mkF (c:=(cL cI)) ([o_]:LL) [[eL cI o_]] bR Z Z Z (fun _=>Z) (fun _=>Z) Z) (jL h fun g19 h=>?_)))))))))))));refine oA (EvA.app1 (g:=false) (l:=(([]:LL)++((list.drop U.toNat).take (s1.toNat-U.toNat)))) o_ bR (by kernel_rfl) Z Z Z nofun (aI.fz (l:=([o_]:LL)) Z (fun _=>Z)) g19) (oN (Je.asg (hS false 0 ((0+1)+1) 1 (((([]:LL)++((list.drop U.toNat).take (s1.toNat-U.toNat)))++[o_]).length)) Z) (TO.nil (T.sr (oN mv (oN mv (oN mv (jD h fun g20 h=>oN (Je.slL bR Z (.yes Z) .no g20 (fun _=>Z)) (jL h fun g21 h=>oA (EvA.appF (l:=((([]:LL)++((list.drop U.toNat).take (s1.toNat-U.toNat)))++[o_])) ((list.drop s1.toNat).take ((list.length:Int).toNat-s1.toNat)) bR (by kernel_rfl) Z Z Z (aI.fz (l:=((list.drop s1.toNat).take ((list.length:Int).toNat-s1.toNat))) Z (fun _=>Z)) g21) (oN (Je.asg (hS false 0 (((0+1)+1)+1) 1 ((((([]:LL)++((list.drop U.toNat).take (s1.toNat-U.toNat)))++[o_])++((list.drop s1.toNat).take ((list.length:Int).toNat-s1.toNat))).length)) Z) (TO.nil (T.ret ?_)))))))))));obtain rfl:=Jg h
    repeat (first|refine kP ?_|refine kQ ?_)
    exact Fin.ret (vs:=[hS false 0 (((0+1)+1)+1) 1 ((((([]:LL)++((list.drop U.toNat).take (s1.toNat-U.toNat)))++[o_])++((list.drop s1.toNat).take ((list.length:Int).toNat-s1.toNat))).length)]) (.cons (.tmp Z) .nil) (Fz.own (g:=false) (ver:=((0+1)+1)+1) (l:=(((([]:LL)++((list.drop U.toNat).take (s1.toNat-U.toNat)))++[o_])++((list.drop s1.toNat).take ((list.length:Int).toNat-s1.toNat)))) Z Z Z nofun (fun _=>Z))
 ·refine T.block ?_;refine T.lU h (fun s4=>[(5,I s4),(0,eL (cL cI) list),(1,eL cI o_)]) (fun s4=>[]) (kw Z Z) (fun s4 ws4 h=>?_);refine T.seq (T.sr (oN mv (oN mv (oN (Je.lenL bR Z) (oN (Je.ilt Z Z) (oN mv ?_))))));refine TO.jB h 8 (fun s6=>[(19,Bo s6),(5,I s4),(0,eL (cL cI) list),(1,eL cI o_)]) (fun s6=>[]) (fun s6 q7 h js6=>?_) (fun s6 q7 h js6=>?_) (fun s6 h=>?_)
  ·refine gN Z q7 mv (gN Z q7 mv (jD h fun g8 h=>gN Z q7 (Je.ixL bR Z Z g8 (fun _=>Z)) (gN Z q7 (lf (eL cI (J list s4)) jm Z) (gN Z q7 mv (jB h fun v9 cv9 h=>gN Z q7 (Je.call Z Z Z (mr (J list s4) o_ cv9) Z) (gN Z q7 (Je.ilt Z Z) (oN (Je.pickT Z q7 (Bo (decide (v9<U))) Z) ?_)))))))
   cases h
   exact js6 _ _ (kw Z Z)
  ·refine gS Z q7 (gS Z q7 (gS Z q7 (gS Z q7 (gS Z q7 (gS Z q7 (gS Z q7 (oN (Je.pickF Z q7 (Bo false) Z) ?_)))))))
   cases h
   exact js6 _ _ (kw Z Z)
  ·refine TO.nil ?_;refine T.ifH Z h (fun q10 h=>?_) (fun q10 h=>?_)
   ·refine T.skip (T.block (T.region (oN mv (jW h fun g11 h=>oN (Je.add Z Z g11) (oN as' (TO.nil ?_))))));exact lE h (kw Z Z)
   ·refine T.exit (lX h fun h=>?_)
    cases h
    exact ⟨(),trivial,kw Z Z⟩
theorem tO (list:LL) (s:LI) {q:(LL)} (h:lg list s=some q):aJ Tryz.prog 29 [eL (cL cI) list,eL cI s] (eL (cL cI) q):=by
 refine pM Tryz.func29 Z (by kernel_rfl) Z (T.sr (oN as' (TO.nil (T.sr (oN mv (oN mv (oC h (fun _=>um _ _) Z Z Z Z fun v1 _ h=>oN as' (TO.nil (T.ret ?_)))))))))
 cases h
 exact fB Z Z Z
theorem o7 (p:List (List Jh)) {q:(LL)} (h:bD p=some q):aJ Tryz.prog 7 [eL (cL Jh.c) p] (eL (cL cI) q):=by
 refine pM Tryz.func7 Z (by kernel_rfl) Z (T.sr (oN as' (TO.nil (T.sr (oN (Je.mkF (c:=(cL cI)) ([]:LL) [] bR Z Z Z (fun _=>Z) (fun _=>Z) Z) (oN as' (TO.nil (T.sr (oN mv (oC h (fun _=>qm _) Z Z Z Z fun v1 _ h=>oN as' (TO.nil ?_)))))))))));refine T.jU h (fun s2=>[(3,eL (cL cI) s2)]) (fun s2=>[]) (fun s2 h=>?_) (fun s2 h=>?_)
 ·refine T.sr (oN mv (oN as' (TO.nil (T.ret ?_))))
  cases h
  exact fB Z Z Z
 ·refine T.sr (oN as' (TO.nil (T.block ?_)));refine T.lU h (fun s5=>[(5,I s5.1),(4,eL Ji.c v1),(3,eL (cL cI) s5.2),(0,eL (cL Jh.c) p)]) (fun s5=>[]) (kw Z Z) (fun s5 ws5 h=>?_);refine T.seq (T.sr (oN mv (oN mv (oN (Je.lenL DW Z) (oN (Je.ilt Z Z) (TO.nil ?_))))));refine T.ifH Z h (fun q7 h=>?_) (fun q7 h=>?_)
  ·refine T.skip ?_;refine T.jU h (fun s8=>[(3,eL (cL cI) s8),(5,I s5.1),(4,eL Ji.c v1),(0,eL (cL Jh.c) p)]) (fun s8=>[]) (fun s8 h=>?_) (fun s8 h=>?_)
   ·refine T.region (oN mv (jW h fun g14 h=>oN (Je.add Z Z g14) (oN as' (TO.nil ?_))));exact lE h (kw Z Z)
   ·refine T.block (T.sr (oN mv (oN mv (oN mv (oN mv (jD h fun g9 h=>oN (Je.ixL DW Z Z g9 (fun _=>Z)) (oN (lf (.agg (Ji.c (J v1 s5.1))) tQ Z) (oC h (fun _=>o6 _ _) Z Z Z Z fun v10 _ h=>oC h (fun _=>qV _ _) Z Z Z Z fun v11 _ h=>oN mv (oN (Je.ext (eL cI v11.1) Z Z) (oN (Je.ext (Bo v11.2) Z Z) (oN as' (oN as' ?_))))))))))));refine TO.nil (T.sr (oN mv (TO.nil ?_)));refine T.ifH Z h (fun q12 h=>?_) (fun q12 h=>?_)
    ·refine T.clean (H0:=[]) (e0:=ae [(6,eL cI v11.1),(5,I s5.1),(4,eL Ji.c v1),(3,eL (cL cI) s5.2),(0,eL (cL Jh.c) p)]) Z (Jd Z (Jd Z (Jd Z (Jd Z (Jd Z Jc))))) (T.region (oN mv (oN mv (oC h (fun _=>tO _ _) Z Z Z Z fun v13 _ h=>oN as' (TO.nil ?_)))))
     cases h
     exact ⟨(),trivial,kw Z Z⟩
    ·refine T.skip ?_
     cases h
     exact ⟨(),trivial,kw Z Z⟩
  ·refine T.exit (lX h fun h=>?_)
   cases h
   exact ⟨(),trivial,kw Z Z⟩
end
end Go.Proofs.YtlmjnhnpahicmaaGreat
