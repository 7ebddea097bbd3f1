/-
 The program's code computes the functions over plain values; printed by lift.py. No conditions.
-/
import Derived.Test.YtlgfihlflchhgaaSMd
import Derived.Test.YtlgfihlflchhgaaSf
import Derived.Test.YtlgfihlflchhgaaGH
import Derived.Test.YtlgfihlflchhgaaL28
import Derived.Test.YtlgfihlflchhgaaBrV
import Derived.Test.YtlgfihlflchhgaaSrW
namespace Go.Proofs.Ytlgfihlflchhgaa
open Go.RowKit
set_option maxRecDepth 100000
theorem F_impl_newSeq_P (p:List (List ZIn)) {q:ZSq} (h:F_impl_newSeq p=some q):PCall Try.prog 27 [eL (cL ZIn.c) p] (.ifc 75 (.fp (ZSq.c q) 0)):=by
 refine pM Try.func27 rfl (by kernel_rfl) rfl (T.sr (oN as' (TO.nil (T.sr (oN mv (oN (EvN.build [eL (cL ZIn.c) p,Y (0:Int),Y (0:Int),Y (0:Int),Y (0:Int),Y (0:Int),Y (0:Int),Y (0:Int),Y (0:Int),Y (0:Int),Y (0:Int),Y (0:Int),Y (0:Int),Y (0:Int),Y (0:Int),Y (0:Int)] Try.underlying79 zs79 fs79 rfl rfl) (oN (EvN.build [eL (cL ZIn.c) p,Y (0:Int),Y (0:Int),Y (0:Int),Y (0:Int),Y (0:Int),Y (0:Int),Y (0:Int),Y (0:Int),Y (0:Int),Y (0:Int),Y (0:Int),Y (0:Int),Y (0:Int),Y (0:Int),Y (0:Int)] Try.underlying81 zs81 fs81 rfl rfl) (oN (EvN.bxF [eL (cL ZIn.c) p,Y (0:Int),Y (0:Int),Y (0:Int),Y (0:Int),Y (0:Int),Y (0:Int),Y (0:Int),Y (0:Int),Y (0:Int),Y (0:Int),Y (0:Int),Y (0:Int),Y (0:Int),Y (0:Int),Y (0:Int)] rfl rfl rfl) (oN (EvN.mkifc (.fp (ZSq.c (⟨(⟨p,(⟨(0:Int),(0:Int),(0:Int)⟩:Z3b),(⟨(⟨(0:Int),(0:Int),(0:Int)⟩:Z3b),(⟨(0:Int),(0:Int),(0:Int)⟩:Z3b),(⟨(0:Int),(0:Int),(0:Int)⟩:Z3b)⟩:Z33),(⟨(0:Int),(0:Int),(0:Int)⟩:Z3b)⟩:ZVa)⟩:ZSq)) 0) Try.underlying75 (fun _ h=>nomatch h) rfl) (oN as' (TO.nil (T.ret ?_))))))))))))
 obtain rfl:=osj h
 exact finR rfl rfl rfl
set_option maxHeartbeats 4000000 in
theorem F_impl_values_text_P (v:ZVa) {q:ByteArray} (h:F_impl_values_text v=some q):PCall Try.prog 114 [.fp (ZVa.c v) 0] (St q):=by
 refine pM Try.func114 rfl (by kernel_rfl) rfl (T.sr (oN as' (TO.nil (T.sr (oA (EvA.mkO (c:=cY) ([]:List Int) [] sl22 rfl rfl rfl (fun _=>rfl) rfl rfl) (oN mv (oN (nl rfl) (oN (EvN.fafpS 3 Try.underlying79 rfl (by kernel_rfl) rfl rfl (row2:=Z3b.c v.pc)) (oN (EvN.slA ([v.pc.x0,v.pc.x1,v.pc.x2]:List Int) Try.underlying76 ty5 rfl rfl rfl rfl) (jL h fun g1 h=>oA (EvA.appF (l:=([]:List Int)) ([v.pc.x0,v.pc.x1,v.pc.x2]:List Int) sl22 (by kernel_rfl) rfl rfl rfl (SrcOk.fz (l:=([v.pc.x0,v.pc.x1,v.pc.x2]:List Int)) rfl (fun _=>rfl)) g1) (oN (EvN.asg (hS false 0 (0+1) 1 ((([]:List Int)++([v.pc.x0,v.pc.x1,v.pc.x2]:List Int)).length)) rfl) (TO.nil ?_))))))))))))
 refine T.jF (G:=Nat) h (fun s2 gh=>True) (fun s2 gh=>[(3,hS false 0 gh 1 s2.length),(0,.fp (ZVa.c v) 0)]) (fun s2 gh=>[bE false gh 1 5 (s2.map cY)]) (fun s2 u13 h hg => ?_) (fun s2 h => ?_)
 ·refine T.sr (oN mv (oN mv (oN (nl rfl) (oN (EvN.fafpS 3 Try.underlying79 rfl (by kernel_rfl) rfl rfl (row2:=Z3b.c v.mem)) (oN (EvN.slA ([v.mem.x0,v.mem.x1,v.mem.x2]:List Int) Try.underlying76 ty5 rfl rfl rfl rfl) (jL h fun g14 h=>oA (EvA.appF (l:=s2) ([v.mem.x0,v.mem.x1,v.mem.x2]:List Int) sl22 (by kernel_rfl) rfl rfl rfl (SrcOk.fz (l:=([v.mem.x0,v.mem.x1,v.mem.x2]:List Int)) rfl (fun _=>rfl)) g14) (oA (EvA.b2s (l:=(s2++([v.mem.x0,v.mem.x1,v.mem.x2]:List Int))) Try.underlying22 Try.underlying5 Try.underlying9 (slc_hS (g:=false) rfl) (SrcOk.ow (g:=false) (l:=(s2++([v.mem.x0,v.mem.x1,v.mem.x2]:List Int))) rfl rfl rfl nofun)) (oN as' (TO.nil (T.ret ?_))))))))))
  obtain rfl:=osj h
  exact finR rfl rfl rfl
 ·refine T.sr (oN mv (oN (nl rfl) (oN (EvN.fafpS 9 Try.underlying79 rfl (by kernel_rfl) rfl rfl (row2:=Z33.c v.reg)) (oN (lf (.agg (Z33.c v.reg)) ty77 rfl) (oN mv (TO.nil (T.block ?_)))))))
  refine T.loop (S:=(List Int)×Int) (G:=Nat) (F_impl_values_text_L7 v) (fun s6 gh=>True) (fun s6 gh=>[(16,I s6.2),(15,.agg (Z33.c v.reg)),(3,hS false 0 gh 1 s6.1.length),(0,.fp (ZVa.c v) 0)]) (fun s6 gh=>[bE false gh 1 5 (s6.1.map cY)]) (s0:=((([]:List Int)++([v.pc.x0,v.pc.x1,v.pc.x2]:List Int)),(0:Int))) (0+1) h trivial (kw rfl rfl) (fun s6 u8 ws6 h hg => ?_)
  refine T.sr (oN (EvN.ilt rfl rfl) (TO.nil (T.seq ?_)))
  refine T.ifH rfl h (fun q9 h => ?_) (fun q9 h => ?_)
  ·refine T.skip (T.seq (T.block (T.sr (jD h fun g10 h=>oN (EvN.ixag (.agg (Z3b.c (Z33.get v.reg s6.2))) Try.underlying77 ty76 rfl rfl g10 (sel3 (P:=fun (z:Int)=>partV true 3 (Z33.c v.reg) (z.toNat*3)=some (.agg (Z3b.c (Z33.get v.reg z)))) g10 rfl rfl rfl)) (oA (EvA.al zs76 rfl rfl) (oV (sr (Z3b.c (Z33.get v.reg s6.2)) ty76 rfl rfl rfl rfl) (TO.nil (T.region (oN mv (TO.cut (e0:=envOf [(19,hS false 0 u8 1 s6.1.length),(5,.fp (Z3b.c (⟨(Z33.get v.reg s6.2).x0,(Z33.get v.reg s6.2).x1,(Z33.get v.reg s6.2).x2⟩:Z3b)) 0),(16,I s6.2),(15,.agg (Z33.c v.reg)),(0,.fp (ZVa.c v) 0)]) (H0:=[bE false u8 1 5 (s6.1.map cY)]) (cutS rfl (.cons (.list (g:=false) (ver:=u8) (l:=s6.1) (fun _=>rfl)) .nil) (stl_cons (.hS (g:=false) (b:=0) (ver:=u8) (s:=1) (n:=s6.1.length) rfl) (stl_cons (.fz (Fz.fpL (ver:=0) (s:=3) (ty:=76) (rows:=[[Y ((Z33.get v.reg s6.2).x0),Y ((Z33.get v.reg s6.2).x1),Y ((Z33.get v.reg s6.2).x2)]]) rfl rfl rfl (.cons (.of_isF 9 _ rfl) (.cons (.of_isF 9 _ rfl) (.cons (.of_isF 9 _ rfl) .nil))))) (stl_cons (.fz (.of_isF 9 _ rfl)) (stl_cons (.fz (.of_isF 9 _ rfl)) (stl_cons (.fz (.of_isF 9 _ rfl)) stl_nil)))))) (oN (EvN.slA ([(⟨(Z33.get v.reg s6.2).x0,(Z33.get v.reg s6.2).x1,(Z33.get v.reg s6.2).x2⟩:Z3b).x0,(⟨(Z33.get v.reg s6.2).x0,(Z33.get v.reg s6.2).x1,(Z33.get v.reg s6.2).x2⟩:Z3b).x1,(⟨(Z33.get v.reg s6.2).x0,(Z33.get v.reg s6.2).x1,(Z33.get v.reg s6.2).x2⟩:Z3b).x2]:List Int) Try.underlying76 ty5 rfl rfl rfl rfl) (jL h fun g11 h=>oA (EvA.appF (l:=s6.1) ([(⟨(Z33.get v.reg s6.2).x0,(Z33.get v.reg s6.2).x1,(Z33.get v.reg s6.2).x2⟩:Z3b).x0,(⟨(Z33.get v.reg s6.2).x0,(Z33.get v.reg s6.2).x1,(Z33.get v.reg s6.2).x2⟩:Z3b).x1,(⟨(Z33.get v.reg s6.2).x0,(Z33.get v.reg s6.2).x1,(Z33.get v.reg s6.2).x2⟩:Z3b).x2]:List Int) sl22 (by kernel_rfl) rfl rfl rfl (SrcOk.fz (l:=([(⟨(Z33.get v.reg s6.2).x0,(Z33.get v.reg s6.2).x1,(Z33.get v.reg s6.2).x2⟩:Z3b).x0,(⟨(Z33.get v.reg s6.2).x0,(Z33.get v.reg s6.2).x1,(Z33.get v.reg s6.2).x2⟩:Z3b).x1,(⟨(Z33.get v.reg s6.2).x0,(Z33.get v.reg s6.2).x1,(Z33.get v.reg s6.2).x2⟩:Z3b).x2]:List Int)) rfl (fun _=>rfl)) g11) (oN (EvN.asg (hS false 0 (u8+1) 1 ((s6.1++([(⟨(Z33.get v.reg s6.2).x0,(Z33.get v.reg s6.2).x1,(Z33.get v.reg s6.2).x2⟩:Z3b).x0,(⟨(Z33.get v.reg s6.2).x0,(Z33.get v.reg s6.2).x1,(Z33.get v.reg s6.2).x2⟩:Z3b).x1,(⟨(Z33.get v.reg s6.2).x0,(Z33.get v.reg s6.2).x1,(Z33.get v.reg s6.2).x2⟩:Z3b).x2]:List Int)).length)) rfl) ?_)))))))))))))
   refine TO.nil (T.region (jW h fun g12 h=>oN (EvN.add rfl rfl g12) (oN mv (TO.nil ?_))))
   obtain rfl:=osj h
   exact ⟨((s6.1++([(⟨(Z33.get v.reg s6.2).x0,(Z33.get v.reg s6.2).x1,(Z33.get v.reg s6.2).x2⟩:Z3b).x0,(⟨(Z33.get v.reg s6.2).x0,(Z33.get v.reg s6.2).x1,(Z33.get v.reg s6.2).x2⟩:Z3b).x1,(⟨(Z33.get v.reg s6.2).x0,(Z33.get v.reg s6.2).x1,(Z33.get v.reg s6.2).x2⟩:Z3b).x2]:List Int)),(s6.2+(1:Int))),u8+1,rfl,trivial,kw rfl rfl⟩
  ·refine T.exit (lX h fun h => ?_)
   obtain rfl:=osj h
   exact ⟨u8,trivial,kw rfl rfl⟩
theorem F_impl_seq_key_P (s:ZSq) {q:ByteArray} (h:F_impl_seq_key s=some q):PCall Try.prog 109 [.fp (ZSq.c s) 0] (St q):=by
 refine pM Try.func109 rfl (by kernel_rfl) rfl (T.sr (oN as' (TO.nil (T.sr (oN mv (oN (nl rfl) (oN (EvN.fafpS 16 Try.underlying81 rfl (by kernel_rfl) rfl rfl (row2:=ZVa.c s.values)) (oC h (fun _=>F_impl_values_text_P _) rfl rfl rfl rfl fun v1 _ h=>oN as' (TO.nil (T.ret ?_))))))))))
 obtain rfl:=osj h
 exact finR rfl rfl rfl
theorem F_impl_values_next_P (v:ZVa) (t:Int) {q:ZIn×Bool} (h:F_impl_values_next v t=some q):PCall Try.prog 112 [.fp (ZVa.c v) 0,I t] (.tup [.agg (ZIn.c q.1),Bo q.2]):=by
 refine pM Try.func112 rfl (by kernel_rfl) rfl (T.sr (oA (EvA.al zs33 rfl rfl) (oN as' (TO.nil (T.seq (T.seq (T.drawF (fun _=>([],false)) (by kernel_rfl) (by kernel_rfl) (fN rfl mv (fN rfl mv (fN rfl (nl rfl) (fN rfl (EvN.fafpS 3 Try.underlying79 rfl (by kernel_rfl) rfl rfl (row2:=Z3b.c v.pc)) (jD h fun g1 h=>fN rfl (EvN.ixafp Try.underlying76 ty5 rfl rfl g1) (fN rfl (lf1 (fun z0=>Y (Z3b.get v.pc z0)) g1 ty5 rfl rfl rfl rfl) (jW h fun g2 h => ?_))))))))))))))
 refine fN rfl (EvN.iconv ty5.und Try.underlying3 rfl g2) (fN rfl mv (fN rfl (nl rfl) (fN rfl (fa fs79 rfl) (fN rfl (lf (eL (cL ZIn.c) v.p) ty23 rfl) (fN rfl mv (jD h fun g3 h=>fN rfl (EvN.ixL sl23 rfl rfl g3 (fun _=>rfl)) (fN rfl (lf (eL ZIn.c (v.p.getD t.toNat default)) ty31 rfl) (fN rfl (EvN.lenL sl31 rfl) (fN rfl (EvN.ige rfl rfl) (TF.nil ?_))))))))))
 refine T.ifH rfl h (fun q4 h => ?_) (fun q4 h => ?_)
 ·refine T.seq (T.clean (H0:=[some ⟨0,4,33,[[I (0:Int),I (0:Int),I (0:Int),I (0:Int)]]⟩]) (e0:=envOf [(4,.hp 0 0 4 0 0)]) rfl (wkC rfl wkN) (T.region (oN (EvN.build [I (0:Int),I (0:Int),I (0:Int),I (0:Int)] Try.underlying33 zs33 fs33 rfl rfl) (oV (sr [I (0:Int),I (0:Int),I (0:Int),I (0:Int)] ty33 rfl rfl rfl rfl) (oN as' (TO.nil (T.ret ?_)))))))
  obtain rfl:=osj h
  repeat (first|refine retS ?_|refine retB ?_)
  exact Fin.ret (vs:=[.agg [I (0:Int),I (0:Int),I (0:Int),I (0:Int)],Bo false]) (.cons (.cell (.agg [I (0:Int),I (0:Int),I (0:Int),I (0:Int)]) ty33 rfl rfl rfl rfl rfl rfl) (.cons (.tmp rfl) .nil)) (.tupL (.cons (.of_isF 9 _ rfl) (.cons (.of_isF 9 _ rfl) .nil)))
 ·refine T.skip (T.seq (T.clean (H0:=[some ⟨0,4,33,[[I (0:Int),I (0:Int),I (0:Int),I (0:Int)]]⟩]) (e0:=envOf [(4,.hp 0 0 4 0 0),(0,.fp (ZVa.c v) 0),(1,I t)]) rfl (wkC rfl (wkC rfl (wkC rfl wkN))) (T.drawF (fun i=>[([],false),([],false),([],false),([],false),([],false),([],false),([],false),([],false),([],false),([],false),([],false),([],false),([],false),([],false),([],false),([0],true),([],false)].getD i ([],false)) (by kernel_rfl) (by kernel_rfl) (fN rfl mv (fN rfl (nl rfl) (fN rfl (fa fs79 rfl) (fN rfl (lf (eL (cL ZIn.c) v.p) ty23 rfl) (fN rfl mv (fN rfl (EvN.ixL sl23 rfl rfl g3 (fun _=>rfl)) (fN rfl (lf (eL ZIn.c (v.p.getD t.toNat default)) ty31 rfl) (fN rfl mv (fN rfl mv (fN rfl (nl rfl) (fN rfl (EvN.fafpS 3 Try.underlying79 rfl (by kernel_rfl) rfl rfl (row2:=Z3b.c v.pc)) (fN rfl (EvN.ixafp Try.underlying76 ty5 rfl rfl g1) ?_)))))))))))))))
  refine fN rfl (lf1 (fun z0=>Y (Z3b.get v.pc z0)) g1 ty5 rfl rfl rfl rfl) (jD h fun g5 h=>fN rfl (EvN.ixL sl31 rfl rfl g5 (fun _=>rfl)) (fN rfl (lf (.agg (ZIn.c ((v.p.getD t.toNat default).getD (Z3b.get v.pc t).toNat default))) ty33 rfl) (fV 0 [] rfl rfl (fun G hG=>EvA.st (cs:=(ZIn.c ((v.p.getD t.toNat default).getD (Z3b.get v.pc t).toNat default))) ⟨0,4,33,[(ZIn.c ((v.p.getD t.toNat default).getD (Z3b.get v.pc t).toNat default))]⟩ ty33 rfl rfl (hG.a0 rfl) rfl rfl rfl rfl rfl rfl) (fN rfl as' (TF.nil (T.ret ?_))))))
  obtain rfl:=osj h
  repeat (first|refine retS ?_|refine retB ?_)
  exact Fin.ret (vs:=[.agg (ZIn.c ((v.p.getD t.toNat default).getD (Z3b.get v.pc t).toNat default)),Bo true]) (.cons (.cell (.agg (ZIn.c ((v.p.getD t.toNat default).getD (Z3b.get v.pc t).toNat default))) ty33 rfl rfl rfl rfl rfl rfl) (.cons (.tmp rfl) .nil)) (.tupL (.cons (.of_isF 9 _ rfl) (.cons (.of_isF 9 _ rfl) .nil)))
theorem F_impl_values_allDone_P (v:ZVa) {q:Bool} (h:F_impl_values_allDone v=some q):PCall Try.prog 107 [.fp (ZVa.c v) 0] (Bo q):=by
 refine pM Try.func107 rfl (by kernel_rfl) rfl (T.sr (oN as' (TO.nil ?_)))
 obtain ⟨Ks1,es1,ws1,h,ks1⟩:=sumL h
 refine T.join (S:=Unit) (G:=Unit) (fun s1=>Ks1 s1=some q) (fun s1 gh=>True) (fun s1 gh=>[]) (fun s1 gh=>[]) (fun s1 gh h hg => ?_) ?_
 ·clear ks1
  subst es1
  refine T.sr (oN as' (TO.nil (T.ret ?_)))
  obtain rfl:=osj h
  exact finR rfl rfl rfl
 ·refine T.sr (oN mv (oN (nl rfl) (oN (fa fs79 rfl) (oN (lf (eL (cL ZIn.c) v.p) ty23 rfl) (oN (EvN.lenL sl23 rfl) (oN mv (TO.nil (T.block ?_))))))))
  refine T.lU h (fun s4=>[(11,I s4),(10,I (v.p.length:Int)),(0,.fp (ZVa.c v) 0)]) (fun s4=>[]) (kw rfl rfl) (fun s4 ws4 h => ?_)
  refine T.sr (oN (EvN.ilt rfl rfl) (TO.nil (T.seq ?_)))
  refine T.ifH rfl h (fun q6 h => ?_) (fun q6 h => ?_)
  ·refine T.skip (T.seq (T.block (T.sr (oN mv (oN as' (TO.nil (T.sr (oN mv (oN mv (oC h (fun _=>F_impl_values_next_P _ _) rfl rfl rfl rfl fun v7 _ h=>oN mv (oN (EvN.ext (.agg (ZIn.c v7.1)) rfl rfl) (oN (EvN.ext (Bo v7.2) rfl rfl) (oA (EvA.al zs33 rfl rfl) (oV (sr (ZIn.c v7.1) ty33 rfl rfl rfl rfl) ?_))))))))))))))
   refine oN as' (TO.nil (T.sr (oN mv (TO.nil ?_))))
   refine T.ifH rfl h (fun q8 h => ?_) (fun q8 h => ?_)
   ·refine T.sr (oN as' (TO.nil (T.ret (lX h fun h => ?_))))
    obtain rfl:=osj h
    replace h:=congrArg some (show _=_ from ks1)
    obtain rfl:=osj h
    exact finR rfl rfl rfl
   ·refine T.skip (T.region (jW h fun g9 h=>oN (EvN.add rfl rfl g9) (oN mv (TO.nil ?_))))
    exact lE h (cutS rfl .nil (stl_cons (.fz (.of_isF 9 _ rfl)) (stl_cons (.fz (.of_isF 9 _ rfl)) (stl_cons (.fz (.of_isF 9 _ rfl)) stl_nil))))
  ·refine T.exit (lX h fun h => ?_)
   obtain rfl:=osj h
   exact ⟨(),(),ks1,trivial,kw rfl rfl⟩
theorem F_impl_seq_done_P (s:ZSq) {q:Bool} (h:F_impl_seq_done s=some q):PCall Try.prog 108 [.fp (ZSq.c s) 0] (Bo q):=by
 refine pM Try.func108 rfl (by kernel_rfl) rfl (T.sr (oN as' (TO.nil (T.sr (oN mv (oN (nl rfl) (oN (EvN.fafpS 16 Try.underlying81 rfl (by kernel_rfl) rfl rfl (row2:=ZVa.c s.values)) (oC h (fun _=>F_impl_values_allDone_P _) rfl rfl rfl rfl fun v1 _ h=>oN as' (TO.nil (T.ret ?_))))))))))
 obtain rfl:=osj h
 exact finR rfl rfl rfl
set_option maxHeartbeats 4000000 in
theorem F_impl_values_outcome_P (v:ZVa) {q:(List Int)} (h:F_impl_values_outcome v=some q):PCall Try.prog 111 [.fp (ZVa.c v) 0] (eL cI q):=by
 refine pM Try.func111 rfl (by kernel_rfl) rfl (T.sr (oN as' (TO.nil (T.seq (T.reserve (T.region (oN (EvN.asg (hS true 0 0 1 (([]:List Int).length)) rfl) (TO.nil ?_))))))))
 refine T.jF (G:=(Bool×Nat)) h (fun s1 gh=>(gh.1=true->s1=[])) (fun s1 gh=>[(3,hS gh.1 0 gh.2 1 s1.length),(0,.fp (ZVa.c v) 0)]) (fun s1 gh=>[bE gh.1 gh.2 1 3 (s1.map cI)]) (fun s1 gh h n36 => ?_) (fun s1 h => ?_)
 ·obtain ⟨b35,u34⟩:=gh
  refine T.jF (G:=(Bool×Nat)) h (fun s37 gh=>(gh.1=true->s37=[])) (fun s37 gh=>[(3,hS gh.1 0 gh.2 1 s37.length)]) (fun s37 gh=>[bE gh.1 gh.2 1 3 (s37.map cI)]) (fun s37 gh h n55 => ?_) (fun s37 h => ?_)
  ·obtain ⟨b54,u53⟩:=gh
   refine T.sr (oN mv (oN (EvN.asg (hS b54 0 u53 1 s37.length) rfl) (TO.nil (T.ret ?_))))
   obtain rfl:=osj h
   repeat (first|refine retS ?_|refine retB ?_)
   exact Fin.ret (vs:=[hS b54 0 u53 1 s37.length]) (.cons (.tmp rfl) .nil) (Fz.own (g:=b54) (ver:=u53) (l:=s37) rfl rfl rfl n55 (fun _=>rfl))
  ·refine T.sr (oN mv (oN (nl rfl) (oN (EvN.fafpS 3 Try.underlying79 rfl (by kernel_rfl) rfl rfl (row2:=Z3b.c v.mem)) (oN (lf (.agg (Z3b.c v.mem)) ty76 rfl) (oN mv (TO.nil (T.block ?_)))))))
   refine T.loop (S:=(List Int)×Int) (G:=(Bool×Nat)) (F_impl_values_outcome_L44 v) (fun s43 gh=>(gh.1=true->s43.1=[])) (fun s43 gh=>[(37,I s43.2),(36,.agg (Z3b.c v.mem)),(3,hS gh.1 0 gh.2 1 s43.1.length)]) (fun s43 gh=>[bE gh.1 gh.2 1 3 (s43.1.map cI)]) (s0:=(s1,(0:Int))) (b35,u34) h n36 (kw rfl rfl) (fun s43 gh ws43 h n47 => ?_)
   obtain ⟨b46,u45⟩:=gh
   refine T.sr (oN (EvN.ilt rfl rfl) (TO.nil (T.seq ?_)))
   refine T.ifH rfl h (fun q48 h => ?_) (fun q48 h => ?_)
   ·refine T.skip (T.seq (T.block (T.sr (jD h fun g49 h=>oN (EvN.ixag (Y (Z3b.get v.mem s43.2)) Try.underlying76 ty5 rfl rfl g49 (sel3 (P:=fun (z:Int)=>partV false 1 (Z3b.c v.mem) (z.toNat*1)=some (Y (Z3b.get v.mem z))) g49 rfl rfl rfl)) (oN as' (TO.nil (T.region (oN mv (oN mv (jW h fun g50 h=>oN (EvN.iconv ty5.und Try.underlying3 rfl g50) (oN (EvN.mkF (c:=cI) ([(Z3b.get v.mem s43.2)]:List Int) [[I (Z3b.get v.mem s43.2)]] sl63 rfl rfl rfl (fun _=>rfl) (fun _=>rfl) rfl) (jL h fun g51 h=>oA (EvA.app1 (g:=b46) (l:=s43.1) (Z3b.get v.mem s43.2) sl63 (by kernel_rfl) rfl rfl rfl n47 (SrcOk.fz (l:=([(Z3b.get v.mem s43.2)]:List Int)) rfl (fun _=>rfl)) g51) ?_))))))))))))
    refine oN (EvN.asg (hS false 0 (u45+1) 1 ((s43.1++[(Z3b.get v.mem s43.2)]).length)) rfl) (TO.nil (T.region (jW h fun g52 h=>oN (EvN.add rfl rfl g52) (oN mv (TO.nil ?_)))))
    obtain rfl:=osj h
    exact ⟨((s43.1++[(Z3b.get v.mem s43.2)]),(s43.2+(1:Int))),(false,u45+1),rfl,nofun,kw rfl rfl⟩
   ·refine T.exit (lX h fun h => ?_)
    obtain rfl:=osj h
    exact ⟨(b46,u45),n47,kw rfl rfl⟩
 ·refine T.sr (oN mv (oN (nl rfl) (oN (fa fs79 rfl) (oN (lf (eL (cL ZIn.c) v.p) ty23 rfl) (oN (EvN.lenL sl23 rfl) (oN mv (TO.nil (T.block ?_))))))))
  refine T.loop (S:=(List Int)×Int) (G:=(Bool×Nat)) (F_impl_values_outcome_L8 v) (fun s7 gh=>(gh.1=true->s7.1=[])) (fun s7 gh=>[(14,I s7.2),(13,I (v.p.length:Int)),(3,hS gh.1 0 gh.2 1 s7.1.length),(0,.fp (ZVa.c v) 0)]) (fun s7 gh=>[bE gh.1 gh.2 1 3 (s7.1.map cI)]) (s0:=(([]:List Int),(0:Int))) (true,0) h (fun _=>rfl) (kw rfl rfl) (fun s7 gh ws7 h n11 => ?_)
  obtain ⟨b10,u9⟩:=gh
  refine T.sr (oN (EvN.ilt rfl rfl) (TO.nil (T.seq ?_)))
  refine T.ifH rfl h (fun q12 h => ?_) (fun q12 h => ?_)
  ·refine T.skip ?_
   refine T.jF (G:=(Bool×Nat)) h (fun s13 gh=>(gh.1=true->s13=[])) (fun s13 gh=>[(14,I s7.2),(13,I (v.p.length:Int)),(3,hS gh.1 0 gh.2 1 s13.length),(0,.fp (ZVa.c v) 0)]) (fun s13 gh=>[bE gh.1 gh.2 1 3 (s13.map cI)]) (fun s13 gh h n32 => ?_) (fun s13 h => ?_)
   ·obtain ⟨b31,u30⟩:=gh
    refine T.region (jW h fun g33 h=>oN (EvN.add rfl rfl g33) (oN mv (TO.nil ?_)))
    obtain rfl:=osj h
    exact ⟨(s13,(s7.2+(1:Int))),(b31,u30),rfl,n32,kw rfl rfl⟩
   ·refine T.block (T.sr (oN mv (oN as' (TO.nil (T.sr (oN mv (oN mv (oN (nl rfl) (oN (EvN.fafpS 9 Try.underlying79 rfl (by kernel_rfl) rfl rfl (row2:=Z33.c v.reg)) (jD h fun g14 h=>oN (EvN.ixafp Try.underlying77 ty76 rfl rfl g14) (oN (lf1 (fun z0 => .agg (Z3b.c (Z33.get v.reg z0))) g14 ty76 rfl rfl rfl rfl) (oN mv (TO.nil (T.block ?_))))))))))))))
    refine T.loop (S:=(List Int)×Int) (G:=(Bool×Nat)) (F_impl_values_outcome_L21 v s7) (fun s20 gh=>(gh.1=true->s20.1=[])) (fun s20 gh=>[(23,I s20.2),(22,.agg (Z3b.c (Z33.get v.reg s7.2))),(14,I s7.2),(13,I (v.p.length:Int)),(3,hS gh.1 0 gh.2 1 s20.1.length),(0,.fp (ZVa.c v) 0)]) (fun s20 gh=>[bE gh.1 gh.2 1 3 (s20.1.map cI)]) (s0:=(s7.1,(0:Int))) (b10,u9) h n11 (kw rfl rfl) (fun s20 gh ws20 h n24 => ?_)
    obtain ⟨b23,u22⟩:=gh
    refine T.sr (oN (EvN.ilt rfl rfl) (TO.nil (T.seq ?_)))
    refine T.ifH rfl h (fun q25 h => ?_) (fun q25 h => ?_)
    ·refine T.skip (T.seq (T.block (T.sr (jD h fun g26 h=>oN (EvN.ixag (Y (Z3b.get (Z33.get v.reg s7.2) s20.2)) Try.underlying76 ty5 rfl rfl g26 (sel3 (P:=fun (z:Int)=>partV false 1 (Z3b.c (Z33.get v.reg s7.2)) (z.toNat*1)=some (Y (Z3b.get (Z33.get v.reg s7.2) z))) g26 rfl rfl rfl)) (oN as' (TO.nil (T.region (oN mv (oN mv (jW h fun g27 h=>oN (EvN.iconv ty5.und Try.underlying3 rfl g27) (oN (EvN.mkF (c:=cI) ([(Z3b.get (Z33.get v.reg s7.2) s20.2)]:List Int) [[I (Z3b.get (Z33.get v.reg s7.2) s20.2)]] sl63 rfl rfl rfl (fun _=>rfl) (fun _=>rfl) rfl) (jL h fun g28 h=>oA (EvA.app1 (g:=b23) (l:=s20.1) (Z3b.get (Z33.get v.reg s7.2) s20.2) sl63 (by kernel_rfl) rfl rfl rfl n24 (SrcOk.fz (l:=([(Z3b.get (Z33.get v.reg s7.2) s20.2)]:List Int)) rfl (fun _=>rfl)) g28) ?_))))))))))))
     refine oN (EvN.asg (hS false 0 (u22+1) 1 ((s20.1++[(Z3b.get (Z33.get v.reg s7.2) s20.2)]).length)) rfl) (TO.nil (T.region (jW h fun g29 h=>oN (EvN.add rfl rfl g29) (oN mv (TO.nil ?_)))))
     obtain rfl:=osj h
     exact ⟨((s20.1++[(Z3b.get (Z33.get v.reg s7.2) s20.2)]),(s20.2+(1:Int))),(false,u22+1),rfl,nofun,kw rfl rfl⟩
    ·refine T.exit (lX h fun h => ?_)
     obtain rfl:=osj h
     exact ⟨(b23,u22),n24,kw rfl rfl⟩
  ·refine T.exit (lX h fun h => ?_)
   obtain rfl:=osj h
   exact ⟨(b10,u9),n11,kw rfl rfl⟩
theorem F_impl_seq_moves_P (s:ZSq) {q:(List Int)} (h:F_impl_seq_moves s=some q):PCall Try.prog 110 [.fp (ZSq.c s) 0] (eL cI q):=by
 refine pM Try.func110 rfl (by kernel_rfl) rfl (T.sr (oN as' (TO.nil (T.seq (T.reserve (T.region (oN (EvN.asg (hS true 0 0 1 (([]:List Int).length)) rfl) (TO.nil ?_))))))))
 refine T.jF (G:=(Bool×Nat)) h (fun s1 gh=>(gh.1=true->s1=[])) (fun s1 gh=>[(3,hS gh.1 0 gh.2 1 s1.length)]) (fun s1 gh=>[bE gh.1 gh.2 1 3 (s1.map cI)]) (fun s1 gh h n23 => ?_) (fun s1 h => ?_)
 ·obtain ⟨b22,u21⟩:=gh
  refine T.sr (oN mv (oN (EvN.asg (hS b22 0 u21 1 s1.length) rfl) (TO.nil (T.ret ?_))))
  obtain rfl:=osj h
  repeat (first|refine retS ?_|refine retB ?_)
  exact Fin.ret (vs:=[hS b22 0 u21 1 s1.length]) (.cons (.tmp rfl) .nil) (Fz.own (g:=b22) (ver:=u21) (l:=s1) rfl rfl rfl n23 (fun _=>rfl))
 ·refine T.sr (oN mv (oN (nl rfl) (oN (EvN.fafpS 16 Try.underlying81 rfl (by kernel_rfl) rfl rfl (row2:=ZVa.c s.values)) (oN (fa fs79 rfl) (oN (lf (eL (cL ZIn.c) s.values.p) ty23 rfl) (oN (EvN.lenL sl23 rfl) (oN mv (TO.nil (T.block ?_)))))))))
  refine T.loop (S:=(List Int)×Int) (G:=(Bool×Nat)) (F_impl_seq_moves_L8 s) (fun s7 gh=>(gh.1=true->s7.1=[])) (fun s7 gh=>[(13,I s7.2),(12,I (s.values.p.length:Int)),(3,hS gh.1 0 gh.2 1 s7.1.length),(0,.fp (ZSq.c s) 0)]) (fun s7 gh=>[bE gh.1 gh.2 1 3 (s7.1.map cI)]) (s0:=(([]:List Int),(0:Int))) (true,0) h (fun _=>rfl) (kw rfl rfl) (fun s7 gh ws7 h n11 => ?_)
  obtain ⟨b10,u9⟩:=gh
  refine T.sr (oN (EvN.ilt rfl rfl) (TO.nil (T.seq ?_)))
  refine T.ifH rfl h (fun q12 h => ?_) (fun q12 h => ?_)
  ·refine T.skip ?_
   refine T.jF (G:=(Bool×Nat)) h (fun s13 gh=>(gh.1=true->s13=[])) (fun s13 gh=>[(3,hS gh.1 0 gh.2 1 s13.length),(13,I s7.2),(12,I (s.values.p.length:Int)),(0,.fp (ZSq.c s) 0)]) (fun s13 gh=>[bE gh.1 gh.2 1 3 (s13.map cI)]) (fun s13 gh h n19 => ?_) (fun s13 h => ?_)
   ·obtain ⟨b18,u17⟩:=gh
    refine T.region (jW h fun g20 h=>oN (EvN.add rfl rfl g20) (oN mv (TO.nil ?_)))
    obtain rfl:=osj h
    exact ⟨(s13,(s7.2+(1:Int))),(b18,u17),rfl,n19,kw rfl rfl⟩
   ·refine T.block (T.sr (oN mv (oN as' (TO.nil (T.sr (oN mv (oN (nl rfl) (oN (EvN.fafpS 16 Try.underlying81 rfl (by kernel_rfl) rfl rfl (row2:=ZVa.c s.values)) (oN mv (oC h (fun _=>F_impl_values_next_P _ _) rfl rfl rfl rfl fun v14 _ h=>oN mv (oN (EvN.ext (.agg (ZIn.c v14.1)) rfl rfl) (oN (EvN.ext (Bo v14.2) rfl rfl) (oA (EvA.al zs33 rfl rfl) (oV (sr (ZIn.c v14.1) ty33 rfl rfl rfl rfl) ?_))))))))))))))
    refine oN as' (TO.nil (T.sr (oN mv (TO.nil ?_))))
    refine T.ifH rfl h (fun q15 h => ?_) (fun q15 h => ?_)
    ·refine T.region (oN mv (oN mv (oN (EvN.mkF (c:=cI) ([s7.2]:List Int) [[I s7.2]] sl63 rfl rfl rfl (fun _=>rfl) (fun _=>rfl) rfl) (jL h fun g16 h=>oA (EvA.app1 (g:=b10) (l:=s7.1) s7.2 sl63 (by kernel_rfl) rfl rfl rfl n11 (SrcOk.fz (l:=([s7.2]:List Int)) rfl (fun _=>rfl)) g16) (oN (EvN.asg (hS false 0 (u9+1) 1 ((s7.1++[s7.2]).length)) rfl) (TO.nil ?_))))))
     obtain rfl:=osj h
     exact ⟨(false,u9+1),nofun,cutS rfl (.cons (.list (g:=false) (ver:=u9+1) (l:=(s7.1++[s7.2])) (fun _=>rfl)) .nil) (stl_cons (.hS (g:=false) (b:=0) (ver:=u9+1) (s:=1) (n:=(s7.1++[s7.2]).length) rfl) (stl_cons (.fz (.of_isF 9 _ rfl)) (stl_cons (.fz (.of_isF 9 _ rfl)) (stl_cons (.fz (.of_isF 9 _ rfl)) stl_nil))))⟩
    ·refine T.skip ?_
     obtain rfl:=osj h
     exact ⟨(b10,u9),n11,cutS rfl (.cons (.list (g:=b10) (ver:=u9) (l:=s7.1) (fun _=>rfl)) .nil) (stl_cons (.hS (g:=b10) (b:=0) (ver:=u9) (s:=1) (n:=s7.1.length) rfl) (stl_cons (.fz (.of_isF 9 _ rfl)) (stl_cons (.fz (.of_isF 9 _ rfl)) (stl_cons (.fz (.of_isF 9 _ rfl)) stl_nil))))⟩
  ·refine T.exit (lX h fun h => ?_)
   obtain rfl:=osj h
   exact ⟨(b10,u9),n11,kw rfl rfl⟩
theorem F_impl_values_stored_P (v:ZVa) (t:Int) (x:ZIn) {q:Int} (h:F_impl_values_stored v t x=some q):PCall Try.prog 113 [.fp (ZVa.c v) 0,I t,.agg (ZIn.c x)] (Y q):=by
 refine pM Try.func113 rfl (by kernel_rfl) rfl (T.sr (oN (EvN.bxF (ZIn.c x) rfl rfl rfl) (oN as' (TO.nil (T.seq (T.sr (oN (fa fs33 rfl) (oN (lf (I x.Op) ty3 rfl) (oN (EvN.ieq rfl rfl) (TO.nil ?_))))))))))
 refine T.ifH rfl h (fun q1 h => ?_) (fun q1 h => ?_)
 ·refine T.seq (T.drawF (fun _=>([],false)) (by kernel_rfl) (by kernel_rfl) (fN rfl mv (fN rfl mv (fN rfl (fa fs33 rfl) (fN rfl (lf (I x.Reg) ty3 rfl) (fN rfl (nl rfl) (fN rfl (EvN.fafpS 9 Try.underlying79 rfl (by kernel_rfl) rfl rfl (row2:=Z33.c v.reg)) (jD h fun g2 h=>fN rfl (EvN.ixafp Try.underlying77 ty76 rfl rfl g2) (jD h fun g3 h=>fN rfl (EvN.ixafp Try.underlying76 ty5 rfl rfl g3) (fN rfl (lf2 (fun z0 z1=>Y (Z3b.get (Z33.get v.reg z0) z1)) g2 g3 ty5 rfl ⟨rfl,rfl,rfl,rfl,rfl,rfl,rfl,rfl,rfl⟩) (fN rfl as' (TF.nil (T.ret ?_)))))))))))))
  obtain rfl:=osj h
  exact finR rfl rfl rfl
 ·refine T.skip (T.sr (oN (fa fs33 rfl) (oN (lf (I x.Val) ty3 rfl) (jW h fun g4 h=>oN (EvN.iconv ty3.und Try.underlying5 rfl g4) (oN as' (TO.nil (T.ret ?_)))))))
  obtain rfl:=osj h
  exact finR rfl rfl rfl
theorem F_impl_Instr_reads_P (x:ZIn) {q:Bool} (h:F_impl_Instr_reads x=some q):PCall Try.prog 52 [.agg (ZIn.c x)] (Bo q):=by
 refine pM Try.func52 rfl (by kernel_rfl) rfl (T.sr (oN (EvN.bxF (ZIn.c x) rfl rfl rfl) (oN as' (TO.nil (T.sr (oN (fa fs33 rfl) (oN (lf (I x.Op) ty3 rfl) (oN (EvN.ieq rfl rfl) (oN mv ?_)))))))))
 refine TO.jB h 4 (fun s1=>[(10,Bo s1)]) (fun s1=>[]) (fun s1 q2 h js1 => ?_) (fun s1 q2 h js1 => ?_) (fun s1 h => ?_)
 ·refine gS rfl q2 (gS rfl q2 (gS rfl q2 (oN (EvN.pickT rfl q2 (Bo true) rfl) ?_)))
  obtain rfl:=osj h
  exact js1 _ _ (kw rfl rfl)
 ·refine gN rfl q2 (fa fs33 rfl) (gN rfl q2 (lf (I x.Op) ty3 rfl) (gN rfl q2 (EvN.ieq rfl rfl) (oN (EvN.pickF rfl q2 (Bo (x.Op==(5:Int))) rfl) ?_)))
  obtain rfl:=osj h
  exact js1 _ _ (kw rfl rfl)
 ·refine oN as' (TO.nil (T.ret ?_))
  obtain rfl:=osj h
  exact finR rfl rfl rfl
theorem F_impl_Instr_writes_P (x:ZIn) {q:Bool} (h:F_impl_Instr_writes x=some q):PCall Try.prog 53 [.agg (ZIn.c x)] (Bo q):=by
 refine pM Try.func53 rfl (by kernel_rfl) rfl (T.sr (oN (EvN.bxF (ZIn.c x) rfl rfl rfl) (oN as' (TO.nil (T.sr (oN (fa fs33 rfl) (oN (lf (I x.Op) ty3 rfl) (oN (EvN.ieq rfl rfl) (oN mv ?_)))))))))
 refine TO.jB h 4 (fun s1=>[(10,Bo s1),(1,.fp (ZIn.c x) 0)]) (fun s1=>[]) (fun s1 q2 h js1 => ?_) (fun s1 q2 h js1 => ?_) (fun s1 h => ?_)
 ·refine gS rfl q2 (gS rfl q2 (gS rfl q2 (oN (EvN.pickT rfl q2 (Bo true) rfl) ?_)))
  obtain rfl:=osj h
  exact js1 _ _ (kw rfl rfl)
 ·refine gN rfl q2 (fa fs33 rfl) (gN rfl q2 (lf (I x.Op) ty3 rfl) (gN rfl q2 (EvN.ieq rfl rfl) (oN (EvN.pickF rfl q2 (Bo (x.Op==(3:Int))) rfl) ?_)))
  obtain rfl:=osj h
  exact js1 _ _ (kw rfl rfl)
 ·refine oN mv ?_
  refine TO.jB h 4 (fun s3=>[(15,Bo s3)]) (fun s3=>[]) (fun s3 q4 h js3 => ?_) (fun s3 q4 h js3 => ?_) (fun s3 h => ?_)
  ·refine gS rfl q4 (gS rfl q4 (gS rfl q4 (oN (EvN.pickT rfl q4 (Bo true) rfl) ?_)))
   obtain rfl:=osj h
   exact js3 _ _ (kw rfl rfl)
  ·refine gN rfl q4 (fa fs33 rfl) (gN rfl q4 (lf (I x.Op) ty3 rfl) (gN rfl q4 (EvN.ieq rfl rfl) (oN (EvN.pickF rfl q4 (Bo (x.Op==(5:Int))) rfl) ?_)))
   obtain rfl:=osj h
   exact js3 _ _ (kw rfl rfl)
  ·refine oN as' (TO.nil (T.ret ?_))
   obtain rfl:=osj h
   exact finR rfl rfl rfl
set_option maxHeartbeats 4000000 in
theorem F_impl_seq_after_P (s:ZSq) (t:Int) {q:ZSq} (h:F_impl_seq_after s t=some q):PCall Try.prog 106 [.fp (ZSq.c s) 0,I t] (.ifc 75 (.fp (ZSq.c q) 0)):=by
 refine pM Try.func106 rfl (by kernel_rfl) rfl (T.sr (oN as' (TO.nil (T.sr (oN mv (oN (nl rfl) (oN (lf (.agg (ZSq.c s)) ty81 rfl) (oA (EvA.al zs81 rfl rfl) (oV (sr (ZSq.c s) ty81 rfl rfl rfl rfl) (TO.nil (T.sr (oN mv (oN (nl rfl) (oN (EvN.fafpS 16 Try.underlying81 rfl (by kernel_rfl) rfl rfl (row2:=ZVa.c s.values)) (oN mv ?_)))))))))))))))
 refine oC h (fun _=>F_impl_values_next_P _ _) rfl rfl rfl rfl fun v1 _ h=>oN mv (oN (EvN.ext (.agg (ZIn.c v1.1)) rfl rfl) (oN (EvN.ext (Bo v1.2) rfl rfl) (oA (EvA.al zs33 rfl rfl) (oV (sr (ZIn.c v1.1) ty33 rfl rfl rfl rfl) (oN as' (TO.nil (T.sr (oN mv (oN (fa fs81 rfl) (oN (fa fs79 rfl) (jD h fun g2 h=>oN (EvN.ixahp Try.underlying76 ty5 rfl rfl g2) (oA (lh1 (fun z0=>Y (Z3b.get s.values.pc z0)) g2 ty5 rfl rfl rfl rfl rfl) (jW h fun g3 h => ?_)))))))))))))
 refine oN (EvN.add rfl rfl g3) (oN (fa fs81 rfl) (oN (fa fs79 rfl) (oN (EvN.ixahp Try.underlying76 ty5 rfl rfl g2) (oV (sr1 (fun z0=>(ZSq.c (⟨(⟨s.values.p,(Z3b.set s.values.pc z0 ((Z3b.get s.values.pc t)+(1:Int))),s.values.reg,s.values.mem⟩:ZVa)⟩:ZSq))) g2 ty5 rfl rfl rfl rfl rfl rfl) (TO.nil (T.seq (T.clean (H0:=[some ⟨0,16,81,[(ZSq.c (⟨(⟨s.values.p,(Z3b.set s.values.pc t ((Z3b.get s.values.pc t)+(1:Int))),s.values.reg,s.values.mem⟩:ZVa)⟩:ZSq))]⟩,some ⟨0,4,33,[(ZIn.c v1.1)]⟩]) (e0:=envOf [(6,.hp 1 0 4 0 0),(5,.hp 0 0 16 0 0),(0,.fp (ZSq.c s) 0),(1,I t)]) rfl (wkC rfl (wkC rfl (wkC rfl (wkC rfl wkN)))) (T.drawF (fun i=>[([],false),([],false),([],false),([],false),([1],false),([],false),([],false)].getD i ([],false)) (by kernel_rfl) (by kernel_rfl) (fN rfl mv (fN rfl (nl rfl) (fN rfl (EvN.fafpS 16 Try.underlying81 rfl (by kernel_rfl) rfl rfl (row2:=ZVa.c s.values)) (fN rfl mv (fR [1] rfl (fun G hG=>EvA.loadhp (.agg (ZIn.c v1.1)) ty33 rfl (hG.a0 rfl) rfl rfl rfl rfl) (fC h (fun _=>F_impl_values_stored_P _ _ _) rfl rfl rfl rfl rfl fun v4 _ h=>fN rfl as' ?_))))))))))))))
 refine TF.nil ?_
 refine T.jU h (fun s5=>[(8,Y v4),(6,.hp 1 0 4 0 0),(5,.hp 0 0 16 0 0)]) (fun s5=>[some ⟨0,16,81,[(ZSq.c (⟨(⟨s.values.p,(Z3b.set s.values.pc t ((Z3b.get s.values.pc t)+(1:Int))),(⟨(⟨s5.1,s5.2.1,s5.2.2.1⟩:Z3b),(⟨s5.2.2.2.1,s5.2.2.2.2.1,s5.2.2.2.2.2.1⟩:Z3b),(⟨s5.2.2.2.2.2.2.1,s5.2.2.2.2.2.2.2.1,s5.2.2.2.2.2.2.2.2⟩:Z3b)⟩:Z33),s.values.mem⟩:ZVa)⟩:ZSq))]⟩,some ⟨0,4,33,[(ZIn.c v1.1)]⟩]) (fun s5 h => ?_) (fun s5 h => ?_)
 ·refine T.jU h (fun s10=>[(5,.hp 0 0 16 0 0)]) (fun s10=>[some ⟨0,16,81,[(ZSq.c (⟨(⟨s.values.p,(Z3b.set s.values.pc t ((Z3b.get s.values.pc t)+(1:Int))),(⟨(⟨s5.1,s5.2.1,s5.2.2.1⟩:Z3b),(⟨s5.2.2.2.1,s5.2.2.2.2.1,s5.2.2.2.2.2.1⟩:Z3b),(⟨s5.2.2.2.2.2.2.1,s5.2.2.2.2.2.2.2.1,s5.2.2.2.2.2.2.2.2⟩:Z3b)⟩:Z33),(⟨s10.1,s10.2.1,s10.2.2⟩:Z3b)⟩:ZVa)⟩:ZSq))]⟩,some ⟨0,4,33,[(ZIn.c v1.1)]⟩]) (fun s10 h => ?_) (fun s10 h => ?_)
  ·refine T.sr (oN (EvN.mkifc (.hp 0 0 16 0 0) Try.underlying75 (fun _ h=>nomatch h) rfl) (oN as' (TO.nil (T.ret ?_))))
   obtain rfl:=osj h
   repeat (first|refine retS ?_|refine retB ?_)
   exact Fin.ret (vs:=[.ifc 75 (.hp 0 0 16 0 0)]) (.cons (.tmp rfl) .nil) (.ifc (Fz.fpL (ver:=0) (s:=16) (ty:=81) (rows:=[[eL (cL ZIn.c) s.values.p,Y ((Z3b.set s.values.pc t ((Z3b.get s.values.pc t)+(1:Int))).x0),Y ((Z3b.set s.values.pc t ((Z3b.get s.values.pc t)+(1:Int))).x1),Y ((Z3b.set s.values.pc t ((Z3b.get s.values.pc t)+(1:Int))).x2),Y s5.1,Y s5.2.1,Y s5.2.2.1,Y s5.2.2.2.1,Y s5.2.2.2.2.1,Y s5.2.2.2.2.2.1,Y s5.2.2.2.2.2.2.1,Y s5.2.2.2.2.2.2.2.1,Y s5.2.2.2.2.2.2.2.2,Y s10.1,Y s10.2.1,Y s10.2.2]]) rfl rfl rfl (.cons (.of_isF 9 _ rfl) (.cons (.of_isF 9 _ rfl) (.cons (.of_isF 9 _ rfl) (.cons (.of_isF 9 _ rfl) (.cons (.of_isF 9 _ rfl) (.cons (.of_isF 9 _ rfl) (.cons (.of_isF 9 _ rfl) (.cons (.of_isF 9 _ rfl) (.cons (.of_isF 9 _ rfl) (.cons (.of_isF 9 _ rfl) (.cons (.of_isF 9 _ rfl) (.cons (.of_isF 9 _ rfl) (.cons (.of_isF 9 _ rfl) (.cons (.of_isF 9 _ rfl) (.cons (.of_isF 9 _ rfl) (.cons (.of_isF 9 _ rfl) .nil))))))))))))))))))
  ·refine T.sr (oA (lh (.agg (ZIn.c v1.1)) ty33 rfl rfl rfl) (oC h (fun _=>F_impl_Instr_writes_P _) rfl rfl rfl rfl fun v11 _ h=>TO.nil ?_))
   refine T.ifH rfl h (fun q12 h => ?_) (fun q12 h => ?_)
   ·refine T.region (oN (fa fs33 rfl) (oA (lh (I v1.1.Loc) ty3 rfl rfl rfl) (oN mv (oN (fa fs81 rfl) (oN (fa fs79 rfl) (jD h fun g13 h=>oN (EvN.ixahp Try.underlying76 ty5 rfl rfl g13) (oV (sr1 (fun z0=>(ZSq.c (⟨(⟨s.values.p,(Z3b.set s.values.pc t ((Z3b.get s.values.pc t)+(1:Int))),(⟨(⟨s5.1,s5.2.1,s5.2.2.1⟩:Z3b),(⟨s5.2.2.2.1,s5.2.2.2.2.1,s5.2.2.2.2.2.1⟩:Z3b),(⟨s5.2.2.2.2.2.2.1,s5.2.2.2.2.2.2.2.1,s5.2.2.2.2.2.2.2.2⟩:Z3b)⟩:Z33),(Z3b.set s.values.mem z0 v4)⟩:ZVa)⟩:ZSq))) g13 ty5 rfl rfl rfl rfl rfl rfl) (TO.nil ?_))))))))
    obtain rfl:=osj h
    exact ⟨(),trivial,kw rfl rfl⟩
   ·refine T.skip ?_
    obtain rfl:=osj h
    exact ⟨(),trivial,kw rfl rfl⟩
 ·refine T.sr (oA (lh (.agg (ZIn.c v1.1)) ty33 rfl rfl rfl) (oC h (fun _=>F_impl_Instr_reads_P _) rfl rfl rfl rfl fun v6 _ h=>TO.nil ?_))
  refine T.ifH rfl h (fun q7 h => ?_) (fun q7 h => ?_)
  ·refine T.drawF (fun i=>[([],false),([],false),([1],false),([],false),([],false),([1],false),([],false),([],false),([],false),([],false),([],false),([],false),([],false),([],false),([],false),([0],true)].getD i ([],false)) (by kernel_rfl) (by kernel_rfl) (fN rfl mv (fN rfl (fa fs33 rfl) (fR [1] rfl (fun G hG=>EvA.loadhp (I v1.1.Reg) ty3 rfl (hG.a0 rfl) rfl rfl rfl rfl) (fN rfl mv (fN rfl (fa fs33 rfl) (fR [1] rfl (fun G hG=>EvA.loadhp (I v1.1.Loc) ty3 rfl (hG.a0 rfl) rfl rfl rfl rfl) (fN rfl (nl rfl) (fN rfl (EvN.fafpS 16 Try.underlying81 rfl (by kernel_rfl) rfl rfl (row2:=ZVa.c s.values)) (fN rfl (EvN.fafpS 3 Try.underlying79 rfl (by kernel_rfl) rfl rfl (row2:=Z3b.c s.values.mem)) (jD h fun g8 h=>fN rfl (EvN.ixafp Try.underlying76 ty5 rfl rfl g8) (fN rfl (lf1 (fun z0=>Y (Z3b.get s.values.mem z0)) g8 ty5 rfl rfl rfl rfl) (fN rfl (fa fs81 rfl) (fN rfl (fa fs79 rfl) (fN rfl (EvN.ixahp Try.underlying77 ty76 rfl rfl g2) ?_))))))))))))))
   refine jD h fun g9 h=>fN rfl (EvN.ixahp Try.underlying76 ty5 rfl rfl g9) (fV 0 [] rfl rfl (fun G hG=>sr2 (fun z0 z1=>(ZSq.c (⟨(⟨s.values.p,(Z3b.set s.values.pc t ((Z3b.get s.values.pc t)+(1:Int))),(⟨((Z33.set s.values.reg z0 (Z3b.set (Z33.get s.values.reg z0) z1 (Z3b.get s.values.mem v1.1.Loc))).x0),((Z33.set s.values.reg z0 (Z3b.set (Z33.get s.values.reg z0) z1 (Z3b.get s.values.mem v1.1.Loc))).x1),((Z33.set s.values.reg z0 (Z3b.set (Z33.get s.values.reg z0) z1 (Z3b.get s.values.mem v1.1.Loc))).x2)⟩:Z33),s.values.mem⟩:ZVa)⟩:ZSq))) g2 g9 ty5 rfl rfl (hG.a0 rfl) ⟨rfl,rfl,rfl,rfl,rfl,rfl,rfl,rfl,rfl⟩) (TF.nil ?_))
   obtain rfl:=osj h
   exact ⟨(),trivial,kw rfl rfl⟩
  ·refine T.skip ?_
   obtain rfl:=osj h
   exact ⟨(),trivial,kw rfl rfl⟩
theorem F_slices_Equal_int_int_P (s1_:List Int) (s2_:List Int) {q:Bool} (h:F_slices_Equal_int_int s1_ s2_=some q):PCall Try.prog 58 [eL cI s1_,eL cI s2_] (Bo q):=by
 refine pM Try.func58 rfl (by kernel_rfl) rfl (T.sr (oN as' (TO.nil (T.seq (T.sr (oN mv (oN (EvN.lenL sl63 rfl) (oN mv (oN (EvN.lenL sl63 rfl) (oN (EvN.ine rfl rfl) (TO.nil ?_)))))))))))
 refine T.ifH rfl h (fun q1 h => ?_) (fun q1 h => ?_)
 ·refine T.sr (oN as' (TO.nil (T.ret ?_)))
  obtain rfl:=osj h
  exact finR rfl rfl rfl
 ·refine T.skip ?_
  obtain ⟨Ks2,es2,ws2,h,ks2⟩:=sumL h
  refine T.join (S:=Unit) (G:=Unit) (fun s2=>Ks2 s2=some q) (fun s2 gh=>True) (fun s2 gh=>[]) (fun s2 gh=>[]) (fun s2 gh h hg => ?_) ?_
  ·clear ks2
   subst es2
   refine T.sr (oN as' (TO.nil (T.ret ?_)))
   obtain rfl:=osj h
   exact finR rfl rfl rfl
  ·refine T.sr (oN mv (oN (EvN.lenL sl63 rfl) (oN mv (TO.nil (T.block ?_)))))
   refine T.lU h (fun s5=>[(13,I s5),(12,I (s1_.length:Int)),(0,eL cI s1_),(1,eL cI s2_)]) (fun s5=>[]) (kw rfl rfl) (fun s5 ws5 h => ?_)
   refine T.sr (oN (EvN.ilt rfl rfl) (TO.nil (T.seq ?_)))
   refine T.ifH rfl h (fun q7 h => ?_) (fun q7 h => ?_)
   ·refine T.skip (T.seq (T.block (T.sr (oN mv (oN as' (TO.nil (T.seq (T.drawF (fun _=>([],false)) (by kernel_rfl) (by kernel_rfl) (fN rfl mv (fN rfl mv (jD h fun g8 h=>fN rfl (EvN.ixL sl63 rfl rfl g8 (fun _=>rfl)) (fN rfl (lf (I (s1_.getD s5.toNat default)) ty3 rfl) (fN rfl mv (fN rfl mv ?_))))))))))))))
    refine jD h fun g9 h=>fN rfl (EvN.ixL sl63 rfl rfl g9 (fun _=>rfl)) (fN rfl (lf (I (s2_.getD s5.toNat default)) ty3 rfl) (fN rfl (EvN.ine rfl rfl) (TF.nil ?_)))
    refine T.ifH rfl h (fun q10 h => ?_) (fun q10 h => ?_)
    ·refine T.seq (T.clean (H0:=[]) (e0:=envOf []) rfl wkN (T.region (oN as' (TO.nil (T.ret (lX h fun h => ?_))))))
     obtain rfl:=osj h
     replace h:=congrArg some (show _=_ from ks2)
     obtain rfl:=osj h
     exact finR rfl rfl rfl
    ·refine T.skip (T.region (jW h fun g11 h=>oN (EvN.add rfl rfl g11) (oN mv (TO.nil ?_))))
     exact lE h (kw rfl rfl)
   ·refine T.exit (lX h fun h => ?_)
    obtain rfl:=osj h
    exact ⟨(),(),ks2,trivial,kw rfl rfl⟩
theorem F_impl_sortedOutcomes_1_P (a:List Int) (b:List Int) {q:Bool} (h:F_impl_sortedOutcomes_1 a b=some q):PCall Try.prog 57 [eL cI a,eL cI b] (Bo q):=by
 refine pM Try.func57 rfl (by kernel_rfl) rfl (T.sr (oN as' (TO.nil (T.sr (oN mv (oN mv (oC h (fun _=>F_slices_Equal_int_int_P _ _) rfl rfl rfl rfl fun v1 _ h=>oN as' (TO.nil (T.ret ?_)))))))))
 obtain rfl:=osj h
 exact finR rfl rfl rfl
set_option maxHeartbeats 4000000 in
theorem F_slices_CompactFunc_int_int__impl_sortedOutcomes_1_P (s:List (List Int)) (gw:Bool) (ver0:Nat) (hgw:gw=true->s=[]) {q:(List (List Int))} (h:F_slices_CompactFunc_int_int__impl_sortedOutcomes_1 s=some q):BCall Try.prog 56 [hS gw 0 ver0 1 s.length,.fn (.func 57) []] [bE gw ver0 1 63 (s.map (cL cI))] (OwnR 1 63 (fun x=>x) q.length (q.map (cL cI)) 0 []):=by
 refine BCall.mkS Try.func56 rfl (by kernel_rfl) rfl (by kernel_rfl) (e0:=envOf [(0,hS gw 0 ver0 1 s.length),(1,.fn (.func 57) [])]) (wkC rfl (wkC rfl wkN)) (T.sr (oN as' (TO.nil (T.seq (T.sr (oN mv (oN (EvN.lenO (g:=gw) sl29 rfl (nil_len hgw rfl)) (oN (EvN.ilt rfl rfl) (TO.nil ?_)))))))))
 refine T.ifH rfl h (fun q1 h => ?_) (fun q1 h => ?_)
 ·refine T.sr (oN mv (oN (EvN.asg (hS gw 0 ver0 1 s.length) rfl) (TO.nil (T.ret ?_))))
  obtain rfl:=osj h
  repeat (first|refine retS ?_|refine retB ?_)
  exact ⟨envOf [(4,hS gw 0 ver0 1 s.length)],[bE gw ver0 1 63 (s.map (cL cI))],kw rfl rfl,Fin.ret (vs:=[hS gw 0 ver0 1 s.length]) (.cons (.tmp rfl) .nil) ⟨gw,ver0,(nil_len hgw rfl),rfl,rfl⟩⟩
 ·refine T.skip ?_
  obtain ⟨Ks2,es2,ws2,h,ks2⟩:=sumL h
  refine T.join (S:=(List (List Int))) (G:=(Bool×Nat)) (fun s2=>Ks2 s2=some q) (fun s2 gh=>(gh.1=true->s2=[])) (fun s2 gh=>[(0,hS gh.1 0 gh.2 1 s2.length)]) (fun s2 gh=>[bE gh.1 gh.2 1 63 (s2.map (cL cI))]) (fun s2 gh h n45 => ?_) ?_
  ·clear ks2
   subst es2
   obtain ⟨b44,u43⟩:=gh
   refine T.sr (oN mv (oN (EvN.asg (hS b44 0 u43 1 s2.length) rfl) (TO.nil (T.ret ?_))))
   obtain rfl:=osj h
   repeat (first|refine retS ?_|refine retB ?_)
   exact ⟨envOf [(4,hS b44 0 u43 1 s2.length)],[bE b44 u43 1 63 (s2.map (cL cI))],kw rfl rfl,Fin.ret (vs:=[hS b44 0 u43 1 s2.length]) (.cons (.tmp rfl) .nil) ⟨b44,u43,(nil_len n45 rfl),rfl,rfl⟩⟩
  ·refine T.sr (oN as' (TO.nil (T.block ?_)))
   refine T.loop (S:=(List (List Int))×Int) (G:=(Bool×Nat)) F_slices_CompactFunc_int_int__impl_sortedOutcomes_1_L9 (fun s8 gh=>(gh.1=true->s8.1=[])) (fun s8 gh=>[(5,I s8.2),(0,hS gh.1 0 gh.2 1 s8.1.length),(1,.fn (.func 57) [])]) (fun s8 gh=>[bE gh.1 gh.2 1 63 (s8.1.map (cL cI))]) (s0:=(s,(1:Int))) (gw,ver0) h hgw (kw rfl rfl) (fun s8 gh ws8 h n12 => ?_)
   obtain ⟨b11,u10⟩:=gh
   refine T.seq (T.sr (oN mv (oN mv (oN (EvN.lenO (g:=b11) sl29 rfl (nil_len n12 rfl)) (oN (EvN.ilt rfl rfl) (TO.nil ?_))))))
   refine T.ifH rfl h (fun q13 h => ?_) (fun q13 h => ?_)
   ·refine T.skip ?_
    obtain ⟨Ks14,es14,ws14,h,ks14⟩:=sumL h
    refine T.join (S:=Unit) (G:=Unit) (fun s14=>Ks14 s14=some ws8) (fun s14 gh=>True) (fun s14 gh=>[(5,I s8.2),(0,hS false 0 u10 1 s8.1.length),(1,.fn (.func 57) [])]) (fun s14 gh=>[bE false u10 1 63 (s8.1.map (cL cI))]) (fun s14 gh h hg => ?_) ?_
    ·clear ks14
     subst es14
     refine T.region (oN mv (jW h fun g42 h=>oN (EvN.add rfl rfl g42) (oN as' (TO.nil ?_))))
     obtain rfl:=osj h
     exact ⟨(s8.1,(s8.2+(1:Int))),(false,u10),rfl,nofun,kw rfl rfl⟩
    ·refine T.block (T.seq (T.drawF (fun i=>[([],false),([],false),([],false),([],false),([0],false),([],false),([],false),([],false),([],false),([0],false),([],false)].getD i ([],false)) (by kernel_rfl) (by kernel_rfl) (fN rfl mv (fN rfl mv (fN rfl mv (jD h fun g15 h => ?_))))))
     obtain rfl:=gfalse n12 rfl g15
     refine fN rfl (EvN.ixO (g:=false) sl29 rfl rfl nofun g15) (fR [0] rfl (fun G hG=>EvA.ldO (g:=false) (l:=s8.1) (eL cI (s8.1.getD s8.2.toNat default)) ty63 rfl (hG.a0 rfl) nofun (toNat_lt' rfl g15) rfl) (fN rfl mv (fN rfl mv (jW h fun g16 h=>fN rfl (EvN.sub rfl rfl g16) (jD h fun g17 h=>fN rfl (EvN.ixO (g:=false) sl29 rfl rfl nofun g17) (fR [0] rfl (fun G hG=>EvA.ldO (g:=false) (l:=s8.1) (eL cI (s8.1.getD ((s8.2-(1:Int)).toNat) default)) ty63 rfl (hG.a0 rfl) nofun (toNat_lt' rfl g17) rfl) (fC h (fun _=>F_impl_sortedOutcomes_1_P _ _) rfl rfl rfl rfl rfl fun v18 _ h=>TF.nil ?_)))))))
     refine T.ifH rfl h (fun q19 h => ?_) (fun q19 h => ?_)
     ·refine T.sr (oN mv (oN mv (jD h fun g20 h=>oN (EvN.slhs Try.underlying29 ty63 (l:=s8.2) (h:=(s8.1.length:Int)) rfl (.yes rfl) .no g20) (oN as' (TO.nil ?_)))))
      refine T.jF (G:=Nat) h (fun s21 gh=>True) (fun s21 gh=>[(5,I s21.2),(0,hS false 0 gh 1 s21.1.length)]) (fun s21 gh=>[bE false gh 1 63 (s21.1.map (cL cI))]) (fun s21 u39 h hg => ?_) (fun s21 h => ?_)
      ·refine T.sr (oN mv (oN mv (jD h fun g40 h=>oN (EvN.slhs Try.underlying29 ty63 (l:=s21.2) (h:=(s21.1.length:Int)) rfl (.yes rfl) .no g40) (oV (EvA.clearO (l:=s21.1) sl29 zrN rfl rfl (osl_le (l:=s21.1) g40 rfl)) (TO.nil (T.sr (oN mv (oN mv (jD h fun g41 h=>oA (EvA.cutO (l:=(cpy s21.1 (0+s21.2.toNat) (List.replicate ((s21.1.length:Int).toNat-s21.2.toNat) (default:List Int)) ((s21.1.length:Int).toNat-s21.2.toNat))) (zl:=(0:Int)) (zh:=s21.2) (EvN.slhs Try.underlying29 ty63 (l:=(0:Int)) (h:=s21.2) rfl .no (.yes rfl) g41) rfl (by simp [cpy_length]) g41) (oN (EvN.asg (hS false 0 (u39+1) 1 ((((cpy s21.1 (0+s21.2.toNat) (List.replicate ((s21.1.length:Int).toNat-s21.2.toNat) (default:List Int)) ((s21.1.length:Int).toNat-s21.2.toNat)).drop (0:Int).toNat).take (s21.2.toNat-(0:Int).toNat)).length)) rfl) (TO.nil (T.ret ?_))))))))))))
       obtain rfl:=osj h
       replace h:=congrArg some (show _=_ from ks14)
       refine lX h fun h => ?_
       obtain rfl:=osj h
       replace h:=congrArg some (show _=_ from ks2)
       obtain rfl:=osj h
       repeat (first|refine retS ?_|refine retB ?_)
       exact ⟨envOf [(4,hS false 0 (u39+1) 1 ((((cpy s21.1 (0+s21.2.toNat) (List.replicate ((s21.1.length:Int).toNat-s21.2.toNat) (default:List Int)) ((s21.1.length:Int).toNat-s21.2.toNat)).drop (0:Int).toNat).take (s21.2.toNat-(0:Int).toNat)).length))],[bE false (u39+1) 1 63 ((((cpy s21.1 (0+s21.2.toNat) (List.replicate ((s21.1.length:Int).toNat-s21.2.toNat) (default:List Int)) ((s21.1.length:Int).toNat-s21.2.toNat)).drop (0:Int).toNat).take (s21.2.toNat-(0:Int).toNat)).map (cL cI))],kw rfl rfl,Fin.ret (vs:=[hS false 0 (u39+1) 1 ((((cpy s21.1 (0+s21.2.toNat) (List.replicate ((s21.1.length:Int).toNat-s21.2.toNat) (default:List Int)) ((s21.1.length:Int).toNat-s21.2.toNat)).drop (0:Int).toNat).take (s21.2.toNat-(0:Int).toNat)).length)]) (.cons (.tmp rfl) .nil) ⟨false,u39+1,nofun,rfl,rfl⟩⟩
      ·refine T.seq (T.clean (H0:=[bE false u10 1 63 (s8.1.map (cL cI))]) (e0:=envOf [(6,.hs 0 u10 1 (0+s8.2.toNat) ((s8.1.length:Int).toNat-s8.2.toNat)),(5,I s8.2),(0,hS false 0 u10 1 s8.1.length),(1,.fn (.func 57) [])]) rfl (wkC rfl (wkC rfl (wkC rfl (wkC rfl wkN)))) (T.region (oN as' (TO.nil (T.block ?_)))))
       refine T.loop (S:=(List (List Int))×Int×Int) (G:=Nat) (F_slices_CompactFunc_int_int__impl_sortedOutcomes_1_L26 s8) (fun s25 gh=>True) (fun s25 gh=>[(7,I s25.2.1),(6,.hs 0 gh 1 (0+s8.2.toNat) ((s8.1.length:Int).toNat-s8.2.toNat)),(5,I s25.2.2),(0,hS false 0 gh 1 s25.1.length),(1,.fn (.func 57) [])]) (fun s25 gh=>[bE false gh 1 63 (s25.1.map (cL cI))]) (s0:=(s8.1,(1:Int),s8.2)) u10 h trivial (kw rfl rfl) (fun s25 u27 ws25 h hg => ?_)
       let d0:=s25.1.getD ((0+s8.2.toNat)+s25.2.1.toNat) default
       refine T.seq (T.sr (oN mv (oN mv (oN (EvN.lenP sl29 rfl) (oN (EvN.ilt rfl rfl) (TO.nil ?_))))))
       refine T.ifH rfl h (fun q28 h => ?_) (fun q28 h => ?_)
       ·refine T.skip ?_
        refine T.jF (G:=Nat) h (fun s29 gh=>True) (fun s29 gh=>[(5,I s29.2),(7,I s25.2.1),(6,.hs 0 gh 1 (0+s8.2.toNat) ((s8.1.length:Int).toNat-s8.2.toNat)),(0,hS false 0 gh 1 s29.1.length),(1,.fn (.func 57) [])]) (fun s29 gh=>[bE false gh 1 63 (s29.1.map (cL cI))]) (fun s29 u37 h hg => ?_) (fun s29 h => ?_)
        ·refine T.region (oN mv (jW h fun g38 h=>oN (EvN.add rfl rfl g38) (oN as' (TO.nil ?_))))
         obtain rfl:=osj h
         exact ⟨(s29.1,(s25.2.1+(1:Int)),s29.2),u37,rfl,trivial,kw rfl rfl⟩
        ·refine T.block (T.seq (T.drawF (fun i=>[([],false),([],false),([],false),([],false),([0],false),([],false),([],false),([],false),([],false),([0],false),([],false),([],false)].getD i ([],false)) (by kernel_rfl) (by kernel_rfl) (fN rfl mv (fN rfl mv (fN rfl mv (jD h fun g30 h=>fN rfl (EvN.ixP sl29 rfl rfl g30.1) (fR [0] rfl (fun G hG=>EvA.ldO (g:=false) (l:=s25.1) (eL cI d0) ty63 rfl (hG.a0 rfl) nofun g30.2 rfl) (fN rfl mv (fN rfl mv (jW h fun g31 h=>fN rfl (EvN.sub rfl rfl g31) (jD h fun g32 h=>fN rfl (EvN.ixP sl29 rfl rfl g32.1) (fR [0] rfl (fun G hG=>EvA.ldO (g:=false) (l:=s25.1) (eL cI (s25.1.getD ((0+s8.2.toNat)+(s25.2.1-(1:Int)).toNat) default)) ty63 rfl (hG.a0 rfl) nofun g32.2 rfl) ?_))))))))))))
         refine fC h (fun _=>F_impl_sortedOutcomes_1_P _ _) rfl rfl rfl rfl rfl fun v33 _ h=>fN rfl (EvN.not rfl) (TF.nil ?_)
         refine T.ifH rfl h (fun q34 h => ?_) (fun q34 h => ?_)
         ·refine T.seq (T.clean (H0:=[bE false u27 1 63 (s25.1.map (cL cI))]) (e0:=envOf [(7,I s25.2.1),(6,.hs 0 u27 1 (0+s8.2.toNat) ((s8.1.length:Int).toNat-s8.2.toNat)),(5,I s25.2.2),(0,hS false 0 u27 1 s25.1.length),(1,.fn (.func 57) [])]) rfl (wkC rfl (wkC rfl (wkC rfl (wkC rfl (wkC rfl wkN))))) (T.region (oN mv (oN mv (oN mv (oN mv (oN (EvN.ixP sl29 rfl rfl g30.1) (oA (EvA.ldO (g:=false) (l:=s25.1) (eL cI d0) ty63 rfl rfl nofun g30.2 rfl) (jD h fun g35 h=>oN (EvN.ixO (g:=false) sl29 rfl rfl nofun g35) (oV (EvA.stO (g:=false) (l:=s25.1) (cs:=[eL cI d0]) d0 ty63 rfl rfl rfl nofun (toNat_lt' rfl g35) rfl rfl rfl) (TO.nil (T.region (oN mv (jW h fun g36 h => ?_))))))))))))))
          refine oN (EvN.add rfl rfl g36) (oN as' (TO.nil ?_))
          obtain rfl:=osj h
          exact ⟨u27,trivial,cutW rfl (wkC rfl (wkC rfl (wkC rfl (wkC (congrArg (hS false 0 u27 1) (by simp:s25.1.length=(s25.1.set s25.2.2.toNat d0).length)) (wkC rfl wkN)))))⟩
         ·refine T.skip ?_
          obtain rfl:=osj h
          exact ⟨u27,trivial,kw rfl rfl⟩
       ·refine T.exit (lX h fun h => ?_)
        obtain rfl:=osj h
        exact ⟨u27,trivial,kw rfl rfl⟩
     ·refine T.skip ?_
      obtain rfl:=osj h
      exact ⟨(),(),ks14,trivial,kw rfl rfl⟩
   ·refine T.exit (lX h fun h => ?_)
    obtain rfl:=osj h
    exact ⟨s8.1,(b11,u10),ks2,n12,kw rfl rfl⟩
theorem F_impl_sortedOutcomes_P (list:List (List Int)) (gw:Bool) (ver0:Nat) (hgw:gw=true->list=[]) {q:(List (List Int))} (h:F_impl_sortedOutcomes list=some q):BCall Try.prog 43 [hS gw 0 ver0 1 list.length] [bE gw ver0 1 63 (list.map (cL cI))] (OwnR 1 63 (fun x=>x) q.length (q.map (cL cI)) 0 []):=by
 refine BCall.mkS Try.func43 rfl (by kernel_rfl) rfl (by kernel_rfl) (e0:=envOf [(0,hS gw 0 ver0 1 list.length)]) (wkC rfl wkN) (T.sr (oN as' (TO.nil (T.sr (oN mv (jB h fun v1 cv1 h=>oA (EvA.call rfl rfl rfl ((F_slices_SortFunc_W list gw ver0 hgw cv1).oneE rfl (.cons (ren_hSg rfl) (.cons (.pF rfl) .nil)) (rowsM (fun _=>rfl)) (rowsM (fun _=>rfl)) rfl)) (TO.nil (T.sr (oN mv (jB h fun v2 cv2 h => ?_))))))))))
 refine oGW rfl rfl (F_slices_CompactFunc_int_int__impl_sortedOutcomes_1_P v1 gw ver0 (fun x=>F_slices_SortFunc_nil (hgw x) cv1) cv2) rfl (.cons (ren_hSgN rfl (F_slices_SortFunc_len cv1).symm) (.cons (.pF rfl) .nil)) (rowsM (fun _=>rfl)) (rowsM (fun _=>rfl)) ren_id (fun g3 v4 n5 => ?_)
 refine oN (EvN.asg (hS g3 0 v4 1 v2.length) rfl) (TO.nil (T.ret ?_))
 obtain rfl:=osj h
 repeat (first|refine retS ?_|refine retB ?_)
 exact ⟨envOf [(2,hS g3 0 v4 1 v2.length)],[bE g3 v4 1 63 (v2.map (cL cI))],kw rfl rfl,Fin.ret (vs:=[hS g3 0 v4 1 v2.length]) (.cons (.tmp rfl) .nil) ⟨g3,v4,(nil_len (fun x=>List.eq_nil_of_length_eq_zero (n5 x)) rfl),rfl,rfl⟩⟩
set_option maxHeartbeats 4000000 in
theorem F_impl_reach__impl_seq_P (start:ZSq) {q:(List (List Int))×Int} (h:F_impl_reach__impl_seq start=some q):PCall Try.prog 26 [.ifc 75 (.fp (ZSq.c start) 0)] (.tup [eL (cL cI) q.1,I q.2]):=by
 refine pM Try.func26 rfl (by kernel_rfl) rfl (T.sr (oN as' (oN as' (TO.nil (T.sr (oA (EvA.mmkB (kn:=1) kStr rfl) (oN mv (jB h fun v1 cv1 h=>oN (EvN.invS 16 rfl rfl (MethT.of (off:=0) (by kernel_rfl)) rfl rfl (F_impl_seq_key_P start cv1) rfl) (oV (EvA.minsB (l:=([]:List (ByteArray×Bool))) km69 Try.underlying69 v1 true rfl rfl rfl rfl) (oN mv (oN as' (TO.nil (T.seq (T.reserve ?_))))))))))))))
 refine T.region (oN (EvN.asg (hS true 1 0 1 (([]:List (List Int)).length)) rfl) (TO.nil ?_))
 refine T.jF (G:=(Bool×Nat)) h (fun s2 gh=>(gh.1=true->s2.2=[])) (fun s2 gh=>[(5,hS gh.1 1 gh.2 1 s2.2.length),(4,.mp 0 2)]) (fun s2 gh=>[(some (mB 1 1 kStr cB s2.1)),bE gh.1 gh.2 1 63 (s2.2.map (cL cI))]) (fun s2 gh h n45 => ?_) (fun s2 h => ?_)
 ·obtain ⟨b44,u43⟩:=gh
  refine T.sr (oN mv (jB h fun v46 cv46 h => ?_))
  refine oGW rfl rfl (F_impl_sortedOutcomes_P s2.2 b44 u43 n45 cv46) rfl (.cons (ren_hSg rfl) .nil) (rowsM (fun _=>rfl)) (rowsM (fun _=>rfl)) ren_id (fun g47 v48 n49 => ?_)
  refine oN mv (oA (EvA.mlenB (l:=s2.1) Try.underlying69 rfl rfl) (oN (EvN.asg (hS g47 1 v48 1 v46.length) rfl) (oN as' (TO.nil (T.ret ?_)))))
  obtain rfl:=osj h
  repeat (first|refine retS ?_|refine retB ?_)
  exact Fin.ret (vs:=[hS g47 1 v48 1 v46.length,I (s2.1.length:Int)]) (.cons (.tmp rfl) (.cons (.tmp rfl) .nil)) (.tupL (.cons (Fz.own (g:=g47) (ver:=v48) (l:=v46) rfl rfl rfl (fun x=>List.eq_nil_of_length_eq_zero (n49 x)) (fun _=>rfl)) (.cons (.of_isF 9 _ rfl) .nil)))
 ·refine T.sr (oN mv (oA (EvA.mkO (c:=(fun x=>[AV.ifc 75 (.fp (ZSq.c x) 0)])) ([start]:List ZSq) [[.ifc 75 (.fp (ZSq.c start) 0)]] sl70 rfl rfl rfl (fun _=>rfl) rfl rfl) (oN (EvN.asg (hS false 2 0 1 (([start]:List ZSq).length)) rfl) (TO.nil (T.block ?_)))))
  refine T.loop (S:=(List (ByteArray×Bool))×(List (List Int))×(List ZSq)) (G:=(Bool×Nat)×Nat) F_impl_reach__impl_seq_L10 (fun s9 gh=>(gh.1.1=true->s9.2.1=[])) (fun s9 gh=>[(6,hS false 2 gh.2 1 s9.2.2.length),(5,hS gh.1.1 1 gh.1.2 1 s9.2.1.length),(4,.mp 0 2)]) (fun s9 gh=>[(some (mB 1 1 kStr cB s9.1)),bE gh.1.1 gh.1.2 1 63 (s9.2.1.map (cL cI)),bE false gh.2 1 52 (s9.2.2.map (fun x=>[AV.ifc 75 (.fp (ZSq.c x) 0)]))]) (s0:=((mput ([]:List (ByteArray×Bool)) v1 true),([]:List (List Int)),([start]:List ZSq))) ((true,0),0) h (fun _=>rfl) (kw rfl rfl) (fun s9 gh ws9 h n13 => ?_)
  let d0:=((s9.2.2.length:Int)-(1:Int))
  obtain ⟨⟨b12,u11⟩,u14⟩:=gh
  refine T.seq (T.sr (oN mv (oN (EvN.lenO (g:=false) sl70 rfl nofun) (oN (EvN.igt rfl rfl) (TO.nil ?_)))))
  refine T.ifH rfl h (fun q15 h => ?_) (fun q15 h => ?_)
  ·refine T.skip (T.block (T.sr (oN mv (oN mv (oN (EvN.lenO (g:=false) sl70 rfl nofun) (jW h fun g16 h=>oN (EvN.sub rfl rfl g16) (jD h fun g17 h=>oN (EvN.ixO (g:=false) sl70 rfl rfl nofun g17) (oA (EvA.ldO (g:=false) (l:=s9.2.2) (.ifc 75 (.fp (ZSq.c (s9.2.2.getD (d0.toNat) default)) 0)) ty52 rfl rfl nofun (toNat_lt' rfl g17) rfl) (oN as' (TO.nil (T.sr (oN mv (oN mv ?_)))))))))))))
   refine oN (EvN.lenO (g:=false) sl70 rfl nofun) (oN (EvN.sub rfl rfl g16) (jD h fun g18 h=>oA (EvA.cutO (l:=s9.2.2) (zl:=(0:Int)) (zh:=d0) (EvN.slhs Try.underlying70 ty52 (l:=(0:Int)) (h:=d0) rfl .no (.yes rfl) g18) rfl rfl g18) (oN (EvN.asg (hS false 2 (u14+1) 1 (((s9.2.2.drop (0:Int).toNat).take (d0.toNat-(0:Int).toNat)).length)) rfl) (TO.nil ?_))))
   refine T.jF (G:=(Bool×Nat)) h (fun s19 gh=>(gh.1=true->s19=[])) (fun s19 gh=>[(5,hS gh.1 1 gh.2 1 s19.length),(6,hS false 2 (u14+1) 1 (((s9.2.2.drop (0:Int).toNat).take (d0.toNat-(0:Int).toNat)).length)),(7,.ifc 75 (.fp (ZSq.c (s9.2.2.getD (d0.toNat) default)) 0)),(4,.mp 0 2)]) (fun s19 gh=>[(some (mB 1 1 kStr cB s9.1)),bE gh.1 gh.2 1 63 (s19.map (cL cI)),bE false (u14+1) 1 52 (((s9.2.2.drop (0:Int).toNat).take (d0.toNat-(0:Int).toNat)).map (fun x=>[AV.ifc 75 (.fp (ZSq.c x) 0)]))]) (fun s19 gh h n26 => ?_) (fun s19 h => ?_)
   ·obtain ⟨b25,u24⟩:=gh
    refine T.sr (oN mv (jB h fun v27 cv27 h=>oN (EvN.invS 16 rfl rfl (MethT.of (off:=0) (by kernel_rfl)) rfl rfl (F_impl_seq_moves_P (s9.2.2.getD (d0.toNat) default) cv27) rfl) (oN (EvN.lenL sl63 rfl) (oN mv (TO.nil (T.block ?_))))))
    refine T.loop (S:=(List (ByteArray×Bool))×(List ZSq)×Int) (G:=Nat) (F_impl_reach__impl_seq_L32 s9 s19 v27) (fun s31 gh=>True) (fun s31 gh=>[(42,I s31.2.2),(41,I (v27.length:Int)),(40,eL cI v27),(5,hS b25 1 u24 1 s19.length),(6,hS false 2 gh 1 s31.2.1.length),(7,.ifc 75 (.fp (ZSq.c (s9.2.2.getD (d0.toNat) default)) 0)),(4,.mp 0 2)]) (fun s31 gh=>[(some (mB 1 1 kStr cB s31.1)),bE b25 u24 1 63 (s19.map (cL cI)),bE false gh 1 52 (s31.2.1.map (fun x=>[AV.ifc 75 (.fp (ZSq.c x) 0)]))]) (s0:=(s9.1,((s9.2.2.drop (0:Int).toNat).take (d0.toNat-(0:Int).toNat)),(0:Int))) (u14+1) h trivial (kw rfl rfl) (fun s31 u33 ws31 h hg => ?_)
    refine T.sr (oN (EvN.ilt rfl rfl) (TO.nil (T.seq ?_)))
    refine T.ifH rfl h (fun q34 h => ?_) (fun q34 h => ?_)
    ·refine T.skip ?_
     refine T.jF (G:=Nat) h (fun s35 gh=>True) (fun s35 gh=>[(6,hS false 2 gh 1 s35.2.length),(42,I s31.2.2),(41,I (v27.length:Int)),(40,eL cI v27),(5,hS b25 1 u24 1 s19.length),(7,.ifc 75 (.fp (ZSq.c (s9.2.2.getD (d0.toNat) default)) 0)),(4,.mp 0 2)]) (fun s35 gh=>[(some (mB 1 1 kStr cB s35.1)),bE b25 u24 1 63 (s19.map (cL cI)),bE false gh 1 52 (s35.2.map (fun x=>[AV.ifc 75 (.fp (ZSq.c x) 0)]))]) (fun s35 u41 h hg => ?_) (fun s35 h => ?_)
     ·refine T.region (jW h fun g42 h=>oN (EvN.add rfl rfl g42) (oN mv (TO.nil ?_)))
      obtain rfl:=osj h
      exact ⟨(s35.1,s35.2,(s31.2.2+(1:Int))),u41,rfl,trivial,kw rfl rfl⟩
     ·refine T.block (T.sr (jD h fun g36 h=>oN (EvN.ixL sl63 rfl rfl g36 (fun _=>rfl)) (oN (lf (I (v27.getD s31.2.2.toNat default)) ty3 rfl) (oN as' (TO.nil (T.sr (oN mv (oN mv (jB h fun v37 cv37 h=>oN (EvN.invS 16 rfl rfl (MethT.of (off:=0) (by kernel_rfl)) rfl rfl (F_impl_seq_after_P (s9.2.2.getD (d0.toNat) default) (v27.getD s31.2.2.toNat default) cv37) rfl) (oN as' (TO.nil (T.sr (oN mv ?_)))))))))))))
      refine jB h fun v38 cv38 h=>oN (EvN.invS 16 rfl rfl (MethT.of (off:=0) (by kernel_rfl)) rfl rfl (F_impl_seq_key_P v37 cv38) rfl) (oN as' (TO.nil (T.sr (oN mv (oN mv (oA (EvA.lookB (l:=s31.1) km69 Try.underlying69 (by kernel_rfl) v38 rfl rfl rfl) (oN (EvN.not rfl) (TO.nil ?_))))))))
      refine T.ifH rfl h (fun q39 h => ?_) (fun q39 h => ?_)
      ·refine T.sr (oN mv (oN mv (oV (EvA.msetB (l:=s31.1) km69 Try.underlying69 v38 true rfl rfl rfl rfl) (TO.nil (T.clean (H0:=[(some (mB 1 1 kStr cB (mput s31.1 v38 true))),bE b25 u24 1 63 (s19.map (cL cI)),bE false u33 1 52 (s31.2.1.map (fun x=>[AV.ifc 75 (.fp (ZSq.c x) 0)]))]) (e0:=envOf [(10,.ifc 75 (.fp (ZSq.c v37) 0)),(42,I s31.2.2),(41,I (v27.length:Int)),(40,eL cI v27),(5,hS b25 1 u24 1 s19.length),(6,hS false 2 u33 1 s31.2.1.length),(7,.ifc 75 (.fp (ZSq.c (s9.2.2.getD (d0.toNat) default)) 0)),(4,.mp 0 2)]) rfl (wkC rfl (wkC rfl (wkC rfl (wkC rfl (wkC rfl (wkC rfl (wkC rfl (wkC rfl wkN)))))))) (T.region (oN mv (oN mv (oN (EvN.mkF (c:=(fun x=>[AV.ifc 75 (.fp (ZSq.c x) 0)])) ([v37]:List ZSq) [[.ifc 75 (.fp (ZSq.c v37) 0)]] sl70 rfl rfl rfl (fun _=>rfl) (fun _=>rfl) rfl) (jL h fun g40 h=>oA (EvA.app1 (g:=false) (l:=s31.2.1) v37 sl70 (by kernel_rfl) rfl rfl rfl nofun (SrcOk.fz (c:=(fun x=>[AV.ifc 75 (.fp (ZSq.c x) 0)])) (l:=([v37]:List ZSq)) rfl (fun _=>rfl)) g40) (oN (EvN.asg (hS false 2 (u33+1) 1 ((s31.2.1++[v37]).length)) rfl) (TO.nil ?_))))))))))))
       obtain rfl:=osj h
       exact ⟨u33+1,trivial,kw rfl rfl⟩
      ·refine T.skip ?_
       obtain rfl:=osj h
       exact ⟨u33,trivial,kw rfl rfl⟩
    ·refine T.exit (lX h fun h => ?_)
     obtain rfl:=osj h
     exact ⟨(s31.1,s19,s31.2.1),((b25,u24),u33),rfl,n26,kw rfl rfl⟩
   ·refine T.sr (oN mv (jB h fun v20 cv20 h=>oN (EvN.invS 16 rfl rfl (MethT.of (off:=0) (by kernel_rfl)) rfl rfl (F_impl_seq_done_P (s9.2.2.getD (d0.toNat) default) cv20) rfl) (TO.nil ?_)))
    refine T.ifH rfl h (fun q21 h => ?_) (fun q21 h => ?_)
    ·refine T.clean (H0:=[(some (mB 1 1 kStr cB s9.1)),bE b12 u11 1 63 (s9.2.1.map (cL cI)),bE false (u14+1) 1 52 (((s9.2.2.drop (0:Int).toNat).take (d0.toNat-(0:Int).toNat)).map (fun x=>[AV.ifc 75 (.fp (ZSq.c x) 0)]))]) (e0:=envOf [(6,hS false 2 (u14+1) 1 (((s9.2.2.drop (0:Int).toNat).take (d0.toNat-(0:Int).toNat)).length)),(7,.ifc 75 (.fp (ZSq.c (s9.2.2.getD (d0.toNat) default)) 0)),(5,hS b12 1 u11 1 s9.2.1.length),(4,.mp 0 2)]) rfl (wkC rfl (wkC rfl (wkC rfl (wkC rfl wkN)))) (T.region (oN mv (oN mv (jB h fun v22 cv22 h=>oN (EvN.invS 16 rfl rfl (MethT.of (off:=0) (by kernel_rfl)) rfl rfl (F_impl_values_outcome_P ((s9.2.2.getD (d0.toNat) default).values) cv22) rfl) (oN (EvN.mkF (c:=(cL cI)) ([v22]:List (List Int)) [[eL cI v22]] sl29 rfl rfl rfl (fun _=>rfl) (fun _=>rfl) rfl) (jL h fun g23 h=>oA (EvA.app1 (g:=b12) (l:=s9.2.1) v22 sl29 (by kernel_rfl) rfl rfl rfl n13 (SrcOk.fz (l:=([v22]:List (List Int))) rfl (fun _=>rfl)) g23) (oN (EvN.asg (hS false 1 (u11+1) 1 ((s9.2.1++[v22]).length)) rfl) (TO.nil ?_))))))))
     obtain rfl:=osj h
     exact ⟨(false,u11+1),nofun,kw rfl rfl⟩
    ·refine T.skip ?_
     obtain rfl:=osj h
     exact ⟨(b12,u11),n13,kw rfl rfl⟩
  ·refine T.exit (lX h fun h => ?_)
   obtain rfl:=osj h
   exact ⟨(b12,u11),n13,cutS rfl (.cons (.mp (fun _=>rfl)) (.cons (.list (g:=b12) (ver:=u11) (l:=s9.2.1) (fun _=>rfl)) .nil)) (stl_cons (.hS (g:=b12) (b:=1) (ver:=u11) (s:=1) (n:=s9.2.1.length) rfl) (stl_cons (.mp (Nat.le_of_ble_eq_true rfl)) stl_nil))⟩
theorem F_impl_RunSeq_P (p:List (List ZIn)) {q:(List (List Int))} (h:F_impl_RunSeq p=some q):PCall Try.prog 9 [eL (cL ZIn.c) p] (eL (cL cI) q):=by
 refine pM Try.func9 rfl (by kernel_rfl) rfl (T.sr (oN as' (TO.nil (T.seq (T.sr (oN mv (oC h (fun _=>F_impl_ProgramValid_P _) rfl rfl rfl rfl fun v1 _ h=>oN (EvN.not rfl) (TO.nil ?_))))))))
 refine T.ifH rfl h (fun q2 h => ?_) (fun q2 h => ?_)
 ·refine T.sr (oN as' (TO.nil (T.ret ?_)))
  obtain rfl:=osj h
  repeat (first|refine retS ?_|refine retB ?_)
  exact Fin.ret (vs:=[.nil]) (.cons (.tmp rfl) .nil) .nil0
 ·refine T.skip (T.sr (oN mv (oC h (fun _=>F_impl_newSeq_P _) rfl rfl rfl rfl fun v3 _ h=>oC h (fun _=>F_impl_reach__impl_seq_P _) rfl rfl rfl rfl fun v4 _ h=>oN mv (oN (EvN.ext (eL (cL cI) v4.1) rfl rfl) (oN (EvN.ext (I v4.2) rfl rfl) (oN as' (oN as' (TO.nil (T.sr (oN mv (oN as' (TO.nil (T.ret ?_)))))))))))))
  obtain rfl:=osj h
  exact finR rfl rfl rfl
end Go.Proofs.Ytlgfihlflchhgaa
