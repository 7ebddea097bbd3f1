/-
 The program's code computes the functions over plain values; printed by lift.py. No conditions.
-/
import Derived.Test.YtlmjnhnpahicmaaSVd
import Derived.Test.YtlmjnhnpahicmaaSf
import Derived.Test.YtlmjnhnpahicmaaGH
import Derived.Test.YtlmjnhnpahicmaaL28
import Derived.Test.YtlmjnhnpahicmaaBrV
import Derived.Test.YtlmjnhnpahicmaaS262
import Derived.Test.YtlmjnhnpahicmaaS331
import Derived.Test.YtlmjnhnpahicmaaSM1
import Derived.Test.YtlmjnhnpahicmaaSrS
namespace Go.Proofs.Ytlmjnhnpahicmaa
open Go.RowKit
set_option maxRecDepth 100000
theorem F_impl_writersOf_P (list:List ZEv) (loc:Int) {q:(List Int)} (h:F_impl_writersOf list loc=some q):PCall Try.prog 93 [eL ZEv.c list,I loc] (eL cI q):=by
 refine pM Try.func93 rfl (by kernel_rfl) rfl (T.sr (oN as' (TO.nil (T.seq (T.reserve (T.region (oN (EvN.asg (hS true 0 0 1 (([]:List Int).length)) rfl) (TO.nil ?_))))))))
 refine T.jF (G:=(Bool×Nat)) h (fun s1 gh=>(gh.1=true->s1=[])) (fun s1 gh=>[(5,hS gh.1 0 gh.2 1 s1.length)]) (fun s1 gh=>[bE gh.1 gh.2 1 3 (s1.map cI)]) (fun s1 gh h n25 => ?_) (fun s1 h => ?_)
 ·obtain ⟨b24,u23⟩:=gh
  refine T.sr (oN mv (oN (EvN.asg (hS b24 0 u23 1 s1.length) rfl) (TO.nil (T.ret ?_))))
  obtain rfl:=osj h
  repeat (first|refine retS ?_|refine retB ?_)
  exact Fin.ret (vs:=[hS b24 0 u23 1 s1.length]) (.cons (.tmp rfl) .nil) (Fz.own (g:=b24) (ver:=u23) (l:=s1) rfl rfl rfl n25 (fun _=>rfl))
 ·refine T.sr (oN mv (oN (EvN.lenL sl98 rfl) (oN mv (TO.nil (T.block ?_)))))
  refine T.loop (S:=(List Int)×Int) (G:=(Bool×Nat)) (F_impl_writersOf_L8 list loc) (fun s7 gh=>(gh.1=true->s7.1=[])) (fun s7 gh=>[(10,I s7.2),(9,I (list.length:Int)),(8,eL ZEv.c list),(5,hS gh.1 0 gh.2 1 s7.1.length),(1,I loc)]) (fun s7 gh=>[bE gh.1 gh.2 1 3 (s7.1.map cI)]) (s0:=(([]:List Int),(0:Int))) (true,0) h (fun _=>rfl) (kw rfl rfl) (fun s7 gh ws7 h n11 => ?_)
  obtain ⟨b10,u9⟩:=gh
  refine T.sr (oN (EvN.ilt rfl rfl) (TO.nil (T.seq ?_)))
  refine T.ifH rfl h (fun q12 h => ?_) (fun q12 h => ?_)
  ·refine T.skip ?_
   refine T.jF (G:=(Bool×Nat)) h (fun s13 gh=>(gh.1=true->s13=[])) (fun s13 gh=>[(5,hS gh.1 0 gh.2 1 s13.length),(10,I s7.2),(9,I (list.length:Int)),(8,eL ZEv.c list),(1,I loc)]) (fun s13 gh=>[bE gh.1 gh.2 1 3 (s13.map cI)]) (fun s13 gh h n21 => ?_) (fun s13 h => ?_)
   ·obtain ⟨b20,u19⟩:=gh
    refine T.region (jW h fun g22 h=>oN (EvN.add rfl rfl g22) (oN mv (TO.nil ?_)))
    obtain rfl:=osj h
    exact ⟨(s13,(s7.2+(1:Int))),(b20,u19),rfl,n21,kw rfl rfl⟩
   ·refine T.block (T.sr (oN mv (jD h fun g14 h=>oN (EvN.ixL sl98 rfl rfl g14 (fun _=>rfl)) (oN (lf (.agg (ZEv.c (list.getD s7.2.toNat default))) ty101 rfl) (oA (EvA.al zs101 rfl rfl) (oN as' (oV (sr (ZEv.c (list.getD s7.2.toNat default)) ty101 rfl rfl rfl rfl) (TO.nil (T.sr (oN (fa fs101 rfl) (oA (lh (Bo ((list.getD s7.2.toNat default).Writes)) ty4 rfl rfl rfl) (oN mv ?_))))))))))))
    refine TO.jB h 5 (fun s15=>[(22,Bo s15),(6,I s7.2),(10,I s7.2),(9,I (list.length:Int)),(8,eL ZEv.c list),(5,hS b10 0 u9 1 s7.1.length),(1,I loc)]) (fun s15=>[bE b10 u9 1 3 (s7.1.map cI),some ⟨0,5,101,[(ZEv.c (list.getD s7.2.toNat default))]⟩]) (fun s15 q16 h js15 => ?_) (fun s15 q16 h js15 => ?_) (fun s15 h => ?_)
    ·refine gN rfl q16 (fa fs101 rfl) (gA rfl q16 (lh (I ((list.getD s7.2.toNat default).Loc)) ty3 rfl rfl rfl) (gN rfl q16 mv (gN rfl q16 (EvN.ieq rfl rfl) (oN (EvN.pickT rfl q16 (Bo (((list.getD s7.2.toNat default).Loc)==loc)) rfl) ?_))))
     obtain rfl:=osj h
     exact js15 _ _ (kw rfl rfl)
    ·refine gS rfl q16 (gS rfl q16 (gS rfl q16 (gS rfl q16 (oN (EvN.pickF rfl q16 (Bo false) rfl) ?_))))
     obtain rfl:=osj h
     exact js15 _ _ (kw rfl rfl)
    ·refine TO.nil ?_
     refine T.ifH rfl h (fun q17 h => ?_) (fun q17 h => ?_)
     ·refine T.region (oN mv (oN mv (oN (EvN.mkF (c:=cI) ([s7.2]:List Int) [[I s7.2]] sl23 rfl rfl rfl (fun _=>rfl) (fun _=>rfl) rfl) (jL h fun g18 h=>oA (EvA.app1 (g:=b10) (l:=s7.1) s7.2 sl23 (by kernel_rfl) rfl rfl rfl n11 (SrcOk.fz (l:=([s7.2]:List Int)) rfl (fun _=>rfl)) g18) (oN (EvN.asg (hS false 0 (u9+1) 1 ((s7.1++[s7.2]).length)) rfl) (TO.nil ?_))))))
      obtain rfl:=osj h
      exact ⟨(false,u9+1),nofun,cutS rfl (.cons (.list (g:=false) (ver:=u9+1) (l:=(s7.1++[s7.2])) (fun _=>rfl)) .nil) (stl_cons (.hS (g:=false) (b:=0) (ver:=u9+1) (s:=1) (n:=(s7.1++[s7.2]).length) rfl) (stl_cons (.fz (.of_isF 9 _ rfl)) (stl_cons (.fz (.of_isF 9 _ rfl)) (stl_cons (.fz (.of_isF 9 _ rfl)) (stl_cons (.fz (.of_isF 9 _ rfl)) stl_nil)))))⟩
     ·refine T.skip ?_
      obtain rfl:=osj h
      exact ⟨(b10,u9),n11,cutS rfl (.cons (.list (g:=b10) (ver:=u9) (l:=s7.1) (fun _=>rfl)) .nil) (stl_cons (.hS (g:=b10) (b:=0) (ver:=u9) (s:=1) (n:=s7.1.length) rfl) (stl_cons (.fz (.of_isF 9 _ rfl)) (stl_cons (.fz (.of_isF 9 _ rfl)) (stl_cons (.fz (.of_isF 9 _ rfl)) (stl_cons (.fz (.of_isF 9 _ rfl)) stl_nil)))))⟩
  ·refine T.exit (lX h fun h => ?_)
   obtain rfl:=osj h
   exact ⟨(b10,u9),n11,kw rfl rfl⟩
theorem F_slices_Clone_int_int_P (s:List Int) {q:(List Int)} (h:F_slices_Clone_int_int s=some q):PCall Try.prog 112 [eL cI s] (eL cI q):=by
 refine pM Try.func112 rfl (by kernel_rfl) rfl (T.sr (oN as' (TO.nil (T.seq (T.sr (oN mv ?_))))))
 refine oNil false Try.underlying23 rfl rfl (fun z1 => ?_) ?_
 ·replace h:=(nilK_is h).1 (by rw [z1];rfl)
  refine TO.nil ?_
  refine T.cond rfl (fun _ => ?_) (fun q=>absurd (q.symm.trans rfl) (by decide))
  refine T.sr (oN as' (TO.nil (T.ret ?_)))
  obtain rfl:=osj h
  repeat (first|refine retS ?_|refine retB ?_)
  exact Fin.ret (vs:=[.nil]) (.cons (.tmp rfl) .nil) .nil0
 ·replace h:=(nilK_is h).2
  refine TO.nil ?_
  refine T.cond rfl (fun q=>absurd (q.symm.trans rfl) (by decide)) (fun _ => ?_)
  refine T.skip (T.sr (oA (EvA.mkO (c:=cI) ([]:List Int) [] sl23 rfl rfl rfl (fun _=>rfl) rfl rfl) (oN mv (jL h fun g2 h=>oA (EvA.appF (l:=([]:List Int)) s sl23 (by kernel_rfl) rfl rfl rfl (SrcOk.fz (l:=s) rfl (fun _=>rfl)) g2) (oN (EvN.asg (hS false 0 (0+1) 1 ((([]:List Int)++s).length)) rfl) (TO.nil (T.ret ?_)))))))
  obtain rfl:=osj h
  repeat (first|refine retS ?_|refine retB ?_)
  exact Fin.ret (vs:=[hS false 0 (0+1) 1 ((([]:List Int)++s).length)]) (.cons (.tmp rfl) .nil) (Fz.own (g:=false) (ver:=0+1) (l:=(([]:List Int)++s)) rfl rfl rfl nofun (fun _=>rfl))
theorem F_slices_Clone_int_int_OP (s:List Int) {q:(List Int)} (h:F_slices_Clone_int_int s=some q):BCall Try.prog 112 [eL cI s] [] (OwnR 1 3 (fun x=>x) q.length (q.map cI) 0 []):=by
 refine BCall.mkO Try.func112 rfl (by kernel_rfl) rfl (by kernel_rfl) (e0:=envOf [(0,eL cI s)]) (wkC rfl wkN) ren_id (rowsM (fun _=>rfl)) (T.sr (oN as' (TO.nil (T.seq (T.sr (oN mv ?_))))))
 refine oNil false Try.underlying23 rfl rfl (fun z1 => ?_) ?_
 ·replace h:=(nilK_is h).1 (by rw [z1];rfl)
  refine TO.nil ?_
  refine T.cond rfl (fun _ => ?_) (fun q=>absurd (q.symm.trans rfl) (by decide))
  refine T.sr (oN as' (TO.nil (T.ret ?_)))
  obtain rfl:=osj h
  repeat (first|refine retS ?_|refine retB ?_)
  exact Fin.ret (vs:=[.nil]) (.cons (.tmp rfl) .nil) ⟨0,true,0,fun _=>rfl,rfl,nofun⟩
 ·replace h:=(nilK_is h).2
  refine TO.nil ?_
  refine T.cond rfl (fun q=>absurd (q.symm.trans rfl) (by decide)) (fun _ => ?_)
  refine T.skip (T.sr (oA (EvA.mkO (c:=cI) ([]:List Int) [] sl23 rfl rfl rfl (fun _=>rfl) rfl rfl) (oN mv (jL h fun g2 h=>oA (EvA.appF (l:=([]:List Int)) s sl23 (by kernel_rfl) rfl rfl rfl (SrcOk.fz (l:=s) rfl (fun _=>rfl)) g2) (oN (EvN.asg (hS false 0 (0+1) 1 ((([]:List Int)++s).length)) rfl) (TO.nil (T.ret ?_)))))))
  obtain rfl:=osj h
  repeat (first|refine retS ?_|refine retB ?_)
  exact Fin.ret (vs:=[hS false 0 (0+1) 1 ((([]:List Int)++s).length)]) (.cons (.tmp rfl) .nil) ⟨0,false,0+1,nofun,rfl,ownB rfl⟩
set_option maxHeartbeats 4000000 in
theorem F_impl_ExecValid_P (p:List (List ZIn)) (x:ZEx) {q:Bool} (h:F_impl_ExecValid p x=some q):PCall Try.prog 63 [eL (cL ZIn.c) p,.agg (ZEx.c x)] (Bo q):=by
 refine pM Try.func63 rfl (by kernel_rfl) rfl (T.sr (oN (EvN.bxF (ZEx.c x) rfl rfl rfl) (oN as' (TO.nil (T.seq (T.sr (oN mv (oC h (fun _=>F_impl_ProgramValid_P _) rfl rfl rfl rfl fun v1 _ h=>oN (EvN.not rfl) (TO.nil ?_)))))))))
 refine T.ifH rfl h (fun q2 h => ?_) (fun q2 h => ?_)
 ·refine T.sr (oN as' (TO.nil (T.ret ?_)))
  obtain rfl:=osj h
  exact finR rfl rfl rfl
 ·refine T.skip (T.sr (oN mv (oC h (fun _=>F_impl_events_P _) rfl rfl rfl rfl fun v3 _ h=>oN as' (TO.nil (T.seq (T.sr (oN (fa fs43 rfl) (oN (lf (eL cI x.From) ty23 rfl) (oN (EvN.lenL sl23 rfl) (oN mv (oN (EvN.lenL sl98 rfl) (oN (EvN.ine rfl rfl) (oN mv ?_)))))))))))))
  refine TO.jB h 5 (fun s4=>[(28,Bo s4),(5,eL ZEv.c v3),(3,.fp (ZEx.c x) 0)]) (fun s4=>[]) (fun s4 q5 h js4 => ?_) (fun s4 q5 h js4 => ?_) (fun s4 h => ?_)
  ·refine gS rfl q5 (gS rfl q5 (gS rfl q5 (gS rfl q5 (oN (EvN.pickT rfl q5 (Bo true) rfl) ?_))))
   obtain rfl:=osj h
   exact js4 _ _ (kw rfl rfl)
  ·refine gN rfl q5 (fa fs43 rfl) (gN rfl q5 (lf (eL (cL cI) x.Order) ty37 rfl) (gN rfl q5 (EvN.lenL sl37 rfl) (gN rfl q5 (EvN.ine rfl rfl) (oN (EvN.pickF rfl q5 (Bo ((x.Order.length:Int) != (3:Int))) rfl) ?_))))
   obtain rfl:=osj h
   exact js4 _ _ (kw rfl rfl)
  ·refine TO.nil ?_
   refine T.ifH rfl h (fun q6 h => ?_) (fun q6 h => ?_)
   ·refine T.sr (oN as' (TO.nil (T.ret ?_)))
    obtain rfl:=osj h
    exact finR rfl rfl rfl
   ·refine T.skip ?_
    obtain ⟨Ks7,es7,ws7,h,ks7⟩:=sumL h
    refine T.join (S:=Unit) (G:=Unit) (fun s7=>Ks7 s7=some q) (fun s7 gh=>True) (fun s7 gh=>[(5,eL ZEv.c v3),(3,.fp (ZEx.c x) 0)]) (fun s7 gh=>[]) (fun s7 gh h hg => ?_) ?_
    ·clear ks7
     subst es7
     obtain ⟨Ks27,es27,ws27,h,ks27⟩:=sumL h
     refine T.join (S:=Unit) (G:=Unit) (fun s27=>Ks27 s27=some q) (fun s27 gh=>True) (fun s27 gh=>[]) (fun s27 gh=>[]) (fun s27 gh h hg => ?_) ?_
     ·clear ks27
      subst es27
      refine T.sr (oN as' (TO.nil (T.ret ?_)))
      obtain rfl:=osj h
      exact finR rfl rfl rfl
     ·refine T.sr (oN (fa fs43 rfl) (oN (lf (eL (cL cI) x.Order) ty37 rfl) (oN (EvN.lenL sl37 rfl) (oN mv (TO.nil (T.block ?_))))))
      refine T.lU h (fun s30=>[(70,I s30),(69,I (x.Order.length:Int)),(68,eL (cL cI) x.Order),(5,eL ZEv.c v3)]) (fun s30=>[]) (kw rfl rfl) (fun s30 ws30 h => ?_)
      refine T.sr (oN (EvN.ilt rfl rfl) (TO.nil (T.seq ?_)))
      refine T.ifH rfl h (fun q32 h => ?_) (fun q32 h => ?_)
      ·refine T.skip (T.seq (T.block (T.sr (oN mv (jD h fun g33 h=>oN (EvN.ixL sl37 rfl rfl g33 (fun _=>rfl)) (oN (lf (eL cI (x.Order.getD s30.toNat default)) ty23 rfl) (oN as' (oN as' (TO.nil (T.sr (oN mv (jB h fun v34 cv34 h => ?_))))))))))))
       refine oG rfl rfl rfl ((F_slices_Clone_int_int_OP (x.Order.getD s30.toNat default) cv34).own rfl (rowsM (fun _=>rfl)) ren_id 0 rfl) (fun g35 v36 n37 => ?_)
       refine oN (EvN.asg (hS g35 0 v36 1 v34.length) rfl) (TO.nil (T.sr (oN mv (jB h fun v38 cv38 h=>oA (EvA.call rfl rfl rfl ((F_slices_Sort_W v34 g35 v36 (fun x=>List.eq_nil_of_length_eq_zero (n37 x)) cv38).oneE rfl (.cons (ren_hSg rfl) .nil) (rowsM (fun _=>rfl)) (rowsM (fun _=>rfl)) rfl)) (TO.nil (T.sr (oN mv (oN mv (oN mv (oC h (fun _=>F_impl_writersOf_P _ _) rfl rfl rfl rfl fun v39 _ h=>jB h fun v40 cv40 h=>oA (EvA.callT rfl rfl (F_slices_Equal_int_int_P v38 v39 cv40) (.cons (Fz.own (g:=g35) (ver:=v36) (l:=v38) rfl rfl (F_slices_Sort_len cv38).symm (fun x=>F_slices_Sort_nil ((fun x=>List.eq_nil_of_length_eq_zero (n37 x)) x) cv38) (fun _=>rfl)) (.cons (.of_isF 9 _ rfl) .nil)) rfl) (oN (EvN.not rfl) (oN mv ?_))))))))))))
       refine TO.jB h 6 (fun s41=>[(91,Bo s41),(70,I s30),(69,I (x.Order.length:Int)),(68,eL (cL cI) x.Order),(5,eL ZEv.c v3)]) (fun s41=>[bE g35 v36 1 3 (v38.map cI)]) (fun s41 q42 h js41 => ?_) (fun s41 q42 h js41 => ?_) (fun s41 h => ?_)
       ·refine gS rfl q42 (gS rfl q42 (gS rfl q42 (gS rfl q42 (gS rfl q42 (oN (EvN.pickT rfl q42 (Bo true) rfl) ?_)))))
        obtain rfl:=osj h
        exact js41 _ _ (kw rfl rfl)
       ·refine gN rfl q42 mv (jD h fun g43 h=>gN rfl q42 (EvN.ixL sl23 rfl rfl g43 (fun _=>rfl)) (gN rfl q42 (lf (I ((x.Order.getD s30.toNat default).getD (0:Int).toNat default)) ty3 rfl) (gN rfl q42 mv (gN rfl q42 (EvN.ine rfl rfl) (oN (EvN.pickF rfl q42 (Bo (((x.Order.getD s30.toNat default).getD (0:Int).toNat default) != s30)) rfl) ?_)))))
        obtain rfl:=osj h
        exact js41 _ _ (kw rfl rfl)
       ·refine TO.nil ?_
        refine T.ifH rfl h (fun q44 h => ?_) (fun q44 h => ?_)
        ·refine T.sr (oN as' (TO.nil (T.ret (lX h fun h => ?_))))
         obtain rfl:=osj h
         replace h:=congrArg some (show _=_ from ks27)
         obtain rfl:=osj h
         exact finR rfl rfl rfl
        ·refine T.skip (T.region (jW h fun g45 h=>oN (EvN.add rfl rfl g45) (oN mv (TO.nil ?_))))
         exact lE h (cutS rfl .nil (stl_cons (.fz (.of_isF 9 _ rfl)) (stl_cons (.fz (.of_isF 9 _ rfl)) (stl_cons (.fz (.of_isF 9 _ rfl)) (stl_cons (.fz (.of_isF 9 _ rfl)) stl_nil)))))
      ·refine T.exit (lX h fun h => ?_)
       obtain rfl:=osj h
       exact ⟨(),(),ks27,trivial,kw rfl rfl⟩
    ·refine T.sr (oN mv (oN (EvN.lenL sl98 rfl) (oN mv (TO.nil (T.block ?_)))))
     refine T.lU h (fun s10=>[(31,I s10),(30,I (v3.length:Int)),(29,eL ZEv.c v3),(5,eL ZEv.c v3),(3,.fp (ZEx.c x) 0)]) (fun s10=>[]) (kw rfl rfl) (fun s10 ws10 h => ?_)
     refine T.sr (oN (EvN.ilt rfl rfl) (TO.nil (T.seq ?_)))
     refine T.ifH rfl h (fun q12 h => ?_) (fun q12 h => ?_)
     ·refine T.skip (T.seq (T.block (T.sr (oN mv (jD h fun g13 h=>oN (EvN.ixL sl98 rfl rfl g13 (fun _=>rfl)) (oN (lf (.agg (ZEv.c (v3.getD s10.toNat default))) ty101 rfl) (oA (EvA.al zs101 rfl rfl) (oN as' (oV (sr (ZEv.c (v3.getD s10.toNat default)) ty101 rfl rfl rfl rfl) (TO.nil (T.sr (oN (fa fs43 rfl) (oN (lf (eL cI x.From) ty23 rfl) (oN mv ?_))))))))))))))
      refine jD h fun g14 h=>oN (EvN.ixL sl23 rfl rfl g14 (fun _=>rfl)) (oN (lf (I (x.From.getD s10.toNat default)) ty3 rfl) (oN as' (TO.nil (T.sr (oN (fa fs101 rfl) (oA (lh (Bo ((v3.getD s10.toNat default).Reads)) ty4 rfl rfl rfl) (oN (EvN.not rfl) (oN mv ?_))))))))
      refine TO.jB h 3 (fun s15=>[(47,Bo s15),(8,I (x.From.getD s10.toNat default)),(6,I s10),(7,.hp 0 0 5 0 0),(31,I s10),(30,I (v3.length:Int)),(29,eL ZEv.c v3),(5,eL ZEv.c v3),(3,.fp (ZEx.c x) 0)]) (fun s15=>[some ⟨0,5,101,[(ZEv.c (v3.getD s10.toNat default))]⟩]) (fun s15 q16 h js15 => ?_) (fun s15 q16 h js15 => ?_) (fun s15 h => ?_)
      ·refine gN rfl q16 mv (gN rfl q16 (EvN.ine rfl rfl) (oN (EvN.pickT rfl q16 (Bo ((x.From.getD s10.toNat default) != (-1:Int))) rfl) ?_))
       obtain rfl:=osj h
       exact js15 _ _ (kw rfl rfl)
      ·refine gS rfl q16 (gS rfl q16 (oN (EvN.pickF rfl q16 (Bo false) rfl) ?_))
       obtain rfl:=osj h
       exact js15 _ _ (kw rfl rfl)
      ·refine oN mv ?_
       refine TO.jB h 17 (fun s17=>[(65,Bo s17),(31,I s10),(30,I (v3.length:Int)),(29,eL ZEv.c v3),(5,eL ZEv.c v3),(3,.fp (ZEx.c x) 0)]) (fun s17=>[some ⟨0,5,101,[(ZEv.c (v3.getD s10.toNat default))]⟩]) (fun s17 q18 h js17 => ?_) (fun s17 q18 h js17 => ?_) (fun s17 h => ?_)
       ·refine gS rfl q18 (gS rfl q18 (gS rfl q18 (gU rfl (gU rfl (gU rfl (gU rfl (gU rfl (gU rfl (gU rfl (gU rfl (gU rfl (gU rfl (gU rfl (gU rfl (gS rfl q18 ?_)))))))))))))))
        refine oN (EvN.pickT rfl q18 (Bo true) rfl) ?_
        obtain rfl:=osj h
        exact js17 _ _ (kw rfl rfl)
       ·refine gN rfl q18 (fa fs101 rfl) (gA rfl q18 (lh (Bo ((v3.getD s10.toNat default).Reads)) ty4 rfl rfl rfl) (gN rfl q18 mv ?_))
        refine TO.jB h 13 (fun s19=>[(64,Bo s19),(51,Bo ((v3.getD s10.toNat default).Reads)),(50,Bo ((v3.getD s10.toNat default).Reads)),(49,.hp 0 0 5 0 3),(48,Bo s15),(31,I s10),(30,I (v3.length:Int)),(29,eL ZEv.c v3),(5,eL ZEv.c v3),(3,.fp (ZEx.c x) 0)]) (fun s19=>[some ⟨0,5,101,[(ZEv.c (v3.getD s10.toNat default))]⟩]) (fun s19 q20 h js19 => ?_) (fun s19 q20 h js19 => ?_) (fun s19 h => ?_)
        ·refine gN rfl q20 mv (gN rfl q20 mv (gN rfl q20 (EvN.ieq rfl rfl) (gN rfl q20 mv ?_)))
         refine TO.jB h 8 (fun s21=>[(63,Bo s21),(55,Bo ((x.From.getD s10.toNat default)==s10)),(54,Bo ((x.From.getD s10.toNat default)==s10)),(53,I s10),(52,I (x.From.getD s10.toNat default)),(51,Bo ((v3.getD s10.toNat default).Reads)),(50,Bo ((v3.getD s10.toNat default).Reads)),(49,.hp 0 0 5 0 3),(48,Bo s15),(31,I s10),(30,I (v3.length:Int)),(29,eL ZEv.c v3),(5,eL ZEv.c v3),(3,.fp (ZEx.c x) 0)]) (fun s21=>[some ⟨0,5,101,[(ZEv.c (v3.getD s10.toNat default))]⟩]) (fun s21 q22 h js21 => ?_) (fun s21 q22 h js21 => ?_) (fun s21 h => ?_)
         ·refine gS rfl q22 (gS rfl q22 (gS rfl q22 (gS rfl q22 (gS rfl q22 (gS rfl q22 (gS rfl q22 (gN rfl q20 (EvN.pickT rfl q22 (Bo true) rfl) ?_)))))))
          obtain rfl:=osj h
          exact js21 _ _ (kw rfl rfl)
         ·refine gN rfl q22 mv (gN rfl q22 (fa fs101 rfl) (gA rfl q22 (lh (I ((v3.getD s10.toNat default).Loc)) ty3 rfl rfl rfl) (jB h fun v23 cv23 h=>gN rfl q22 (EvN.call rfl rfl rfl (F_impl_writersOf_P v3 ((v3.getD s10.toNat default).Loc) cv23) rfl) (gN rfl q22 mv (jB h fun v24 cv24 h=>gN rfl q22 (EvN.call rfl rfl rfl (F_slices_Contains_int_int_P v23 (x.From.getD s10.toNat default) cv24) rfl) (gN rfl q22 (EvN.not rfl) (gN rfl q20 (EvN.pickF rfl q22 (Bo (!v24)) rfl) ?_)))))))
          obtain rfl:=osj h
          exact js21 _ _ (kw rfl rfl)
         ·refine gN rfl q18 (EvN.pickT rfl q20 (Bo s21) rfl) ?_
          obtain rfl:=osj h
          exact js19 _ _ (kw rfl rfl)
        ·refine gS rfl q20 (gS rfl q20 (gS rfl q20 (gS rfl q20 (gU rfl (gU rfl (gU rfl (gU rfl (gU rfl (gU rfl (gU rfl (gS rfl q20 (gN rfl q18 (EvN.pickF rfl q20 (Bo false) rfl) ?_))))))))))))
         obtain rfl:=osj h
         exact js19 _ _ (kw rfl rfl)
        ·refine oN (EvN.pickF rfl q18 (Bo s19) rfl) ?_
         obtain rfl:=osj h
         exact js17 _ _ (kw rfl rfl)
       ·refine TO.nil ?_
        refine T.ifH rfl h (fun q25 h => ?_) (fun q25 h => ?_)
        ·refine T.sr (oN as' (TO.nil (T.ret (lX h fun h => ?_))))
         obtain rfl:=osj h
         replace h:=congrArg some (show _=_ from ks7)
         obtain rfl:=osj h
         exact finR rfl rfl rfl
        ·refine T.skip (T.region (jW h fun g26 h=>oN (EvN.add rfl rfl g26) (oN mv (TO.nil ?_))))
         exact lE h (cutS rfl .nil (stl_cons (.fz (.of_isF 9 _ rfl)) (stl_cons (.fz (.of_isF 9 _ rfl)) (stl_cons (.fz (.of_isF 9 _ rfl)) (stl_cons (.fz (.of_isF 9 _ rfl)) (stl_cons (.fz (.of_isF 9 _ rfl)) stl_nil))))))
     ·refine T.exit (lX h fun h => ?_)
      obtain rfl:=osj h
      exact ⟨(),(),ks7,trivial,kw rfl rfl⟩
theorem F_impl_ScheduleOf_OP (p:List (List ZIn)) (x:ZEx) {q:(List Int)×Bool} (h:F_impl_ScheduleOf p x=some q):BCall Try.prog 26 [eL (cL ZIn.c) p,.agg (ZEx.c x)] [] (OwnR 1 3 (fun x => .tup [x,Bo q.2]) q.1.length (q.1.map cI) 0 []):=by
 refine BCall.mkO Try.func26 rfl (by kernel_rfl) rfl (by kernel_rfl) (e0:=envOf [(0,eL (cL ZIn.c) p),(1,.agg (ZEx.c x))]) (wkC rfl (wkC rfl wkN)) (ren_t1 rfl) (rowsM (fun _=>rfl)) (T.sr (oN (EvN.bxF (ZEx.c x) rfl rfl rfl) (oN as' (oN as' (TO.nil (T.seq (T.sr (oN mv (oN (lf (.agg (ZEx.c x)) ty43 rfl) (oC h (fun _=>F_impl_ExecValid_P _ _) rfl rfl rfl rfl fun v1 _ h=>oN (EvN.not rfl) (TO.nil ?_)))))))))))
 refine T.ifH rfl h (fun q2 h => ?_) (fun q2 h => ?_)
 ·refine T.sr (oN as' (oN as' (TO.nil (T.ret ?_))))
  obtain rfl:=osj h
  repeat (first|refine retS ?_|refine retB ?_)
  exact Fin.ret (vs:=[.nil,Bo false]) (.cons (.tmp rfl) (.cons (.tmp rfl) .nil)) ⟨0,true,0,fun _=>rfl,rfl,nofun⟩
 ·refine T.skip (T.sr (oN mv (oN (lf (.agg (ZEx.c x)) ty43 rfl) (jB h fun v3 cv3 h => ?_))))
  refine oG rfl rfl rfl ((F_impl_scheduleOf_OP p x cv3).own rfl (rowsM (fun _=>rfl)) (ren_t1 rfl) 0 rfl) (fun g4 v5 n6 => ?_)
  refine oN (EvN.ext (hS g4 0 v5 1 v3.1.length) rfl rfl) (oN (EvN.ext (Bo v3.2) rfl rfl) (oN (EvN.asg (hS g4 0 v5 1 v3.1.length) rfl) (oN as' (TO.nil (T.ret ?_)))))
  obtain rfl:=osj h
  repeat (first|refine retS ?_|refine retB ?_)
  exact Fin.ret (vs:=[hS g4 0 v5 1 v3.1.length,Bo v3.2]) (.cons (.tmp rfl) (.cons (.tmp rfl) .nil)) ⟨0,g4,v5,(nil_len (fun x=>List.eq_nil_of_length_eq_zero (n6 x)) rfl),rfl,ownB rfl⟩
theorem F_laws_szIntS_P (a:List Int) (left:Int) {q:Int} (h:F_laws_szIntS a left=some q):PCall Try.prog 57 [eL cI a,I left] (I q):=by
 refine pM Try.func57 rfl (by kernel_rfl) rfl (T.sr (oN as' (TO.nil (T.sr (oN mv (oN mv (oN (EvN.lenL sl23 rfl) (jW h fun g1 h=>oN (EvN.sub rfl rfl g1) (oN as' (TO.nil (T.seq (T.sr (oN mv (oN (EvN.ilt rfl rfl) ?_))))))))))))))
 refine TO.nil ?_
 refine T.ifH rfl h (fun q2 h => ?_) (fun q2 h => ?_)
 ·refine T.sr (oN as' (TO.nil (T.ret ?_)))
  obtain rfl:=osj h
  exact finR rfl rfl rfl
 ·refine T.skip (T.sr (oN mv (oN as' (TO.nil (T.ret ?_)))))
  obtain rfl:=osj h
  exact finR rfl rfl rfl
theorem F_laws_szIntSS_P (a:List (List Int)) (left:Int) {q:Int} (h:F_laws_szIntSS a left=some q):PCall Try.prog 58 [eL (cL cI) a,I left] (I q):=by
 refine pM Try.func58 rfl (by kernel_rfl) rfl (T.sr (oN as' (TO.nil (T.sr (oN mv (oN mv (oN (EvN.lenL sl37 rfl) (jW h fun g1 h=>oN (EvN.sub rfl rfl g1) (oN as' (TO.nil (T.seq (T.sr (oN mv (oN (EvN.ilt rfl rfl) ?_))))))))))))))
 refine TO.nil ?_
 refine T.ifH rfl h (fun q2 h => ?_) (fun q2 h => ?_)
 ·refine T.sr (oN as' (TO.nil (T.ret ?_)))
  obtain rfl:=osj h
  exact finR rfl rfl rfl
 ·refine T.skip ?_
  obtain ⟨Ks3,es3,ws3,h,ks3⟩:=sumL h
  refine T.join (S:=Int) (G:=Unit) (fun s3=>Ks3 s3=some q) (fun s3 gh=>True) (fun s3 gh=>[(1,I s3)]) (fun s3 gh=>[]) (fun s3 gh h hg => ?_) ?_
  ·clear ks3
   subst es3
   refine T.sr (oN mv (oN as' (TO.nil (T.ret ?_))))
   obtain rfl:=osj h
   exact finR rfl rfl rfl
  ·refine T.sr (oN as' (TO.nil (T.block ?_)))
   refine T.lU h (fun s6=>[(5,I s6.1),(1,I s6.2),(0,eL (cL cI) a)]) (fun s6=>[]) (kw rfl rfl) (fun s6 ws6 h => ?_)
   refine T.seq (T.sr (oN mv (oN mv (oN (EvN.lenL sl37 rfl) (oN (EvN.ilt rfl rfl) (TO.nil ?_))))))
   refine T.ifH rfl h (fun q8 h => ?_) (fun q8 h => ?_)
   ·refine T.skip (T.seq (T.block (T.sr (oN mv (oN mv (jD h fun g9 h=>oN (EvN.ixL sl37 rfl rfl g9 (fun _=>rfl)) (oN (lf (eL cI (a.getD s6.1.toNat default)) ty23 rfl) (oN mv (oC h (fun _=>F_laws_szIntS_P _ _) rfl rfl rfl rfl fun v10 _ h=>oN as' (TO.nil (T.sr (oN mv (oN (EvN.ilt rfl rfl) ?_)))))))))))))
    refine TO.nil ?_
    refine T.ifH rfl h (fun q11 h => ?_) (fun q11 h => ?_)
    ·refine T.seq (T.clean (H0:=[]) (e0:=envOf []) rfl wkN (T.region (oN as' (TO.nil (T.ret (lX h fun h => ?_))))))
     obtain rfl:=osj h
     replace h:=congrArg some (show _=_ from ks3)
     obtain rfl:=osj h
     exact finR rfl rfl rfl
    ·refine T.skip (T.region (oN mv (jW h fun g12 h=>oN (EvN.add rfl rfl g12) (oN as' (TO.nil ?_)))))
     exact lE h (kw rfl rfl)
   ·refine T.exit (lX h fun h => ?_)
    obtain rfl:=osj h
    exact ⟨s6.2,(),ks3,trivial,kw rfl rfl⟩
theorem F_laws_szExec_P (a:Xlaws_Exec) (left:Int) {q:Int} (h:F_laws_szExec a left=some q):PCall Try.prog 23 [.agg (Xlaws_Exec.c a),I left] (I q):=by
 refine pM Try.func23 rfl (by kernel_rfl) rfl (T.sr (oN (EvN.bxF (Xlaws_Exec.c a) rfl rfl rfl) (oN as' (TO.nil (T.sr (oN (fa fs39 rfl) (oN (lf (eL cI a.From) ty23 rfl) (oN mv (oC h (fun _=>F_laws_szIntS_P _ _) rfl rfl rfl rfl fun v1 _ h=>oN as' (TO.nil (T.seq (T.sr (oN mv (oN (EvN.ilt rfl rfl) ?_))))))))))))))
 refine TO.nil ?_
 refine T.ifH rfl h (fun q2 h => ?_) (fun q2 h => ?_)
 ·refine T.sr (oN as' (TO.nil (T.ret ?_)))
  obtain rfl:=osj h
  exact finR rfl rfl rfl
 ·refine T.skip (T.sr (oN (fa fs39 rfl) (oN (lf (eL (cL cI) a.Order) ty37 rfl) (oN mv (oC h (fun _=>F_laws_szIntSS_P _ _) rfl rfl rfl rfl fun v3 _ h=>oN as' (TO.nil (T.seq (T.sr (oN mv (oN (EvN.ilt rfl rfl) (TO.nil ?_)))))))))))
  refine T.ifH rfl h (fun q4 h => ?_) (fun q4 h => ?_)
  ·refine T.seq (T.clean (H0:=[]) (e0:=envOf []) rfl wkN (T.region (oN as' (TO.nil (T.ret ?_)))))
   obtain rfl:=osj h
   exact finR rfl rfl rfl
  ·refine T.skip (T.seq (T.clean (H0:=[]) (e0:=envOf [(1,I v3)]) rfl (wkC rfl wkN) (T.region (oN mv (oN as' (TO.nil (T.ret ?_)))))))
   obtain rfl:=osj h
   exact finR rfl rfl rfl
theorem F_laws_eqIntSS_P (a:List (List Int)) (b:List (List Int)) {q:Bool} (h:F_laws_eqIntSS a b=some q):PCall Try.prog 65 [eL (cL cI) a,eL (cL cI) b] (Bo q):=by
 refine pM Try.func65 rfl (by kernel_rfl) rfl (T.sr (oN as' (TO.nil (T.seq (T.sr (oN mv (oN (EvN.lenL sl37 rfl) (oN mv (oN (EvN.lenL sl37 rfl) (oN (EvN.ine rfl rfl) (TO.nil ?_)))))))))))
 refine T.ifH rfl h (fun q1 h => ?_) (fun q1 h => ?_)
 ·refine T.sr (oN as' (TO.nil (T.ret ?_)))
  obtain rfl:=osj h
  exact finR rfl rfl rfl
 ·refine T.skip ?_
  obtain ⟨Ks2,es2,ws2,h,ks2⟩:=sumL h
  refine T.join (S:=Unit) (G:=Unit) (fun s2=>Ks2 s2=some q) (fun s2 gh=>True) (fun s2 gh=>[]) (fun s2 gh=>[]) (fun s2 gh h hg => ?_) ?_
  ·clear ks2
   subst es2
   refine T.sr (oN as' (TO.nil (T.ret ?_)))
   obtain rfl:=osj h
   exact finR rfl rfl rfl
  ·refine T.sr (oN as' (TO.nil (T.block ?_)))
   refine T.lU h (fun s5=>[(5,I s5),(0,eL (cL cI) a),(1,eL (cL cI) b)]) (fun s5=>[]) (kw rfl rfl) (fun s5 ws5 h => ?_)
   refine T.seq (T.sr (oN mv (oN mv (oN (EvN.lenL sl37 rfl) (oN (EvN.ilt rfl rfl) (TO.nil ?_))))))
   refine T.ifH rfl h (fun q7 h => ?_) (fun q7 h => ?_)
   ·refine T.skip (T.seq (T.block (T.seq (T.drawF (fun _=>([],false)) (by kernel_rfl) (by kernel_rfl) (fN rfl mv (fN rfl mv (jD h fun g8 h=>fN rfl (EvN.ixL sl37 rfl rfl g8 (fun _=>rfl)) (fN rfl (lf (eL cI (a.getD s5.toNat default)) ty23 rfl) (fN rfl mv (fN rfl mv (jD h fun g9 h=>fN rfl (EvN.ixL sl37 rfl rfl g9 (fun _=>rfl)) (fN rfl (lf (eL cI (b.getD s5.toNat default)) ty23 rfl) (fC h (fun _=>F_laws_eqIntS_P _ _) rfl rfl rfl rfl rfl fun v10 _ h => ?_)))))))))))))
    refine fN rfl (EvN.not rfl) (TF.nil ?_)
    refine T.ifH rfl h (fun q11 h => ?_) (fun q11 h => ?_)
    ·refine T.seq (T.clean (H0:=[]) (e0:=envOf []) rfl wkN (T.region (oN as' (TO.nil (T.ret (lX h fun h => ?_))))))
     obtain rfl:=osj h
     replace h:=congrArg some (show _=_ from ks2)
     obtain rfl:=osj h
     exact finR rfl rfl rfl
    ·refine T.skip (T.region (oN mv (jW h fun g12 h=>oN (EvN.add rfl rfl g12) (oN as' (TO.nil ?_)))))
     exact lE h (kw rfl rfl)
   ·refine T.exit (lX h fun h => ?_)
    obtain rfl:=osj h
    exact ⟨(),(),ks2,trivial,kw rfl rfl⟩
theorem F_laws_eqExec_P (a:ZEx) (b:ZEx) {q:Bool} (h:F_laws_eqExec a b=some q):PCall Try.prog 27 [.agg (ZEx.c a),.agg (ZEx.c b)] (Bo q):=by
 refine pM Try.func27 rfl (by kernel_rfl) rfl (T.sr (oN (EvN.bxF [eL cI a.From,eL (cL cI) a.Order] rfl rfl rfl) (oN (EvN.bxF (ZEx.c b) rfl rfl rfl) (oN as' (TO.nil (T.seq (T.sr (oN (fa fs43 rfl) (oN (lf (eL cI a.From) ty23 rfl) (oN (fa fs43 rfl) (oN (lf (eL cI b.From) ty23 rfl) (oC h (fun _=>F_laws_eqIntS_P _ _) rfl rfl rfl rfl fun v1 _ h=>oN (EvN.not rfl) (TO.nil ?_)))))))))))))
 refine T.ifH rfl h (fun q2 h => ?_) (fun q2 h => ?_)
 ·refine T.sr (oN as' (TO.nil (T.ret ?_)))
  obtain rfl:=osj h
  exact finR rfl rfl rfl
 ·refine T.skip (T.seq (T.sr (oN (fa fs43 rfl) (oN (lf (eL (cL cI) a.Order) ty37 rfl) (oN (fa fs43 rfl) (oN (lf (eL (cL cI) b.Order) ty37 rfl) (oC h (fun _=>F_laws_eqIntSS_P _ _) rfl rfl rfl rfl fun v3 _ h=>oN (EvN.not rfl) (TO.nil ?_))))))))
  refine T.ifH rfl h (fun q4 h => ?_) (fun q4 h => ?_)
  ·refine T.seq (T.clean (H0:=[]) (e0:=envOf []) rfl wkN (T.region (oN as' (TO.nil (T.ret ?_)))))
   obtain rfl:=osj h
   exact finR rfl rfl rfl
  ·refine T.skip (T.seq (T.clean (H0:=[]) (e0:=envOf []) rfl wkN (T.region (oN as' (TO.nil (T.ret ?_))))))
   obtain rfl:=osj h
   exact finR rfl rfl rfl
end Go.Proofs.Ytlmjnhnpahicmaa
