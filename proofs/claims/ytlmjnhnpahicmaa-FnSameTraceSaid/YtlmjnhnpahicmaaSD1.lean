/-
 The program's code computes the functions over plain values; printed by lift.py. No conditions.
-/
import Derived.Test.YtlmjnhnpahicmaaSDd
import Derived.Test.YtlmjnhnpahicmaaSf
import Derived.Test.YtlmjnhnpahicmaaGH
import Derived.Test.YtlmjnhnpahicmaaMu2
import Derived.Test.YtlmjnhnpahicmaaSQ1
import Derived.Test.YtlmjnhnpahicmaaSR1
namespace Go.Proofs.Ytlmjnhnpahicmaa
open Go.RowKit
set_option maxRecDepth 100000
set_option maxHeartbeats 4000000 in
theorem F_spec_l3Schedule_P (r_:Xspec_l17Rd) (p:List (List ZIn)) (ver0:Nat) {q:Xspec_l17Rd×(List Int)} (h:F_spec_l3Schedule r_ p=some q):ACall Try.prog 75 [.hp 0 ver0 2 0 0,eL (cL ZIn.c) p] [some ⟨ver0,2,139,[(Xspec_l17Rd.c r_)]⟩] (eL cI q.2) [some ⟨ver0,2,139,[(Xspec_l17Rd.c q.1)]⟩]:=by
 refine aM Try.func75 rfl (by kernel_rfl) rfl (T.sr (oN as' (TO.nil (T.sr (oA (EvA.mkO (c:=cI) ([]:List Int) [] sl23 rfl rfl rfl (fun _=>rfl) rfl rfl) (oN (EvN.asg (hS false 1 0 1 (([]:List Int).length)) rfl) (TO.nil (T.sr (oN as' (TO.nil ?_))))))))))
 refine T.jF (G:=Nat) h (fun s1 gh=>True) (fun s1 gh=>[(6,I s1.2),(5,hS false 1 gh 1 s1.1.length),(0,.hp 0 ver0 2 0 0),(1,eL (cL ZIn.c) p)]) (fun s1 gh=>[some ⟨ver0,2,139,[(Xspec_l17Rd.c r_)]⟩,bE false gh 1 3 (s1.1.map cI)]) (fun s1 u13 h hg => ?_) (fun s1 h => ?_)
 ·refine T.sr (oA (EvA.mkO (c:=cI) ([]:List Int) [] sl23 rfl rfl rfl (fun _=>rfl) rfl rfl) (oN (EvN.asg (hS false 2 0 1 (([]:List Int).length)) rfl) (TO.nil ?_)))
  refine T.jF (G:=Nat×Nat) h (fun s14 gh=>True) (fun s14 gh=>[(8,hS false 2 gh.2 1 s14.2.2.2.length),(0,.hp 0 ver0 2 0 0)]) (fun s14 gh=>[some ⟨ver0,2,139,[[eL cY s14.1,I s14.2.1]]⟩,bE false gh.1 1 3 (s14.2.2.1.map cI),bE false gh.2 1 3 (s14.2.2.2.map cI)]) (fun s14 gh h hg => ?_) (fun s14 h => ?_)
  ·obtain ⟨u37,u38⟩:=gh
   refine T.jU h (fun s39=>[(8,eL cI s39.2.2)]) (fun s39=>[some ⟨ver0,2,139,[[eL cY s39.1,I s39.2.1]]⟩,bE false u37 1 3 (s14.2.2.1.map cI)]) (fun s39 h => ?_) (fun s39 h => ?_)
   ·refine T.sr (oN mv (oN as' (TO.nil (T.ret ?_))))
    obtain rfl:=osj h
    repeat (first|refine retS ?_|refine retB ?_)
    exact ⟨envOf [(4,eL cI s39.2.2)],[some ⟨ver0,2,139,[(Xspec_l17Rd.c (⟨s39.1,s39.2.1⟩:Xspec_l17Rd))]⟩],cutS rfl (.cons (.row (.cons (.fz (.of_isF 9 _ rfl)) (.cons (.fz (.of_isF 9 _ rfl)) .nil))) .nil) (stl_cons (.fz (.of_isF 9 _ rfl)) stl_nil),Fin.ret (vs:=[eL cI s39.2.2]) (.cons (.tmp rfl) .nil) ⟨rfl,rfl⟩⟩
   ·refine T.sr (oN mv (jB h fun v40 cv40 h=>oA (EvA.call rfl rfl rfl ((F_spec_l17Rd_pick_P (⟨s14.1,s14.2.1⟩:Xspec_l17Rd) (16:Int) ver0 cv40).one 0 rfl (.cons (.hp rfl) (.cons (.pF rfl) .nil)) (rowsF_row rfl) (rowsF_row rfl) rfl)) (TO.nil (T.block (T.sr (oN (EvN.ieq rfl rfl) (oN as' (TO.nil ?_))))))))
    refine T.ifH rfl h (fun q41 h => ?_) (fun q41 h => ?_)
    ·refine T.region (oN mv (oN mv (oN (EvN.mkF (c:=cI) ([(0:Int),(3:Int),(-1:Int)]:List Int) [[I (0:Int)],[I (3:Int)],[I (-1:Int)]] sl23 rfl rfl rfl (fun _=>rfl) (fun _=>rfl) rfl) (jB h fun v42 cv42 h=>oA (EvA.call rfl rfl rfl ((F_spec_l17Rd_num_P (⟨v40.1.b,v40.1.p⟩:Xspec_l17Rd) ([(0:Int),(3:Int),(-1:Int)]:List Int) ver0 cv42).one 0 rfl (.cons (.hp rfl) (.cons (.pF rfl) .nil)) (rowsF_row rfl) (rowsF_row rfl) rfl)) (oN (EvN.mkF (c:=cI) ([v42.2]:List Int) [[I v42.2]] sl23 rfl rfl rfl (fun _=>rfl) (fun _=>rfl) rfl) (jL h fun g43 h=>oA (EvA.app1 (g:=false) (l:=s14.2.2.2) v42.2 sl23 (by kernel_rfl) rfl rfl rfl nofun (SrcOk.fz (l:=([v42.2]:List Int)) rfl (fun _=>rfl)) g43) (oN (EvN.asg (hS false 2 (u38+1) 1 ((s14.2.2.2++[v42.2]).length)) rfl) (TO.nil ?_))))))))
     obtain rfl:=osj h
     exact ⟨(),trivial,cutS rfl (.cons (.row (.cons (.fz (.of_isF 9 _ rfl)) (.cons (.fz (.of_isF 9 _ rfl)) .nil))) (.cons (.list (g:=false) (ver:=u37) (l:=s14.2.2.1) (fun _=>rfl)) .nil)) (stl_cons (.fz (Fz.own (g:=false) (ver:=u38+1) (l:=(s14.2.2.2++[v42.2])) rfl rfl rfl nofun (fun _=>rfl))) stl_nil)⟩
    ·refine T.sr (oN (EvN.ieq rfl rfl) (oN as' (TO.nil ?_)))
     refine T.ifH rfl h (fun q44 h => ?_) (fun q44 h => ?_)
     ·refine T.sr (oN mv (oN (EvN.lenO (g:=false) sl23 rfl nofun) (oN (EvN.igt rfl rfl) (TO.nil ?_))))
      refine T.ifH rfl h (fun q45 h => ?_) (fun q45 h => ?_)
      ·refine T.region (oN mv (TO.cut (e0:=envOf [(78,eL cI s14.2.2.2)]) (H0:=[some ⟨ver0,2,139,[(Xspec_l17Rd.c v40.1)]⟩,bE false u37 1 3 (s14.2.2.1.map cI)]) (cutS rfl (.cons (.row (.cons (.fz (.of_isF 9 _ rfl)) (.cons (.fz (.of_isF 9 _ rfl)) .nil))) (.cons (.list (g:=false) (ver:=u37) (l:=s14.2.2.1) (fun _=>rfl)) .nil)) (stl_cons (.fz (Fz.own (g:=false) (ver:=u38) (l:=s14.2.2.2) rfl rfl rfl nofun (fun _=>rfl))) stl_nil)) (jD h fun g46 h=>oN (EvN.slL sl23 rfl (.yes rfl) .no g46 (fun _=>rfl)) (oN as' (TO.nil ?_)))))
       obtain rfl:=osj h
       exact ⟨(),trivial,kw rfl rfl⟩
      ·refine T.skip ?_
       obtain rfl:=osj h
       exact ⟨(),trivial,cutS rfl (.cons (.row (.cons (.fz (.of_isF 9 _ rfl)) (.cons (.fz (.of_isF 9 _ rfl)) .nil))) (.cons (.list (g:=false) (ver:=u37) (l:=s14.2.2.1) (fun _=>rfl)) .nil)) (stl_cons (.fz (Fz.own (g:=false) (ver:=u38) (l:=s14.2.2.2) rfl rfl rfl nofun (fun _=>rfl))) stl_nil)⟩
     ·refine T.skip ?_
      obtain rfl:=osj h
      exact ⟨(),trivial,cutS rfl (.cons (.row (.cons (.fz (.of_isF 9 _ rfl)) (.cons (.fz (.of_isF 9 _ rfl)) .nil))) (.cons (.list (g:=false) (ver:=u37) (l:=s14.2.2.1) (fun _=>rfl)) .nil)) (stl_cons (.fz (Fz.own (g:=false) (ver:=u38) (l:=s14.2.2.2) rfl rfl rfl nofun (fun _=>rfl))) stl_nil)⟩
  ·refine T.block ?_
   refine T.loop (S:=(List Int)×Int×(List Int)×(List Int)) (G:=Nat×Nat) (F_spec_l3Schedule_L20 p s1) (fun s19 gh=>True) (fun s19 gh=>[(8,hS false 2 gh.2 1 s19.2.2.2.length),(6,I s1.2),(5,hS false 1 gh.1 1 s19.2.2.1.length),(0,.hp 0 ver0 2 0 0),(1,eL (cL ZIn.c) p)]) (fun s19 gh=>[some ⟨ver0,2,139,[[eL cY s19.1,I s19.2.1]]⟩,bE false gh.1 1 3 (s19.2.2.1.map cI),bE false gh.2 1 3 (s19.2.2.2.map cI)]) (s0:=(r_.b,r_.p,s1.1,([]:List Int))) (u13,0) h trivial (kw rfl rfl) (fun s19 gh ws19 h hg => ?_)
   obtain ⟨u21,u22⟩:=gh
   refine T.seq (T.sr (oN mv (oN (EvN.lenO (g:=false) sl23 rfl nofun) (oN mv (oN (EvN.ilt rfl rfl) (TO.nil ?_))))))
   refine T.ifH rfl h (fun q23 h => ?_) (fun q23 h => ?_)
   ·refine T.skip (T.block (T.sr (oN mv (oN mv (oN (EvN.lenL sl27 rfl) (jB h fun v24 cv24 h=>oA (EvA.call rfl rfl rfl ((F_spec_l17Rd_pick_P (⟨s19.1,s19.2.1⟩:Xspec_l17Rd) (p.length:Int) ver0 cv24).one 0 rfl (.cons (.hp rfl) (.cons (.pF rfl) .nil)) (rowsF_row rfl) (rowsF_row rfl) rfl)) (oN as' (TO.nil ?_))))))))
    refine T.jU h (fun s25=>[(9,I s25),(8,hS false 2 u22 1 s19.2.2.2.length),(6,I s1.2),(5,hS false 1 u21 1 s19.2.2.1.length),(0,.hp 0 ver0 2 0 0),(1,eL (cL ZIn.c) p)]) (fun s25=>[some ⟨ver0,2,139,[(Xspec_l17Rd.c v24.1)]⟩,bE false u21 1 3 (s19.2.2.1.map cI),bE false u22 1 3 (s19.2.2.2.map cI)]) (fun s25 h => ?_) (fun s25 h => ?_)
    ·refine T.sr (oN mv (oN mv (oN mv (oN mv (jD h fun g34 h=>oN (EvN.ixO (g:=false) sl23 rfl rfl nofun g34) (oA (EvA.ldO (g:=false) (l:=s19.2.2.1) (I (s19.2.2.1.getD s25.toNat default)) ty3 rfl rfl nofun (toNat_lt' rfl g34) rfl) (jW h fun g35 h=>oN (EvN.sub rfl rfl g35) (oN (EvN.ixO (g:=false) sl23 rfl rfl nofun g34) (oV (EvA.stO (g:=false) (l:=s19.2.2.1) (cs:=[I ((s19.2.2.1.getD s25.toNat default)-(1:Int))]) ((s19.2.2.1.getD s25.toNat default)-(1:Int)) ty3 rfl rfl rfl nofun (toNat_lt' rfl g34) rfl rfl rfl) (TO.nil (T.region (oN mv (oN mv ?_)))))))))))))
     refine oN (EvN.mkF (c:=cI) ([s25]:List Int) [[I s25]] sl23 rfl rfl rfl (fun _=>rfl) (fun _=>rfl) rfl) (jL h fun g36 h=>oA (EvA.app1 (g:=false) (l:=s19.2.2.2) s25 sl23 (by kernel_rfl) rfl rfl rfl nofun (SrcOk.fz (l:=([s25]:List Int)) rfl (fun _=>rfl)) g36) (oN (EvN.asg (hS false 2 (u22+1) 1 ((s19.2.2.2++[s25]).length)) rfl) (TO.nil ?_)))
     obtain rfl:=osj h
     exact ⟨(v24.1.b,v24.1.p,(s19.2.2.1.set s25.toNat ((s19.2.2.1.getD s25.toNat default)-(1:Int))),(s19.2.2.2++[s25])),(u21,u22+1),rfl,trivial,cutW rfl (wkC rfl (wkC rfl (wkC (congrArg (hS false 1 u21 1) (by simp:s19.2.2.1.length=(s19.2.2.1.set s25.toNat ((s19.2.2.1.getD s25.toNat default)-(1:Int))).length)) (wkC rfl (wkC rfl wkN)))))⟩
    ·refine T.block ?_
     refine T.lU h (fun s28=>[(9,I s28),(8,hS false 2 u22 1 s19.2.2.2.length),(6,I s1.2),(5,hS false 1 u21 1 s19.2.2.1.length),(0,.hp 0 ver0 2 0 0),(1,eL (cL ZIn.c) p)]) (fun s28=>[some ⟨ver0,2,139,[(Xspec_l17Rd.c v24.1)]⟩,bE false u21 1 3 (s19.2.2.1.map cI),bE false u22 1 3 (s19.2.2.2.map cI)]) (kw rfl rfl) (fun s28 ws28 h => ?_)
     refine T.seq (T.sr (oN mv (oN mv (jD h fun g30 h=>oN (EvN.ixO (g:=false) sl23 rfl rfl nofun g30) (oA (EvA.ldO (g:=false) (l:=s19.2.2.1) (I (s19.2.2.1.getD s28.toNat default)) ty3 rfl rfl nofun (toNat_lt' rfl g30) rfl) (oN (EvN.ieq rfl rfl) (TO.nil ?_)))))))
     refine T.ifH rfl h (fun q31 h => ?_) (fun q31 h => ?_)
     ·refine T.skip (T.block (T.region (oN mv (jW h fun g32 h=>oN (EvN.add rfl rfl g32) (oN mv (oN (EvN.lenL sl27 rfl) (jD h fun g33 h=>oN (EvN.rem rfl rfl g33) (oN as' (TO.nil ?_)))))))))
      exact lE h (kw rfl rfl)
     ·refine T.exit (lX h fun h => ?_)
      obtain rfl:=osj h
      exact ⟨(),trivial,kw rfl rfl⟩
   ·refine T.exit (lX h fun h => ?_)
    obtain rfl:=osj h
    exact ⟨(u21,u22),trivial,kw rfl rfl⟩
 ·refine T.sr (oN as' (TO.nil (T.block ?_)))
  refine T.loop (S:=(List Int)×Int×Int) (G:=Nat) (F_spec_l3Schedule_L6 p) (fun s5 gh=>True) (fun s5 gh=>[(7,I s5.2.1),(6,I s5.2.2),(5,hS false 1 gh 1 s5.1.length),(0,.hp 0 ver0 2 0 0),(1,eL (cL ZIn.c) p)]) (fun s5 gh=>[some ⟨ver0,2,139,[(Xspec_l17Rd.c r_)]⟩,bE false gh 1 3 (s5.1.map cI)]) (s0:=(([]:List Int),(0:Int),(0:Int))) 0 h trivial (kw rfl rfl) (fun s5 u7 ws5 h hg => ?_)
  refine T.seq (T.sr (oN mv (oN mv (oN (EvN.lenL sl27 rfl) (oN (EvN.ilt rfl rfl) (TO.nil ?_))))))
  refine T.ifH rfl h (fun q8 h => ?_) (fun q8 h => ?_)
  ·refine T.skip (T.seq (T.block (T.sr (oN mv (oN mv (oN mv (jD h fun g9 h=>oN (EvN.ixL sl27 rfl rfl g9 (fun _=>rfl)) (oN (lf (eL ZIn.c (p.getD s5.2.1.toNat default)) ty57 rfl) (oN (EvN.lenL sl57 rfl) (oN (EvN.mkF (c:=cI) ([((p.getD s5.2.1.toNat default).length:Int)]:List Int) [[I ((p.getD s5.2.1.toNat default).length:Int)]] sl23 rfl rfl rfl (fun _=>rfl) (fun _=>rfl) rfl) (jL h fun g10 h=>oA (EvA.app1 (g:=false) (l:=s5.1) ((p.getD s5.2.1.toNat default).length:Int) sl23 (by kernel_rfl) rfl rfl rfl nofun (SrcOk.fz (l:=([((p.getD s5.2.1.toNat default).length:Int)]:List Int)) rfl (fun _=>rfl)) g10) (oN (EvN.asg (hS false 1 (u7+1) 1 ((s5.1++[((p.getD s5.2.1.toNat default).length:Int)]).length)) rfl) (TO.nil ?_)))))))))))))
   refine T.region (oN mv (oN mv (oN mv (oN (EvN.ixL sl27 rfl rfl g9 (fun _=>rfl)) (oN (lf (eL ZIn.c (p.getD s5.2.1.toNat default)) ty57 rfl) (oN (EvN.lenL sl57 rfl) (jW h fun g11 h=>oN (EvN.add rfl rfl g11) (oN as' (TO.nil (T.clean (H0:=[some ⟨ver0,2,139,[(Xspec_l17Rd.c r_)]⟩,bE false (u7+1) 1 3 ((s5.1++[((p.getD s5.2.1.toNat default).length:Int)]).map cI)]) (e0:=envOf [(6,I (s5.2.2+((p.getD s5.2.1.toNat default).length:Int))),(5,hS false 1 (u7+1) 1 ((s5.1++[((p.getD s5.2.1.toNat default).length:Int)]).length)),(7,I s5.2.1),(0,.hp 0 ver0 2 0 0),(1,eL (cL ZIn.c) p)]) rfl (wkC rfl (wkC rfl (wkC rfl (wkC rfl (wkC rfl wkN))))) (T.region (oN mv (jW h fun g12 h=>oN (EvN.add rfl rfl g12) ?_)))))))))))))
   refine oN as' (TO.nil ?_)
   obtain rfl:=osj h
   exact ⟨((s5.1++[((p.getD s5.2.1.toNat default).length:Int)]),(s5.2.1+(1:Int)),(s5.2.2+((p.getD s5.2.1.toNat default).length:Int))),u7+1,rfl,trivial,kw rfl rfl⟩
  ·refine T.exit (lX h fun h => ?_)
   obtain rfl:=osj h
   exact ⟨u7,trivial,kw rfl rfl⟩
theorem F_spec_DrawSameTrace_P (code:List Int) {q:(List (List ZIn))×(List Int)×(List Int)} (h:F_spec_DrawSameTrace code=some q):PCall Try.prog 39 [eL cY code] (.tup [eL (cL ZIn.c) q.1,eL cI q.2.1,eL cI q.2.2]):=by
 refine pM Try.func39 rfl (by kernel_rfl) rfl (T.sr (oN as' (oN as' (oN as' (TO.nil (T.sr (oN mv (jB h fun v1 cv1 h=>oA (EvA.call rfl rfl rfl ((F_spec_l17Open_P code cv1).fresh rfl (rowsF_row rfl) 0 rfl)) (oN as' (TO.nil (T.sr (oN mv (jB h fun v2 cv2 h=>oA (EvA.call rfl rfl rfl ((F_spec_l1Draw_P (⟨v1.b,v1.p⟩:Xspec_l17Rd) 0 cv2).one 0 rfl (.cons (.hp rfl) .nil) (rowsF_row rfl) (rowsF_row rfl) rfl)) ?_)))))))))))))
 refine oN as' (TO.nil (T.sr (oN mv (oN mv (jB h fun v3 cv3 h=>oA (EvA.call rfl rfl rfl ((F_spec_l3Schedule_P (⟨v2.1.b,v2.1.p⟩:Xspec_l17Rd) v2.2 0 cv3).one 0 rfl (.cons (.hp rfl) (.cons (.pF rfl) .nil)) (rowsF_row rfl) (rowsF_row rfl) rfl)) (oN as' (TO.nil (T.sr (oN mv (oN mv (oN mv (oN mv (jB h fun v4 cv4 h=>oA (EvA.call rfl rfl rfl ((F_spec_l3Schedule_P (⟨v3.1.b,v3.1.p⟩:Xspec_l17Rd) v2.2 0 cv4).one 0 rfl (.cons (.hp rfl) (.cons (.pF rfl) .nil)) (rowsF_row rfl) (rowsF_row rfl) rfl)) ?_)))))))))))))
 refine oN as' (oN as' (oN as' (TO.nil (T.ret ?_))))
 obtain rfl:=osj h
 repeat (first|refine retS ?_|refine retB ?_)
 exact Fin.ret (vs:=[eL (cL ZIn.c) v2.2,eL cI v3.2,eL cI v4.2]) (.cons (.tmp rfl) (.cons (.tmp rfl) (.cons (.tmp rfl) .nil))) (.tupL (.cons (.of_isF 9 _ rfl) (.cons (.of_isF 9 _ rfl) (.cons (.of_isF 9 _ rfl) .nil))))
theorem F_laws_wmInts_P (a:List Int) (b:List Int) {q:Bool} (h:F_laws_wmInts a b=some q):PCall Try.prog 41 [eL cI a,eL cI b] (Bo q):=by
 refine pM Try.func41 rfl (by kernel_rfl) rfl (T.sr (oN as' (TO.nil (T.seq (T.sr (oN mv (oN (EvN.lenL sl23 rfl) (oN mv (oN (EvN.lenL sl23 rfl) (oN (EvN.ine rfl rfl) (TO.nil ?_)))))))))))
 refine T.ifH rfl h (fun q1 h => ?_) (fun q1 h => ?_)
 ·refine T.sr (oN as' (TO.nil (T.ret ?_)))
  obtain rfl:=osj h
  exact finR rfl rfl rfl
 ·refine T.skip ?_
  obtain ⟨Ks2,es2,ws2,h,ks2⟩:=sumL h
  refine T.join (S:=Unit) (G:=Unit) (fun s2=>Ks2 s2=some q) (fun s2 gh=>True) (fun s2 gh=>[]) (fun s2 gh=>[]) (fun s2 gh h hg => ?_) ?_
  ·clear ks2
   subst es2
   refine T.sr (oN as' (TO.nil (T.ret ?_)))
   obtain rfl:=osj h
   exact finR rfl rfl rfl
  ·refine T.sr (oN as' (TO.nil (T.block ?_)))
   refine T.lU h (fun s5=>[(5,I s5),(0,eL cI a),(1,eL cI b)]) (fun s5=>[]) (kw rfl rfl) (fun s5 ws5 h => ?_)
   refine T.seq (T.sr (oN mv (oN mv (oN (EvN.lenL sl23 rfl) (oN (EvN.ilt rfl rfl) (TO.nil ?_))))))
   refine T.ifH rfl h (fun q7 h => ?_) (fun q7 h => ?_)
   ·refine T.skip (T.seq (T.block (T.seq (T.drawF (fun _=>([],false)) (by kernel_rfl) (by kernel_rfl) (fN rfl mv (fN rfl mv (jD h fun g8 h=>fN rfl (EvN.ixL sl23 rfl rfl g8 (fun _=>rfl)) (fN rfl (lf (I (a.getD s5.toNat default)) ty3 rfl) (fN rfl mv (fN rfl mv (jD h fun g9 h=>fN rfl (EvN.ixL sl23 rfl rfl g9 (fun _=>rfl)) (fN rfl (lf (I (b.getD s5.toNat default)) ty3 rfl) (fN rfl (EvN.ine rfl rfl) ?_)))))))))))))
    refine TF.nil ?_
    refine T.ifH rfl h (fun q10 h => ?_) (fun q10 h => ?_)
    ·refine T.seq (T.clean (H0:=[]) (e0:=envOf []) rfl wkN (T.region (oN as' (TO.nil (T.ret (lX h fun h => ?_))))))
     obtain rfl:=osj h
     replace h:=congrArg some (show _=_ from ks2)
     obtain rfl:=osj h
     exact finR rfl rfl rfl
    ·refine T.skip (T.region (oN mv (jW h fun g11 h=>oN (EvN.add rfl rfl g11) (oN as' (TO.nil ?_)))))
     exact lE h (kw rfl rfl)
   ·refine T.exit (lX h fun h => ?_)
    obtain rfl:=osj h
    exact ⟨(),(),ks2,trivial,kw rfl rfl⟩
end Go.Proofs.Ytlmjnhnpahicmaa
