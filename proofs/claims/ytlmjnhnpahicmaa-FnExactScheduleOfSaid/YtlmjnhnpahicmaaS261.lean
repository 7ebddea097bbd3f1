/-
 The program's code computes the functions over plain values; printed by lift.py. No conditions.
-/
import Derived.Test.YtlmjnhnpahicmaaS26d
import Derived.Test.YtlmjnhnpahicmaaSf
import Derived.Test.YtlmjnhnpahicmaaL15
import Derived.Test.YtlmjnhnpahicmaaGH
import Derived.Test.YtlmjnhnpahicmaaBrV
import Derived.Test.YtlmjnhnpahicmaaSM1
namespace Go.Proofs.Ytlmjnhnpahicmaa
open Go.RowKit
set_option maxRecDepth 100000
theorem F_laws_toInstr_P (a:Xlaws_Instr) {q:ZIn} (h:F_laws_toInstr a=some q):PCall Try.prog 86 [.agg (Xlaws_Instr.c a)] (.agg (ZIn.c q)):=by
 refine pM Try.func86 rfl (by kernel_rfl) rfl (T.sr (oN (EvN.bxF (Xlaws_Instr.c a) rfl rfl rfl) (oA (EvA.al zs56 rfl rfl) (TO.nil (T.sr (oA (EvA.al zs56 rfl rfl) (TO.nil (T.sr (oN (fa fs93 rfl) (oN (lf (I a.Op) ty3 rfl) (oN (fa fs56 rfl) (oV (sr [I a.Op,I (0:Int),I (0:Int),I (0:Int)] ty3 rfl rfl rfl rfl) (TO.nil (T.sr (oN (fa fs93 rfl) ?_)))))))))))))))
 refine oN (lf (I a.Loc) ty3 rfl) (oN (fa fs56 rfl) (oV (sr [I a.Op,I a.Loc,I (0:Int),I (0:Int)] ty3 rfl rfl rfl rfl) (TO.nil (T.sr (oN (fa fs93 rfl) (oN (lf (I a.Reg) ty3 rfl) (oN (fa fs56 rfl) (oV (sr [I a.Op,I a.Loc,I a.Reg,I (0:Int)] ty3 rfl rfl rfl rfl) (TO.nil (T.sr (oN (fa fs93 rfl) (oN (lf (I a.Val) ty3 rfl) (oN (fa fs56 rfl) (oV (sr [I a.Op,I a.Loc,I a.Reg,I a.Val] ty3 rfl rfl rfl rfl) (TO.nil ?_)))))))))))))))
 refine T.sr (oA (lh (.agg [I a.Op,I a.Loc,I a.Reg,I a.Val]) ty56 rfl rfl rfl) (oV (sr [I a.Op,I a.Loc,I a.Reg,I a.Val] ty56 rfl rfl rfl rfl) (TO.nil (T.ret ?_))))
 obtain rfl:=osj h
 repeat (first|refine retS ?_|refine retB ?_)
 exact Fin.ret (vs:=[.agg [I a.Op,I a.Loc,I a.Reg,I a.Val]]) (.cons (.cell (.agg [I a.Op,I a.Loc,I a.Reg,I a.Val]) ty56 rfl rfl rfl rfl rfl rfl) .nil) (.of_isF 9 _ rfl)
theorem F_laws_toInstrS_P (a:List Xlaws_Instr) {q:(List ZIn)} (h:F_laws_toInstrS a=some q):PCall Try.prog 46 [eL Xlaws_Instr.c a] (eL ZIn.c q):=by
 refine pM Try.func46 rfl (by kernel_rfl) rfl (T.sr (oN as' (TO.nil (T.sr (oN mv (oN (EvN.lenL sl64 rfl) (jD h fun g1 h=>oA (EvA.mkN (c:=ZIn.c) (default:ZIn) sl57 rfl rfl g1 rfl rfl rfl) (oN (EvN.asg (hS false 0 0 4 ((List.replicate (a.length:Int).toNat (default:ZIn)).length)) rfl) (TO.nil ?_)))))))))
 refine T.jF (G:=Nat) h (fun s2 gh=>True) (fun s2 gh=>[(3,hS false 0 gh 4 s2.length)]) (fun s2 gh=>[bE false gh 4 56 (s2.map ZIn.c)]) (fun s2 u14 h hg => ?_) (fun s2 h => ?_)
 ·refine T.sr (oN mv (oN (EvN.asg (hS false 0 u14 4 s2.length) rfl) (TO.nil (T.ret ?_))))
  obtain rfl:=osj h
  repeat (first|refine retS ?_|refine retB ?_)
  exact Fin.ret (vs:=[hS false 0 u14 4 s2.length]) (.cons (.tmp rfl) .nil) (Fz.own (g:=false) (ver:=u14) (l:=s2) rfl rfl rfl nofun ZIn.isF)
 ·refine T.sr (oN as' (TO.nil (T.block ?_)))
  refine T.loop (S:=(List ZIn)×Int) (G:=Nat) (F_laws_toInstrS_L7 a) (fun s6 gh=>True) (fun s6 gh=>[(4,I s6.2),(3,hS false 0 gh 4 s6.1.length),(0,eL Xlaws_Instr.c a)]) (fun s6 gh=>[bE false gh 4 56 (s6.1.map ZIn.c)]) (s0:=((List.replicate (a.length:Int).toNat (default:ZIn)),(0:Int))) 0 h trivial (kw rfl rfl) (fun s6 u8 ws6 h hg => ?_)
  refine T.seq (T.sr (oN mv (oN mv (oN (EvN.lenL sl64 rfl) (oN (EvN.ilt rfl rfl) (TO.nil ?_))))))
  refine T.ifH rfl h (fun q9 h => ?_) (fun q9 h => ?_)
  ·refine T.skip (T.seq (T.block (T.region (oN mv (oN mv (oN mv (oN mv (jD h fun g10 h=>oN (EvN.ixL sl64 rfl rfl g10 (fun _=>rfl)) (oN (lf (.agg (Xlaws_Instr.c (a.getD s6.2.toNat default))) ty93 rfl) (oC h (fun _=>F_laws_toInstr_P _) rfl rfl rfl rfl fun v11 _ h=>jD h fun g12 h=>oN (EvN.ixO (g:=false) sl57 rfl rfl nofun g12) (oV (EvA.stO (g:=false) (l:=s6.1) (cs:=(ZIn.c v11)) v11 ty56 rfl rfl rfl nofun (toNat_lt' rfl g12) rfl rfl rfl) (TO.nil ?_))))))))))))
   refine T.region (oN mv (jW h fun g13 h=>oN (EvN.add rfl rfl g13) (oN as' (TO.nil ?_))))
   obtain rfl:=osj h
   exact ⟨((s6.1.set s6.2.toNat v11),(s6.2+(1:Int))),u8,rfl,trivial,cutW rfl (wkC rfl (wkC (congrArg (hS false 0 u8 4) (by simp:s6.1.length=(s6.1.set s6.2.toNat v11).length)) (wkC rfl wkN)))⟩
  ·refine T.exit (lX h fun h => ?_)
   obtain rfl:=osj h
   exact ⟨u8,trivial,kw rfl rfl⟩
theorem F_spec_l1Reads_P (x:ZIn) {q:Bool} (h:F_spec_l1Reads x=some q):PCall Try.prog 144 [.agg (ZIn.c x)] (Bo q):=by
 refine pM Try.func144 rfl (by kernel_rfl) rfl (T.sr (oN (EvN.bxF (ZIn.c x) rfl rfl rfl) (oN as' (TO.nil (T.sr (oN (fa fs56 rfl) (oN (lf (I x.Op) ty3 rfl) (oN (EvN.ieq rfl rfl) (oN mv ?_)))))))))
 refine TO.jB h 4 (fun s1=>[(10,Bo s1)]) (fun s1=>[]) (fun s1 q2 h js1 => ?_) (fun s1 q2 h js1 => ?_) (fun s1 h => ?_)
 ·refine gS rfl q2 (gS rfl q2 (gS rfl q2 (oN (EvN.pickT rfl q2 (Bo true) rfl) ?_)))
  obtain rfl:=osj h
  exact js1 _ _ (kw rfl rfl)
 ·refine gN rfl q2 (fa fs56 rfl) (gN rfl q2 (lf (I x.Op) ty3 rfl) (gN rfl q2 (EvN.ieq rfl rfl) (oN (EvN.pickF rfl q2 (Bo (x.Op==(5:Int))) rfl) ?_)))
  obtain rfl:=osj h
  exact js1 _ _ (kw rfl rfl)
 ·refine oN as' (TO.nil (T.ret ?_))
  obtain rfl:=osj h
  exact finR rfl rfl rfl
theorem F_spec_l1Writes_P (x:ZIn) {q:Bool} (h:F_spec_l1Writes x=some q):PCall Try.prog 145 [.agg (ZIn.c x)] (Bo q):=by
 refine pM Try.func145 rfl (by kernel_rfl) rfl (T.sr (oN (EvN.bxF (ZIn.c x) rfl rfl rfl) (oN as' (TO.nil (T.sr (oN (fa fs56 rfl) (oN (lf (I x.Op) ty3 rfl) (oN (EvN.ieq rfl rfl) (oN mv ?_)))))))))
 refine TO.jB h 4 (fun s1=>[(10,Bo s1),(1,.fp (ZIn.c x) 0)]) (fun s1=>[]) (fun s1 q2 h js1 => ?_) (fun s1 q2 h js1 => ?_) (fun s1 h => ?_)
 ·refine gS rfl q2 (gS rfl q2 (gS rfl q2 (oN (EvN.pickT rfl q2 (Bo true) rfl) ?_)))
  obtain rfl:=osj h
  exact js1 _ _ (kw rfl rfl)
 ·refine gN rfl q2 (fa fs56 rfl) (gN rfl q2 (lf (I x.Op) ty3 rfl) (gN rfl q2 (EvN.ieq rfl rfl) (oN (EvN.pickF rfl q2 (Bo (x.Op==(3:Int))) rfl) ?_)))
  obtain rfl:=osj h
  exact js1 _ _ (kw rfl rfl)
 ·refine oN mv ?_
  refine TO.jB h 4 (fun s3=>[(15,Bo s3)]) (fun s3=>[]) (fun s3 q4 h js3 => ?_) (fun s3 q4 h js3 => ?_) (fun s3 h => ?_)
  ·refine gS rfl q4 (gS rfl q4 (gS rfl q4 (oN (EvN.pickT rfl q4 (Bo true) rfl) ?_)))
   obtain rfl:=osj h
   exact js3 _ _ (kw rfl rfl)
  ·refine gN rfl q4 (fa fs56 rfl) (gN rfl q4 (lf (I x.Op) ty3 rfl) (gN rfl q4 (EvN.ieq rfl rfl) (oN (EvN.pickF rfl q4 (Bo (x.Op==(5:Int))) rfl) ?_)))
   obtain rfl:=osj h
   exact js3 _ _ (kw rfl rfl)
  ·refine oN as' (TO.nil (T.ret ?_))
   obtain rfl:=osj h
   exact finR rfl rfl rfl
set_option maxHeartbeats 4000000 in
theorem F_spec_l6Events_P (p:List (List ZIn)) {q:(List ZEv)} (h:F_spec_l6Events p=some q):PCall Try.prog 102 [eL (cL ZIn.c) p] (eL ZEv.c q):=by
 refine pM Try.func102 rfl (by kernel_rfl) rfl (T.sr (oN as' (TO.nil (T.sr (oA (EvA.mkO (c:=ZEv.c) ([]:List ZEv) [] sl98 rfl rfl rfl (fun _=>rfl) rfl rfl) (oN (EvN.asg (hS false 0 0 5 (([]:List ZEv).length)) rfl) (TO.nil ?_)))))))
 refine T.jF (G:=Nat) h (fun s1 gh=>True) (fun s1 gh=>[(3,hS false 0 gh 5 s1.length),(0,eL (cL ZIn.c) p)]) (fun s1 gh=>[bE false gh 5 101 (s1.map ZEv.c)]) (fun s1 u11 h hg => ?_) (fun s1 h => ?_)
 ·refine T.jF (G:=Nat) h (fun s12 gh=>True) (fun s12 gh=>[(3,hS false 0 gh 5 s12.length)]) (fun s12 gh=>[bE false gh 5 101 (s12.map ZEv.c)]) (fun s12 u39 h hg => ?_) (fun s12 h => ?_)
  ·refine T.sr (oN mv (oN (EvN.asg (hS false 0 u39 5 s12.length) rfl) (TO.nil (T.ret ?_))))
   obtain rfl:=osj h
   repeat (first|refine retS ?_|refine retB ?_)
   exact Fin.ret (vs:=[hS false 0 u39 5 s12.length]) (.cons (.tmp rfl) .nil) (Fz.own (g:=false) (ver:=u39) (l:=s12) rfl rfl rfl nofun ZEv.isF)
  ·refine T.sr (oN as' (TO.nil (T.block ?_)))
   refine T.loop (S:=(List ZEv)×Int) (G:=Nat) (F_spec_l6Events_L17 p) (fun s16 gh=>True) (fun s16 gh=>[(5,I s16.2),(3,hS false 0 gh 5 s16.1.length),(0,eL (cL ZIn.c) p)]) (fun s16 gh=>[bE false gh 5 101 (s16.1.map ZEv.c)]) (s0:=(s1,(0:Int))) u11 h trivial (kw rfl rfl) (fun s16 u18 ws16 h hg => ?_)
   refine T.seq (T.sr (oN mv (oN mv (oN (EvN.lenL sl27 rfl) (oN (EvN.ilt rfl rfl) (TO.nil ?_))))))
   refine T.ifH rfl h (fun q19 h => ?_) (fun q19 h => ?_)
   ·refine T.skip ?_
    refine T.jF (G:=Nat) h (fun s20 gh=>True) (fun s20 gh=>[(5,I s16.2),(3,hS false 0 gh 5 s20.length),(0,eL (cL ZIn.c) p)]) (fun s20 gh=>[bE false gh 5 101 (s20.map ZEv.c)]) (fun s20 u37 h hg => ?_) (fun s20 h => ?_)
    ·refine T.region (oN mv (jW h fun g38 h=>oN (EvN.add rfl rfl g38) (oN as' (TO.nil ?_))))
     obtain rfl:=osj h
     exact ⟨(s20,(s16.2+(1:Int))),u37,rfl,trivial,kw rfl rfl⟩
    ·refine T.block (T.sr (oN as' (TO.nil (T.block ?_))))
     refine T.loop (S:=(List ZEv)×Int) (G:=Nat) (F_spec_l6Events_L25 p s16) (fun s24 gh=>True) (fun s24 gh=>[(6,I s24.2),(5,I s16.2),(3,hS false 0 gh 5 s24.1.length),(0,eL (cL ZIn.c) p)]) (fun s24 gh=>[bE false gh 5 101 (s24.1.map ZEv.c)]) (s0:=(s16.1,(0:Int))) u18 h trivial (kw rfl rfl) (fun s24 u26 ws24 h hg => ?_)
     refine T.seq (T.sr (oN mv (oN mv (oN mv (jD h fun g27 h=>oN (EvN.ixL sl27 rfl rfl g27 (fun _=>rfl)) (oN (lf (eL ZIn.c (p.getD s16.2.toNat default)) ty57 rfl) (oN (EvN.lenL sl57 rfl) (oN (EvN.ilt rfl rfl) (TO.nil ?_)))))))))
     refine T.ifH rfl h (fun q28 h => ?_) (fun q28 h => ?_)
     ·refine T.skip ?_
      refine T.jF (G:=Nat) h (fun s29 gh=>True) (fun s29 gh=>[(3,hS false 0 gh 5 s29.length),(6,I s24.2),(5,I s16.2),(0,eL (cL ZIn.c) p)]) (fun s29 gh=>[bE false gh 5 101 (s29.map ZEv.c)]) (fun s29 u35 h hg => ?_) (fun s29 h => ?_)
      ·refine T.region (oN mv (jW h fun g36 h=>oN (EvN.add rfl rfl g36) (oN as' (TO.nil ?_))))
       obtain rfl:=osj h
       exact ⟨(s29,(s24.2+(1:Int))),u35,rfl,trivial,kw rfl rfl⟩
      ·refine T.block (T.sr (oN mv (oN mv (oN (EvN.ixL sl27 rfl rfl g27 (fun _=>rfl)) (oN (lf (eL ZIn.c (p.getD s16.2.toNat default)) ty57 rfl) (oN mv (jD h fun g30 h=>oN (EvN.ixL sl57 rfl rfl g30 (fun _=>rfl)) (oN (lf (.agg (ZIn.c ((p.getD s16.2.toNat default).getD s24.2.toNat default))) ty56 rfl) (oA (EvA.al zs56 rfl rfl) (oV (sr (ZIn.c ((p.getD s16.2.toNat default).getD s24.2.toNat default)) ty56 rfl rfl rfl rfl) (TO.nil (T.sr (oN (fa fs56 rfl) (oA (lh (I (((p.getD s16.2.toNat default).getD s24.2.toNat default).Op)) ty3 rfl rfl rfl) ?_))))))))))))))
       refine oN (EvN.ine rfl rfl) (TO.nil ?_)
       refine T.ifH rfl h (fun q31 h => ?_) (fun q31 h => ?_)
       ·refine T.clean (H0:=[bE false u26 5 101 (s24.1.map ZEv.c),some ⟨0,4,56,[(ZIn.c ((p.getD s16.2.toNat default).getD s24.2.toNat default))]⟩]) (e0:=envOf [(7,.hp 1 0 4 0 0),(6,I s24.2),(5,I s16.2),(3,hS false 0 u26 5 s24.1.length),(0,eL (cL ZIn.c) p)]) rfl (wkC rfl (wkC rfl (wkC rfl (wkC rfl (wkC rfl wkN))))) (T.drawF (fun i=>[([],false),([],false),([],false),([],false),([1],false),([1],false),([],false),([1],false),([],false),([],false),([],false),([0],true),([],false)].getD i ([],false)) (by kernel_rfl) (by kernel_rfl) (fN rfl mv (fN rfl mv (fN rfl mv (fN rfl (fa fs56 rfl) (fR [1] rfl (fun G hG=>EvA.loadhp (I (((p.getD s16.2.toNat default).getD s24.2.toNat default).Loc)) ty3 rfl (hG.a0 rfl) rfl rfl rfl rfl) (fR [1] rfl (fun G hG=>EvA.loadhp (.agg (ZIn.c ((p.getD s16.2.toNat default).getD s24.2.toNat default))) ty56 rfl (hG.a0 rfl) rfl rfl rfl rfl) (fC h (fun _=>F_spec_l1Reads_P _) rfl rfl rfl rfl rfl fun v32 _ h=>fR [1] rfl (fun G hG=>EvA.loadhp (.agg (ZIn.c ((p.getD s16.2.toNat default).getD s24.2.toNat default))) ty56 rfl (hG.a0 rfl) rfl rfl rfl rfl) (fC h (fun _=>F_spec_l1Writes_P _) rfl rfl rfl rfl rfl fun v33 _ h=>fN rfl (EvN.build [I s16.2,I s24.2,I (((p.getD s16.2.toNat default).getD s24.2.toNat default).Loc),Bo v32,Bo v33] Try.underlying101 zs101 fs101 rfl rfl) (fN rfl (EvN.mkF (c:=ZEv.c) ([(⟨s16.2,s24.2,((p.getD s16.2.toNat default).getD s24.2.toNat default).Loc,v32,v33⟩:ZEv)]:List ZEv) [[I s16.2,I s24.2,I (((p.getD s16.2.toNat default).getD s24.2.toNat default).Loc),Bo v32,Bo v33]] sl98 rfl rfl rfl (fun _=>rfl) ZEv.isF rfl) (jL h fun g34 h=>fW 0 [] rfl rfl (fun G hG=>EvA.app1 (g:=false) (l:=s24.1) (⟨s16.2,s24.2,((p.getD s16.2.toNat default).getD s24.2.toNat default).Loc,v32,v33⟩:ZEv) sl98 (by kernel_rfl) rfl rfl (hG.a0 rfl) nofun (SrcOk.fz (l:=([(⟨s16.2,s24.2,((p.getD s16.2.toNat default).getD s24.2.toNat default).Loc,v32,v33⟩:ZEv)]:List ZEv)) rfl (fun _=>rfl)) g34) (fN rfl (EvN.asg (hS false 0 (u26+1) 5 ((s24.1++[(⟨s16.2,s24.2,((p.getD s16.2.toNat default).getD s24.2.toNat default).Loc,v32,v33⟩:ZEv)]).length)) rfl) ?_))))))))))))
        refine TF.nil ?_
        obtain rfl:=osj h
        exact ⟨u26+1,trivial,cutS rfl (.cons (.list (g:=false) (ver:=u26+1) (l:=(s24.1++[(⟨s16.2,s24.2,((p.getD s16.2.toNat default).getD s24.2.toNat default).Loc,v32,v33⟩:ZEv)])) ZEv.isF) .nil) (stl_cons (.hS (g:=false) (b:=0) (ver:=u26+1) (s:=5) (n:=(s24.1++[(⟨s16.2,s24.2,((p.getD s16.2.toNat default).getD s24.2.toNat default).Loc,v32,v33⟩:ZEv)]).length) rfl) (stl_cons (.fz (.of_isF 9 _ rfl)) (stl_cons (.fz (.of_isF 9 _ rfl)) (stl_cons (.fz (.of_isF 9 _ rfl)) stl_nil))))⟩
       ·refine T.skip ?_
        obtain rfl:=osj h
        exact ⟨u26,trivial,cutS rfl (.cons (.list (g:=false) (ver:=u26) (l:=s24.1) ZEv.isF) .nil) (stl_cons (.hS (g:=false) (b:=0) (ver:=u26) (s:=5) (n:=s24.1.length) rfl) (stl_cons (.fz (.of_isF 9 _ rfl)) (stl_cons (.fz (.of_isF 9 _ rfl)) (stl_cons (.fz (.of_isF 9 _ rfl)) stl_nil))))⟩
     ·refine T.exit (lX h fun h => ?_)
      obtain rfl:=osj h
      exact ⟨u26,trivial,kw rfl rfl⟩
   ·refine T.exit (lX h fun h => ?_)
    obtain rfl:=osj h
    exact ⟨u18,trivial,kw rfl rfl⟩
 ·refine T.sr (oN as' (TO.nil (T.block ?_)))
  refine T.loop (S:=(List ZEv)×Int) (G:=Nat) F_spec_l6Events_L6 (fun s5 gh=>True) (fun s5 gh=>[(4,I s5.2),(3,hS false 0 gh 5 s5.1.length),(0,eL (cL ZIn.c) p)]) (fun s5 gh=>[bE false gh 5 101 (s5.1.map ZEv.c)]) (s0:=(([]:List ZEv),(0:Int))) 0 h trivial (kw rfl rfl) (fun s5 u7 ws5 h hg => ?_)
  let d0:=(⟨(-1:Int),s5.2,s5.2,false,true⟩:ZEv)
  refine T.seq (T.sr (oN mv (oN (EvN.ile rfl rfl) (TO.nil ?_))))
  refine T.ifH rfl h (fun q8 h => ?_) (fun q8 h => ?_)
  ·refine T.skip (T.seq (T.block (T.region (oN mv (oN mv (oN mv (oN (EvN.build [I (-1:Int),I s5.2,I s5.2,Bo false,Bo true] Try.underlying101 zs101 fs101 rfl rfl) (oN (EvN.mkF (c:=ZEv.c) ([d0]:List ZEv) [[I (-1:Int),I s5.2,I s5.2,Bo false,Bo true]] sl98 rfl rfl rfl (fun _=>rfl) ZEv.isF rfl) (jL h fun g9 h=>oA (EvA.app1 (g:=false) (l:=s5.1) d0 sl98 (by kernel_rfl) rfl rfl rfl nofun (SrcOk.fz (l:=([d0]:List ZEv)) rfl (fun _=>rfl)) g9) (oN (EvN.asg (hS false 0 (u7+1) 5 ((s5.1++[d0]).length)) rfl) (TO.nil (T.region (oN mv (jW h fun g10 h => ?_))))))))))))))
   refine oN (EvN.add rfl rfl g10) (oN as' (TO.nil ?_))
   obtain rfl:=osj h
   exact ⟨((s5.1++[d0]),(s5.2+(1:Int))),u7+1,rfl,trivial,kw rfl rfl⟩
  ·refine T.exit (lX h fun h => ?_)
   obtain rfl:=osj h
   exact ⟨u7,trivial,kw rfl rfl⟩
set_option maxHeartbeats 4000000 in
theorem F_impl_events_P (p:List (List ZIn)) {q:(List ZEv)} (h:F_impl_events p=some q):PCall Try.prog 91 [eL (cL ZIn.c) p] (eL ZEv.c q):=by
 refine pM Try.func91 rfl (by kernel_rfl) rfl (T.sr (oN as' (TO.nil (T.seq (T.reserve (T.region (oN (EvN.asg (hS true 0 0 5 (([]:List ZEv).length)) rfl) (TO.nil ?_))))))))
 refine T.jF (G:=(Bool×Nat)) h (fun s1 gh=>(gh.1=true->s1=[])) (fun s1 gh=>[(3,hS gh.1 0 gh.2 5 s1.length),(0,eL (cL ZIn.c) p)]) (fun s1 gh=>[bE gh.1 gh.2 5 101 (s1.map ZEv.c)]) (fun s1 gh h n17 => ?_) (fun s1 h => ?_)
 ·obtain ⟨b16,u15⟩:=gh
  refine T.jF (G:=(Bool×Nat)) h (fun s18 gh=>(gh.1=true->s18=[])) (fun s18 gh=>[(3,hS gh.1 0 gh.2 5 s18.length)]) (fun s18 gh=>[bE gh.1 gh.2 5 101 (s18.map ZEv.c)]) (fun s18 gh h n59 => ?_) (fun s18 h => ?_)
  ·obtain ⟨b58,u57⟩:=gh
   refine T.sr (oN mv (oN (EvN.asg (hS b58 0 u57 5 s18.length) rfl) (TO.nil (T.ret ?_))))
   obtain rfl:=osj h
   repeat (first|refine retS ?_|refine retB ?_)
   exact Fin.ret (vs:=[hS b58 0 u57 5 s18.length]) (.cons (.tmp rfl) .nil) (Fz.own (g:=b58) (ver:=u57) (l:=s18) rfl rfl rfl n59 ZEv.isF)
  ·refine T.sr (oN mv (oN (EvN.lenL sl27 rfl) (oN mv (TO.nil (T.block ?_)))))
   refine T.loop (S:=(List ZEv)×Int) (G:=(Bool×Nat)) (F_impl_events_L25 p) (fun s24 gh=>(gh.1=true->s24.1=[])) (fun s24 gh=>[(21,I s24.2),(20,I (p.length:Int)),(19,eL (cL ZIn.c) p),(3,hS gh.1 0 gh.2 5 s24.1.length)]) (fun s24 gh=>[bE gh.1 gh.2 5 101 (s24.1.map ZEv.c)]) (s0:=(s1,(0:Int))) (b16,u15) h n17 (kw rfl rfl) (fun s24 gh ws24 h n28 => ?_)
   obtain ⟨b27,u26⟩:=gh
   refine T.sr (oN (EvN.ilt rfl rfl) (TO.nil (T.seq ?_)))
   refine T.ifH rfl h (fun q29 h => ?_) (fun q29 h => ?_)
   ·refine T.skip ?_
    refine T.jF (G:=(Bool×Nat)) h (fun s30 gh=>(gh.1=true->s30=[])) (fun s30 gh=>[(21,I s24.2),(20,I (p.length:Int)),(19,eL (cL ZIn.c) p),(3,hS gh.1 0 gh.2 5 s30.length)]) (fun s30 gh=>[bE gh.1 gh.2 5 101 (s30.map ZEv.c)]) (fun s30 gh h n55 => ?_) (fun s30 h => ?_)
    ·obtain ⟨b54,u53⟩:=gh
     refine T.region (jW h fun g56 h=>oN (EvN.add rfl rfl g56) (oN mv (TO.nil ?_)))
     obtain rfl:=osj h
     exact ⟨(s30,(s24.2+(1:Int))),(b54,u53),rfl,n55,kw rfl rfl⟩
    ·refine T.block (T.sr (oN mv (jD h fun g31 h=>oN (EvN.ixL sl27 rfl rfl g31 (fun _=>rfl)) (oN (lf (eL ZIn.c (p.getD s24.2.toNat default)) ty57 rfl) (oN as' (oN as' (TO.nil (T.sr (oN mv (oN (EvN.lenL sl57 rfl) (oN mv (TO.nil (T.block ?_)))))))))))))
     refine T.loop (S:=(List ZEv)×Int) (G:=(Bool×Nat)) (F_impl_events_L38 p s24) (fun s37 gh=>(gh.1=true->s37.1=[])) (fun s37 gh=>[(28,I s37.2),(27,I ((p.getD s24.2.toNat default).length:Int)),(26,eL ZIn.c (p.getD s24.2.toNat default)),(5,I s24.2),(21,I s24.2),(20,I (p.length:Int)),(19,eL (cL ZIn.c) p),(3,hS gh.1 0 gh.2 5 s37.1.length)]) (fun s37 gh=>[bE gh.1 gh.2 5 101 (s37.1.map ZEv.c)]) (s0:=(s24.1,(0:Int))) (b27,u26) h n28 (kw rfl rfl) (fun s37 gh ws37 h n41 => ?_)
     obtain ⟨b40,u39⟩:=gh
     refine T.sr (oN (EvN.ilt rfl rfl) (TO.nil (T.seq ?_)))
     refine T.ifH rfl h (fun q42 h => ?_) (fun q42 h => ?_)
     ·refine T.skip ?_
      refine T.jF (G:=(Bool×Nat)) h (fun s43 gh=>(gh.1=true->s43=[])) (fun s43 gh=>[(3,hS gh.1 0 gh.2 5 s43.length),(28,I s37.2),(27,I ((p.getD s24.2.toNat default).length:Int)),(26,eL ZIn.c (p.getD s24.2.toNat default)),(5,I s24.2),(21,I s24.2),(20,I (p.length:Int)),(19,eL (cL ZIn.c) p)]) (fun s43 gh=>[bE gh.1 gh.2 5 101 (s43.map ZEv.c)]) (fun s43 gh h n51 => ?_) (fun s43 h => ?_)
      ·obtain ⟨b50,u49⟩:=gh
       refine T.region (jW h fun g52 h=>oN (EvN.add rfl rfl g52) (oN mv (TO.nil ?_)))
       obtain rfl:=osj h
       exact ⟨(s43,(s37.2+(1:Int))),(b50,u49),rfl,n51,kw rfl rfl⟩
      ·refine T.block (T.sr (oN mv (jD h fun g44 h=>oN (EvN.ixL sl57 rfl rfl g44 (fun _=>rfl)) (oN (lf (.agg (ZIn.c ((p.getD s24.2.toNat default).getD s37.2.toNat default))) ty56 rfl) (oA (EvA.al zs56 rfl rfl) (oN as' (oV (sr (ZIn.c ((p.getD s24.2.toNat default).getD s37.2.toNat default)) ty56 rfl rfl rfl rfl) (TO.nil (T.sr (oN (fa fs56 rfl) (oA (lh (I (((p.getD s24.2.toNat default).getD s37.2.toNat default).Op)) ty3 rfl rfl rfl) (oN (EvN.ine rfl rfl) (TO.nil ?_)))))))))))))
       refine T.ifH rfl h (fun q45 h => ?_) (fun q45 h => ?_)
       ·refine T.drawF (fun i=>[([],false),([],false),([],false),([],false),([1],false),([1],false),([],false),([1],false),([],false),([],false),([],false),([0],true),([],false)].getD i ([],false)) (by kernel_rfl) (by kernel_rfl) (fN rfl mv (fN rfl mv (fN rfl mv (fN rfl (fa fs56 rfl) (fR [1] rfl (fun G hG=>EvA.loadhp (I (((p.getD s24.2.toNat default).getD s37.2.toNat default).Loc)) ty3 rfl (hG.a0 rfl) rfl rfl rfl rfl) (fR [1] rfl (fun G hG=>EvA.loadhp (.agg (ZIn.c ((p.getD s24.2.toNat default).getD s37.2.toNat default))) ty56 rfl (hG.a0 rfl) rfl rfl rfl rfl) (fC h (fun _=>F_impl_Instr_reads_P _) rfl rfl rfl rfl rfl fun v46 _ h=>fR [1] rfl (fun G hG=>EvA.loadhp (.agg (ZIn.c ((p.getD s24.2.toNat default).getD s37.2.toNat default))) ty56 rfl (hG.a0 rfl) rfl rfl rfl rfl) (fC h (fun _=>F_impl_Instr_writes_P _) rfl rfl rfl rfl rfl fun v47 _ h=>fN rfl (EvN.build [I s24.2,I s37.2,I (((p.getD s24.2.toNat default).getD s37.2.toNat default).Loc),Bo v46,Bo v47] Try.underlying101 zs101 fs101 rfl rfl) (fN rfl (EvN.mkF (c:=ZEv.c) ([(⟨s24.2,s37.2,((p.getD s24.2.toNat default).getD s37.2.toNat default).Loc,v46,v47⟩:ZEv)]:List ZEv) [[I s24.2,I s37.2,I (((p.getD s24.2.toNat default).getD s37.2.toNat default).Loc),Bo v46,Bo v47]] sl98 rfl rfl rfl (fun _=>rfl) ZEv.isF rfl) (jL h fun g48 h=>fW 0 [] rfl rfl (fun G hG=>EvA.app1 (g:=b40) (l:=s37.1) (⟨s24.2,s37.2,((p.getD s24.2.toNat default).getD s37.2.toNat default).Loc,v46,v47⟩:ZEv) sl98 (by kernel_rfl) rfl rfl (hG.a0 rfl) n41 (SrcOk.fz (l:=([(⟨s24.2,s37.2,((p.getD s24.2.toNat default).getD s37.2.toNat default).Loc,v46,v47⟩:ZEv)]:List ZEv)) rfl (fun _=>rfl)) g48) (fN rfl (EvN.asg (hS false 0 (u39+1) 5 ((s37.1++[(⟨s24.2,s37.2,((p.getD s24.2.toNat default).getD s37.2.toNat default).Loc,v46,v47⟩:ZEv)]).length)) rfl) (TF.nil ?_))))))))))))
        obtain rfl:=osj h
        exact ⟨(false,u39+1),nofun,cutS rfl (.cons (.list (g:=false) (ver:=u39+1) (l:=(s37.1++[(⟨s24.2,s37.2,((p.getD s24.2.toNat default).getD s37.2.toNat default).Loc,v46,v47⟩:ZEv)])) ZEv.isF) .nil) (stl_cons (.hS (g:=false) (b:=0) (ver:=u39+1) (s:=5) (n:=(s37.1++[(⟨s24.2,s37.2,((p.getD s24.2.toNat default).getD s37.2.toNat default).Loc,v46,v47⟩:ZEv)]).length) rfl) (stl_cons (.fz (.of_isF 9 _ rfl)) (stl_cons (.fz (.of_isF 9 _ rfl)) (stl_cons (.fz (.of_isF 9 _ rfl)) (stl_cons (.fz (.of_isF 9 _ rfl)) (stl_cons (.fz (.of_isF 9 _ rfl)) (stl_cons (.fz (.of_isF 9 _ rfl)) (stl_cons (.fz (.of_isF 9 _ rfl)) stl_nil))))))))⟩
       ·refine T.skip ?_
        obtain rfl:=osj h
        exact ⟨(b40,u39),n41,cutS rfl (.cons (.list (g:=b40) (ver:=u39) (l:=s37.1) ZEv.isF) .nil) (stl_cons (.hS (g:=b40) (b:=0) (ver:=u39) (s:=5) (n:=s37.1.length) rfl) (stl_cons (.fz (.of_isF 9 _ rfl)) (stl_cons (.fz (.of_isF 9 _ rfl)) (stl_cons (.fz (.of_isF 9 _ rfl)) (stl_cons (.fz (.of_isF 9 _ rfl)) (stl_cons (.fz (.of_isF 9 _ rfl)) (stl_cons (.fz (.of_isF 9 _ rfl)) (stl_cons (.fz (.of_isF 9 _ rfl)) stl_nil))))))))⟩
     ·refine T.exit (lX h fun h => ?_)
      obtain rfl:=osj h
      exact ⟨(b40,u39),n41,kw rfl rfl⟩
   ·refine T.exit (lX h fun h => ?_)
    obtain rfl:=osj h
    exact ⟨(b27,u26),n28,kw rfl rfl⟩
 ·refine T.sr (oN mv (TO.nil (T.block ?_)))
  refine T.loop (S:=(List ZEv)×Int) (G:=(Bool×Nat)) F_impl_events_L8 (fun s7 gh=>(gh.1=true->s7.1=[])) (fun s7 gh=>[(9,I s7.2),(3,hS gh.1 0 gh.2 5 s7.1.length),(0,eL (cL ZIn.c) p)]) (fun s7 gh=>[bE gh.1 gh.2 5 101 (s7.1.map ZEv.c)]) (s0:=(([]:List ZEv),(0:Int))) (true,0) h (fun _=>rfl) (kw rfl rfl) (fun s7 gh ws7 h n11 => ?_)
  let d0:=(⟨(-1:Int),s7.2,s7.2,false,true⟩:ZEv)
  obtain ⟨b10,u9⟩:=gh
  refine T.sr (oN (EvN.ilt rfl rfl) (TO.nil (T.seq ?_)))
  refine T.ifH rfl h (fun q12 h => ?_) (fun q12 h => ?_)
  ·refine T.skip (T.seq (T.block (T.sr (oN mv (oN as' (TO.nil (T.region (oN mv (oN mv (oN mv (oN (EvN.build [I (-1:Int),I s7.2,I s7.2,Bo false,Bo true] Try.underlying101 zs101 fs101 rfl rfl) (oN (EvN.mkF (c:=ZEv.c) ([d0]:List ZEv) [[I (-1:Int),I s7.2,I s7.2,Bo false,Bo true]] sl98 rfl rfl rfl (fun _=>rfl) ZEv.isF rfl) (jL h fun g13 h=>oA (EvA.app1 (g:=b10) (l:=s7.1) d0 sl98 (by kernel_rfl) rfl rfl rfl n11 (SrcOk.fz (l:=([d0]:List ZEv)) rfl (fun _=>rfl)) g13) (oN (EvN.asg (hS false 0 (u9+1) 5 ((s7.1++[d0]).length)) rfl) ?_))))))))))))))
   refine TO.nil (T.region (jW h fun g14 h=>oN (EvN.add rfl rfl g14) (oN mv (TO.nil ?_))))
   obtain rfl:=osj h
   exact ⟨((s7.1++[d0]),(s7.2+(1:Int))),(false,u9+1),rfl,nofun,kw rfl rfl⟩
  ·refine T.exit (lX h fun h => ?_)
   obtain rfl:=osj h
   exact ⟨(b10,u9),n11,kw rfl rfl⟩
set_option maxHeartbeats 4000000 in
theorem F_impl_numbers_P (p:List (List ZIn)) {q:(List (List Int))} (h:F_impl_numbers p=some q):PCall Try.prog 114 [eL (cL ZIn.c) p] (eL (cL cI) q):=by
 refine pM Try.func114 rfl (by kernel_rfl) rfl (T.sr (oN as' (TO.nil (T.sr (oN mv (oN (EvN.lenL sl27 rfl) (jD h fun g1 h=>oA (EvA.mkZ sl37 rfl rfl g1 rfl rfl) (TO.reserveN (p.length:Int).toNat (TO.clean (H0:=(bE false 0 1 23 (nrs 1 (fun i=>(true,i,0)) 1 (List.replicate (p.length:Int).toNat ([]:List Int)))::(List.replicate (p.length:Int).toNat none))) (e0:=envOf [(11,hS false 0 0 1 ((p.length:Int).toNat)),(0,eL (cL ZIn.c) p)]) (congrArg (fun r=>[bE false 0 1 23 r]++List.replicate (p.length:Int).toNat none) (nrs_nil (α:=Int) 1 1 (p.length:Int).toNat).symm) (wkC rfl (wkC rfl wkN)) (oN (EvN.asg (hS false 0 0 1 ((p.length:Int).toNat)) rfl) (TO.nil (T.sr (oN as' (TO.nil ?_))))))))))))))
 refine T.jF (G:=(NG×AH×Nat)) h (fun s2 gh=>NN gh.2.1 gh.1 1 3 cI s2) (fun s2 gh=>[(3,hS false 0 gh.2.2 1 s2.length)]) (fun s2 gh=>(bE false gh.2.2 1 23 (nrs 1 gh.1 1 s2)::gh.2.1)) (fun s2 gh h hN70 => ?_) (fun s2 h => ?_)
 ·obtain ⟨y68,kk69,u67⟩:=gh
  refine T.sr (oN mv (oN (EvN.asg (hS false 0 u67 1 s2.length) rfl) (TO.nil (T.ret ?_))))
  obtain rfl:=osj h
  repeat (first|refine retS ?_|refine retB ?_)
  exact Fin.ret (vs:=[hS false 0 u67 1 s2.length]) (.cons (.tmp rfl) .nil) (NN.fz hN70 (S:=[bE false u67 1 23 (nrs 1 y68 1 s2)]) (ver:=u67) rfl rfl (fun _=>rfl))
 ·refine T.sr (oN mv (oN (EvN.lenL sl27 rfl) (oN mv (TO.nil (T.block ?_)))))
  refine T.loop (S:=(List (List Int))×Int×Int) (G:=(NG×AH×Nat)) (F_impl_numbers_L14 p) (fun s13 gh=>NN gh.2.1 gh.1 1 3 cI s13.1) (fun s13 gh=>[(14,I s13.2.1),(13,I (p.length:Int)),(12,eL (cL ZIn.c) p),(4,I s13.2.2),(3,hS false 0 gh.2.2 1 s13.1.length)]) (fun s13 gh=>(bE false gh.2.2 1 23 (nrs 1 gh.1 1 s13.1)::gh.2.1)) (s0:=((List.replicate (p.length:Int).toNat ([]:List Int)),(0:Int),(3:Int))) ((fun i=>(true,i,0)),(List.replicate (p.length:Int).toNat none),0) h (NN.rep (p.length:Int).toNat) (cutW rfl (wkC rfl (wkC rfl (wkC rfl (wkC rfl (wkC (congrArg (hS false 0 0 1) (by simp:(p.length:Int).toNat=(List.replicate (p.length:Int).toNat ([]:List Int)).length)) wkN)))))) (fun s13 gh ws13 h hN18 => ?_)
  obtain ⟨y16,kk17,u15⟩:=gh
  refine T.sr (oN (EvN.ilt rfl rfl) (TO.nil (T.seq ?_)))
  refine T.ifH rfl h (fun q19 h => ?_) (fun q19 h => ?_)
  ·refine T.skip ?_
   refine T.jF (G:=(NG×AH×Nat)) h (fun s20 gh=>NN gh.2.1 gh.1 1 3 cI s20.1) (fun s20 gh=>[(14,I s13.2.1),(13,I (p.length:Int)),(12,eL (cL ZIn.c) p),(4,I s20.2),(3,hS false 0 gh.2.2 1 s20.1.length)]) (fun s20 gh=>(bE false gh.2.2 1 23 (nrs 1 gh.1 1 s20.1)::gh.2.1)) (fun s20 gh h hN65 => ?_) (fun s20 h => ?_)
   ·obtain ⟨y63,kk64,u62⟩:=gh
    refine T.region (jW h fun g66 h=>oN (EvN.add rfl rfl g66) (oN mv (TO.nil ?_)))
    obtain rfl:=osj h
    exact ⟨(s20.1,(s13.2.1+(1:Int)),s20.2),(y63,kk64,u62),rfl,hN65,kw rfl rfl⟩
   ·refine T.block (T.sr (oN mv (jD h fun g21 h=>oN (EvN.ixL sl27 rfl rfl g21 (fun _=>rfl)) (oN (lf (eL ZIn.c (p.getD s13.2.1.toNat default)) ty57 rfl) (oN as' (oN as' (TO.nil (T.sr (oN mv (oN (EvN.lenL sl57 rfl) (oN mv (TO.nil (T.block ?_)))))))))))))
    refine T.loop (S:=(List (List Int))×Int×Int) (G:=(NG×AH×Nat)) (F_impl_numbers_L33 p s13) (fun s32 gh=>NN gh.2.1 gh.1 1 3 cI s32.1) (fun s32 gh=>[(21,I s32.2.1),(20,I ((p.getD s13.2.1.toNat default).length:Int)),(19,eL ZIn.c (p.getD s13.2.1.toNat default)),(5,I s13.2.1),(14,I s13.2.1),(13,I (p.length:Int)),(12,eL (cL ZIn.c) p),(4,I s32.2.2),(3,hS false 0 gh.2.2 1 s32.1.length)]) (fun s32 gh=>(bE false gh.2.2 1 23 (nrs 1 gh.1 1 s32.1)::gh.2.1)) (s0:=(s13.1,(0:Int),s13.2.2)) (y16,kk17,u15) h hN18 (kw rfl rfl) (fun s32 gh ws32 h hN37 => ?_)
    obtain ⟨y35,kk36,u34⟩:=gh
    refine T.sr (oN (EvN.ilt rfl rfl) (TO.nil (T.seq ?_)))
    refine T.ifH rfl h (fun q38 h => ?_) (fun q38 h => ?_)
    ·refine T.skip ?_
     refine T.jF (G:=(NG×AH×Nat)) h (fun s39 gh=>NN gh.2.1 gh.1 1 3 cI s39.1) (fun s39 gh=>[(21,I s32.2.1),(20,I ((p.getD s13.2.1.toNat default).length:Int)),(19,eL ZIn.c (p.getD s13.2.1.toNat default)),(5,I s13.2.1),(14,I s13.2.1),(13,I (p.length:Int)),(12,eL (cL ZIn.c) p),(4,I s39.2),(3,hS false 0 gh.2.2 1 s39.1.length)]) (fun s39 gh=>(bE false gh.2.2 1 23 (nrs 1 gh.1 1 s39.1)::gh.2.1)) (fun s39 gh h hN60 => ?_) (fun s39 h => ?_)
     ·obtain ⟨y58,kk59,u57⟩:=gh
      refine T.region (jW h fun g61 h=>oN (EvN.add rfl rfl g61) (oN mv (TO.nil ?_)))
      obtain rfl:=osj h
      exact ⟨(s39.1,(s32.2.1+(1:Int)),s39.2),(y58,kk59,u57),rfl,hN60,kw rfl rfl⟩
     ·refine T.block (T.sr (jD h fun g40 h=>oN (EvN.ixL sl57 rfl rfl g40 (fun _=>rfl)) (oN (lf (.agg (ZIn.c ((p.getD s13.2.1.toNat default).getD s32.2.1.toNat default))) ty56 rfl) (oA (EvA.al zs56 rfl rfl) (TO.reid (e0:=envOf [(8,.hp 1 0 4 0 0),(24,.agg (ZIn.c ((p.getD s13.2.1.toNat default).getD s32.2.1.toNat default))),(21,I s32.2.1),(20,I ((p.getD s13.2.1.toNat default).length:Int)),(19,eL ZIn.c (p.getD s13.2.1.toNat default)),(5,I s13.2.1),(14,I s13.2.1),(13,I (p.length:Int)),(12,eL (cL ZIn.c) p),(4,I s32.2.2),(3,hS false 0 u34 1 s32.1.length)]) (Reid.rot (m:=1) (S:=[bE false u34 1 23 (nrs 1 y35 1 s32.1)]) (S':=[bE false u34 1 23 (nrs 2 y35 1 s32.1)]) (K:=kk36) (x:=some ⟨0,4,56,[[I (0:Int),I (0:Int),I (0:Int),I (0:Int)]]⟩) (x':=some ⟨0,4,56,[[I (0:Int),I (0:Int),I (0:Int),I (0:Int)]]⟩) rfl rfl rfl (.nest (hN37.renK rfl) .nil) hN37.kf (.some (.rowL (.cons (ren_isF 9 _ rfl) (.cons (ren_isF 9 _ rfl) (.cons (ren_isF 9 _ rfl) (.cons (ren_isF 9 _ rfl) .nil))))) .nil)) (renE_cons (a0:=.hp (kk36.length+1) 0 4 0 0) rfl (.hp Rot.new) (renE_F rfl rfl (renE_F rfl rfl (renE_F rfl rfl (renE_F rfl rfl (renE_F rfl rfl (renE_F rfl rfl (renE_F rfl rfl (renE_F rfl rfl (renE_F rfl rfl (renE_cons (a0:=hS false 0 u34 1 s32.1.length) rfl (ren_hSg (Rot.low rfl)) renE_nil))))))))))) (oV (sr (ZIn.c ((p.getD s13.2.1.toNat default).getD s32.2.1.toNat default)) ty56 rfl rfl rfl rfl) (TO.nil (T.sr (oN (fa fs56 rfl) (oA (lh (I (((p.getD s13.2.1.toNat default).getD s32.2.1.toNat default).Op)) ty3 rfl rfl rfl) (oN (EvN.ieq rfl rfl) (TO.nil ?_))))))))))))
      refine T.ifH rfl h (fun q41 h => ?_) (fun q41 h => ?_)
      ·refine T.region (oN mv (oN mv (oN mv (oN mv (jD h fun g42 h=>oN (EvN.ixO (g:=false) sl37 rfl rfl nofun g42) ?_)))))
       have n47:=hN37.nil_ (toNat_lt' rfl g42)
       have hX46:=hN37.opened (toNat_lt' rfl g42)
       refine TO.reid (e0:=envOf [(32,.hp 0 u34 1 s13.2.1.toNat 0),(29,I s13.2.1),(28,hS false 0 u34 1 s32.1.length),(21,I s32.2.1),(20,I ((p.getD s13.2.1.toNat default).length:Int)),(19,eL ZIn.c (p.getD s13.2.1.toNat default)),(5,I s13.2.1),(14,I s13.2.1),(13,I (p.length:Int)),(12,eL (cL ZIn.c) p),(4,I s32.2.2),(3,hS false 0 u34 1 s32.1.length)]) (Reid.open (m:=2) (S:=[bE false u34 1 23 (nrs 2 y35 1 s32.1),some ⟨0,4,56,[(ZIn.c ((p.getD s13.2.1.toNat default).getD s32.2.1.toNat default))]⟩]) (S':=[bE false u34 1 23 (nxs 3 y35 1 s32.1 s13.2.1.toNat (y35 s13.2.1.toNat).1 2 ((y35 s13.2.1.toNat).2.2) ((s32.1.getD s13.2.1.toNat []).length)),some ⟨0,4,56,[(ZIn.c ((p.getD s13.2.1.toNat default).getD s32.2.1.toNat default))]⟩]) (K:=kk36) (x:=bE (y35 s13.2.1.toNat).1 (y35 s13.2.1.toNat).2.2 1 3 ((s32.1.getD s13.2.1.toNat []).map cI)) rfl (hN37.at_ (toNat_lt' rfl g42)) rfl (.nest (hN37.renOpn (toNat_lt' rfl g42)) (.some (.rowL (.cons (ren_isF 9 _ rfl) (.cons (ren_isF 9 _ rfl) (.cons (ren_isF 9 _ rfl) (.cons (ren_isF 9 _ rfl) .nil))))) .nil)) hN37.kf) (renE_cons (a0:=.hp 0 u34 1 s13.2.1.toNat 0) rfl (.hp (Opn.low rfl)) (renE_F rfl rfl (renE_cons (a0:=hS false 0 u34 1 s32.1.length) rfl (ren_hSg (Opn.low rfl)) (renE_F rfl rfl (renE_F rfl rfl (renE_F rfl rfl (renE_F rfl rfl (renE_F rfl rfl (renE_F rfl rfl (renE_F rfl rfl (renE_F rfl rfl (renE_cons (a0:=hS false 0 u34 1 s32.1.length) rfl (ren_hSg (Opn.low rfl)) renE_nil)))))))))))) ?_
       generalize (y35 s13.2.1.toNat).1=b43 at n47 ⊢
       generalize (y35 s13.2.1.toNat).2.2=u44
       generalize kk36.set (y35 s13.2.1.toNat).2.1 none=kk45 at hX46 ⊢
       refine oA (EvA.loadhp (hS b43 2 u44 1 ((s32.1.getD s13.2.1.toNat []).length)) ty23 rfl rfl rfl rfl (nxs_get (toNat_lt' rfl g42)) rfl) (oN (EvN.mkF (c:=cI) ([(-1:Int)]:List Int) [[I (-1:Int)]] sl23 rfl rfl rfl (fun _=>rfl) (fun _=>rfl) rfl) (jL h fun g48 h=>oA (EvA.app1 (g:=b43) (l:=(s32.1.getD s13.2.1.toNat [])) (-1:Int) sl23 (by kernel_rfl) rfl rfl rfl n47 (SrcOk.fz (l:=([(-1:Int)]:List Int)) rfl (fun _=>rfl)) g48) (oN (EvN.ixO (g:=false) sl37 rfl rfl nofun g42) (oV (EvA.st (cs:=[hS false 2 (u44+1) 1 (((s32.1.getD s13.2.1.toNat [])++[(-1:Int)]).length)]) ⟨u34,1,23,(nxs 3 y35 1 s32.1 s13.2.1.toNat false 2 (u44+1) (((s32.1.getD s13.2.1.toNat [])++[(-1:Int)]).length))⟩ ty23 rfl rfl rfl rfl rfl (nxs_get hX46.hi) rfl rfl (congrArg (ABlk.mk u34 1 23) nxs_set)) (TO.nil ?_)))))
       obtain rfl:=osj h
       exact ⟨((up 1 ((up 1 y35).put s13.2.1.toNat (false,0,u44+1))),(some ⟨0,4,56,[(ZIn.c ((p.getD s13.2.1.toNat default).getD s32.2.1.toNat default))]⟩::(bE false (u44+1) 1 3 (((s32.1.getD s13.2.1.toNat [])++[(-1:Int)]).map cI)::kk45)),u34),((hX46.close (g:=false) (v:=u44+1) (r:=((s32.1.getD s13.2.1.toNat [])++[(-1:Int)])) nofun (fun _=>rfl)).push (fun _ hb=>osi hb ▸ rowsF_row rfl)),cutW (congrArg (fun r_:List (List AV)=>(bE false u34 1 23 r_::some ⟨0,4,56,[(ZIn.c ((p.getD s13.2.1.toNat default).getD s32.2.1.toNat default))]⟩::bE false (u44+1) 1 3 (((s32.1.getD s13.2.1.toNat [])++[(-1:Int)]).map cI)::kk45:AH)) (show (nxs 3 y35 1 s32.1 s13.2.1.toNat false 2 (u44+1) (((s32.1.getD s13.2.1.toNat [])++[(-1:Int)]).length))=nrs 1 (up 1 ((up 1 y35).put s13.2.1.toNat (false,0,u44+1))) 1 (s32.1.set s13.2.1.toNat ((s32.1.getD s13.2.1.toNat [])++[(-1:Int)])) from nxs_close (m:=2) (gh:=y35) (r:=((s32.1.getD s13.2.1.toNat [])++[(-1:Int)])) hX46.hi).symm) (wkC rfl (wkC rfl (wkC rfl (wkC rfl (wkC rfl (wkC rfl (wkC rfl (wkC rfl (wkC (congrArg (hS false 0 u34 1) (by simp:s32.1.length=(s32.1.set s13.2.1.toNat ((s32.1.getD s13.2.1.toNat [])++[(-1:Int)])).length)) wkN)))))))))⟩
      ·refine T.sr (oN mv (oN mv (oN mv (oN mv (jD h fun g49 h=>oN (EvN.ixO (g:=false) sl37 rfl rfl nofun g49) ?_)))))
       have n54:=hN37.nil_ (toNat_lt' rfl g49)
       have hX53:=hN37.opened (toNat_lt' rfl g49)
       refine TO.reid (e0:=envOf [(41,.hp 0 u34 1 s13.2.1.toNat 0),(38,I s13.2.1),(37,hS false 0 u34 1 s32.1.length),(21,I s32.2.1),(20,I ((p.getD s13.2.1.toNat default).length:Int)),(19,eL ZIn.c (p.getD s13.2.1.toNat default)),(5,I s13.2.1),(14,I s13.2.1),(13,I (p.length:Int)),(12,eL (cL ZIn.c) p),(4,I s32.2.2),(3,hS false 0 u34 1 s32.1.length)]) (Reid.open (m:=2) (S:=[bE false u34 1 23 (nrs 2 y35 1 s32.1),some ⟨0,4,56,[(ZIn.c ((p.getD s13.2.1.toNat default).getD s32.2.1.toNat default))]⟩]) (S':=[bE false u34 1 23 (nxs 3 y35 1 s32.1 s13.2.1.toNat (y35 s13.2.1.toNat).1 2 ((y35 s13.2.1.toNat).2.2) ((s32.1.getD s13.2.1.toNat []).length)),some ⟨0,4,56,[(ZIn.c ((p.getD s13.2.1.toNat default).getD s32.2.1.toNat default))]⟩]) (K:=kk36) (x:=bE (y35 s13.2.1.toNat).1 (y35 s13.2.1.toNat).2.2 1 3 ((s32.1.getD s13.2.1.toNat []).map cI)) rfl (hN37.at_ (toNat_lt' rfl g49)) rfl (.nest (hN37.renOpn (toNat_lt' rfl g49)) (.some (.rowL (.cons (ren_isF 9 _ rfl) (.cons (ren_isF 9 _ rfl) (.cons (ren_isF 9 _ rfl) (.cons (ren_isF 9 _ rfl) .nil))))) .nil)) hN37.kf) (renE_cons (a0:=.hp 0 u34 1 s13.2.1.toNat 0) rfl (.hp (Opn.low rfl)) (renE_F rfl rfl (renE_cons (a0:=hS false 0 u34 1 s32.1.length) rfl (ren_hSg (Opn.low rfl)) (renE_F rfl rfl (renE_F rfl rfl (renE_F rfl rfl (renE_F rfl rfl (renE_F rfl rfl (renE_F rfl rfl (renE_F rfl rfl (renE_F rfl rfl (renE_cons (a0:=hS false 0 u34 1 s32.1.length) rfl (ren_hSg (Opn.low rfl)) renE_nil)))))))))))) ?_
       generalize (y35 s13.2.1.toNat).1=b50 at n54 ⊢
       generalize (y35 s13.2.1.toNat).2.2=u51
       generalize kk36.set (y35 s13.2.1.toNat).2.1 none=kk52 at hX53 ⊢
       refine oA (EvA.loadhp (hS b50 2 u51 1 ((s32.1.getD s13.2.1.toNat []).length)) ty23 rfl rfl rfl rfl (nxs_get (toNat_lt' rfl g49)) rfl) (oN mv (oN (EvN.mkF (c:=cI) ([s32.2.2]:List Int) [[I s32.2.2]] sl23 rfl rfl rfl (fun _=>rfl) (fun _=>rfl) rfl) (jL h fun g55 h=>oA (EvA.app1 (g:=b50) (l:=(s32.1.getD s13.2.1.toNat [])) s32.2.2 sl23 (by kernel_rfl) rfl rfl rfl n54 (SrcOk.fz (l:=([s32.2.2]:List Int)) rfl (fun _=>rfl)) g55) (oN (EvN.ixO (g:=false) sl37 rfl rfl nofun g49) (oV (EvA.st (cs:=[hS false 2 (u51+1) 1 (((s32.1.getD s13.2.1.toNat [])++[s32.2.2]).length)]) ⟨u34,1,23,(nxs 3 y35 1 s32.1 s13.2.1.toNat false 2 (u51+1) (((s32.1.getD s13.2.1.toNat [])++[s32.2.2]).length))⟩ ty23 rfl rfl rfl rfl rfl (nxs_get hX53.hi) rfl rfl (congrArg (ABlk.mk u34 1 23) nxs_set)) (TO.nil (T.region (oN mv (jW h fun g56 h=>oN (EvN.add rfl rfl g56) (oN as' (TO.nil ?_)))))))))))
       obtain rfl:=osj h
       exact ⟨((up 1 ((up 1 y35).put s13.2.1.toNat (false,0,u51+1))),(some ⟨0,4,56,[(ZIn.c ((p.getD s13.2.1.toNat default).getD s32.2.1.toNat default))]⟩::(bE false (u51+1) 1 3 (((s32.1.getD s13.2.1.toNat [])++[s32.2.2]).map cI)::kk52)),u34),((hX53.close (g:=false) (v:=u51+1) (r:=((s32.1.getD s13.2.1.toNat [])++[s32.2.2])) nofun (fun _=>rfl)).push (fun _ hb=>osi hb ▸ rowsF_row rfl)),cutW (congrArg (fun r_:List (List AV)=>(bE false u34 1 23 r_::some ⟨0,4,56,[(ZIn.c ((p.getD s13.2.1.toNat default).getD s32.2.1.toNat default))]⟩::bE false (u51+1) 1 3 (((s32.1.getD s13.2.1.toNat [])++[s32.2.2]).map cI)::kk52:AH)) (show (nxs 3 y35 1 s32.1 s13.2.1.toNat false 2 (u51+1) (((s32.1.getD s13.2.1.toNat [])++[s32.2.2]).length))=nrs 1 (up 1 ((up 1 y35).put s13.2.1.toNat (false,0,u51+1))) 1 (s32.1.set s13.2.1.toNat ((s32.1.getD s13.2.1.toNat [])++[s32.2.2])) from nxs_close (m:=2) (gh:=y35) (r:=((s32.1.getD s13.2.1.toNat [])++[s32.2.2])) hX53.hi).symm) (wkC rfl (wkC rfl (wkC rfl (wkC rfl (wkC rfl (wkC rfl (wkC rfl (wkC rfl (wkC (congrArg (hS false 0 u34 1) (by simp:s32.1.length=(s32.1.set s13.2.1.toNat ((s32.1.getD s13.2.1.toNat [])++[s32.2.2])).length)) wkN)))))))))⟩
    ·refine T.exit (lX h fun h => ?_)
     obtain rfl:=osj h
     exact ⟨(y35,kk36,u34),hN37,kw rfl rfl⟩
  ·refine T.exit (lX h fun h => ?_)
   obtain rfl:=osj h
   exact ⟨(y16,kk17,u15),hN18,kw rfl rfl⟩
end Go.Proofs.Ytlmjnhnpahicmaa
