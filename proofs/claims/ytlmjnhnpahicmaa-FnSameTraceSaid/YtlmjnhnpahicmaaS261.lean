/-
 The program's code computes the functions over plain values; printed by lift.py. No conditions.
-/
import Derived.Test.YtlmjnhnpahicmaaS26d
import Derived.Test.YtlmjnhnpahicmaaSf
import Derived.Test.YtlmjnhnpahicmaaL15
import Derived.Test.YtlmjnhnpahicmaaGH
import Derived.Test.YtlmjnhnpahicmaaBrV
namespace Go.Proofs.Ytlmjnhnpahicmaa
open Go.RowKit
set_option maxRecDepth 100000
theorem F_laws_toInstr_P (a:Xlaws_Instr) {q:ZIn} (h:F_laws_toInstr a=some q):PCall Try.prog 86 [.agg (Xlaws_Instr.c a)] (.agg (ZIn.c q)):=by
 refine pM Try.func86 rfl (by kernel_rfl) rfl (T.sr (oN (EvN.bxF (Xlaws_Instr.c a) rfl rfl rfl) (oA (EvA.al zs56 rfl rfl) (TO.nil (T.sr (oA (EvA.al zs56 rfl rfl) (TO.nil (T.sr (oN (fa fs93 rfl) (oN (lf (I a.Op) ty3 rfl) (oN (fa fs56 rfl) (oV (sr [I a.Op,I (0:Int),I (0:Int),I (0:Int)] ty3 rfl rfl rfl rfl) (TO.nil (T.sr (oN (fa fs93 rfl) ?_)))))))))))))))
 refine oN (lf (I a.Loc) ty3 rfl) (oN (fa fs56 rfl) (oV (sr [I a.Op,I a.Loc,I (0:Int),I (0:Int)] ty3 rfl rfl rfl rfl) (TO.nil (T.sr (oN (fa fs93 rfl) (oN (lf (I a.Reg) ty3 rfl) (oN (fa fs56 rfl) (oV (sr [I a.Op,I a.Loc,I a.Reg,I (0:Int)] ty3 rfl rfl rfl rfl) (TO.nil (T.sr (oN (fa fs93 rfl) (oN (lf (I a.Val) ty3 rfl) (oN (fa fs56 rfl) (oV (sr [I a.Op,I a.Loc,I a.Reg,I a.Val] ty3 rfl rfl rfl rfl) (TO.nil ?_)))))))))))))))
 refine T.sr (oA (lh (.agg [I a.Op,I a.Loc,I a.Reg,I a.Val]) ty56 rfl rfl rfl) (oV (sr [I a.Op,I a.Loc,I a.Reg,I a.Val] ty56 rfl rfl rfl rfl) (TO.nil (T.ret ?_))))
 obtain rfl:=osj h
 repeat (first|refine retS ?_|refine retB ?_)
 exact Fin.ret (vs:=[.agg [I a.Op,I a.Loc,I a.Reg,I a.Val]]) (.cons (.cell (.agg [I a.Op,I a.Loc,I a.Reg,I a.Val]) ty56 rfl rfl rfl rfl rfl rfl) .nil) (.of_isF 9 _ rfl)
theorem F_laws_toInstrS_P (a:List Xlaws_Instr) {q:(List ZIn)} (h:F_laws_toInstrS a=some q):PCall Try.prog 46 [eL Xlaws_Instr.c a] (eL ZIn.c q):=by
 refine pM Try.func46 rfl (by kernel_rfl) rfl (T.sr (oN as' (TO.nil (T.sr (oN mv (oN (EvN.lenL sl64 rfl) (jD h fun g1 h=>oA (EvA.mkN (c:=ZIn.c) (default:ZIn) sl57 rfl rfl g1 rfl rfl rfl) (oN (EvN.asg (hS false 0 0 4 ((List.replicate (a.length:Int).toNat (default:ZIn)).length)) rfl) (TO.nil ?_)))))))))
 refine T.jF (G:=Nat) h (fun s2 gh=>True) (fun s2 gh=>[(3,hS false 0 gh 4 s2.length)]) (fun s2 gh=>[bE false gh 4 56 (s2.map ZIn.c)]) (fun s2 u14 h hg => ?_) (fun s2 h => ?_)
 ·refine T.sr (oN mv (oN (EvN.asg (hS false 0 u14 4 s2.length) rfl) (TO.nil (T.ret ?_))))
  obtain rfl:=osj h
  repeat (first|refine retS ?_|refine retB ?_)
  exact Fin.ret (vs:=[hS false 0 u14 4 s2.length]) (.cons (.tmp rfl) .nil) (Fz.own (g:=false) (ver:=u14) (l:=s2) rfl rfl rfl nofun ZIn.isF)
 ·refine T.sr (oN as' (TO.nil (T.block ?_)))
  refine T.loop (S:=(List ZIn)×Int) (G:=Nat) (F_laws_toInstrS_L7 a) (fun s6 gh=>True) (fun s6 gh=>[(4,I s6.2),(3,hS false 0 gh 4 s6.1.length),(0,eL Xlaws_Instr.c a)]) (fun s6 gh=>[bE false gh 4 56 (s6.1.map ZIn.c)]) (s0:=((List.replicate (a.length:Int).toNat (default:ZIn)),(0:Int))) 0 h trivial (kw rfl rfl) (fun s6 u8 ws6 h hg => ?_)
  refine T.seq (T.sr (oN mv (oN mv (oN (EvN.lenL sl64 rfl) (oN (EvN.ilt rfl rfl) (TO.nil ?_))))))
  refine T.ifH rfl h (fun q9 h => ?_) (fun q9 h => ?_)
  ·refine T.skip (T.seq (T.block (T.region (oN mv (oN mv (oN mv (oN mv (jD h fun g10 h=>oN (EvN.ixL sl64 rfl rfl g10 (fun _=>rfl)) (oN (lf (.agg (Xlaws_Instr.c (a.getD s6.2.toNat default))) ty93 rfl) (oC h (fun _=>F_laws_toInstr_P _) rfl rfl rfl rfl fun v11 _ h=>jD h fun g12 h=>oN (EvN.ixO (g:=false) sl57 rfl rfl nofun g12) (oV (EvA.stO (g:=false) (l:=s6.1) (cs:=(ZIn.c v11)) v11 ty56 rfl rfl rfl nofun (toNat_lt' rfl g12) rfl rfl rfl) (TO.nil ?_))))))))))))
   refine T.region (oN mv (jW h fun g13 h=>oN (EvN.add rfl rfl g13) (oN as' (TO.nil ?_))))
   obtain rfl:=osj h
   exact ⟨((s6.1.set s6.2.toNat v11),(s6.2+(1:Int))),u8,rfl,trivial,cutW rfl (wkC rfl (wkC (congrArg (hS false 0 u8 4) (by simp:s6.1.length=(s6.1.set s6.2.toNat v11).length)) (wkC rfl wkN)))⟩
  ·refine T.exit (lX h fun h => ?_)
   obtain rfl:=osj h
   exact ⟨u8,trivial,kw rfl rfl⟩
theorem F_spec_l3Start_P (p:List (List ZIn)) (buffers:Int) {q:ZSt} (h:F_spec_l3Start p buffers=some q):PCall Try.prog 116 [eL (cL ZIn.c) p,I buffers] (.agg (ZSt.c q)):=by
 refine pM Try.func116 rfl (by kernel_rfl) rfl (T.sr (oA (EvA.al zs129 rfl rfl) (TO.nil (T.seq (T.reserve (T.drawF (fun i=>[([],false),([],false),([],false),([],false),([],false),([],false),([],false),([],false),([],false),([1],true),([1],true)].getD i ([],false)) (by kernel_rfl) (by kernel_rfl) (fN rfl mv (fN rfl (EvN.lenL sl27 rfl) (jD h fun g1 h=>fN rfl (EvN.msF (c:=cI) (default:Int) sl23 rfl rfl g1 rfl rfl (fun _=>rfl)) (fN rfl mv (fN rfl (EvN.lenL sl27 rfl) (jW h fun g2 h=>fN rfl (EvN.mul rfl rfl g2) (jD h fun g3 h => ?_)))))))))))))
 refine fN rfl (EvN.msF (c:=cI) (default:Int) sl23 rfl rfl g3 rfl rfl (fun _=>rfl)) (jD h fun g4 h=>fN rfl (EvN.msF (c:=cI) (default:Int) sl23 rfl rfl g4 rfl rfl (fun _=>rfl)) (fN rfl (EvN.build [eL cI (List.replicate (p.length:Int).toNat (default:Int)),eL cI (List.replicate ((p.length:Int)*(3:Int)).toNat (default:Int)),eL cI (List.replicate (3:Int).toNat (default:Int)),.nil] Try.underlying129 zs129 fs129 rfl rfl) (fW 1 [] rfl rfl (fun G hG=>EvA.alR 1 zs129 rfl rfl (hG.a0 rfl)) (fV 1 [] rfl rfl (fun G hG=>EvA.st (cs:=[eL cI (List.replicate (p.length:Int).toNat (default:Int)),eL cI (List.replicate ((p.length:Int)*(3:Int)).toNat (default:Int)),eL cI (List.replicate (3:Int).toNat (default:Int)),.nil]) ⟨0,4,129,[[eL cI (List.replicate (p.length:Int).toNat (default:Int)),eL cI (List.replicate ((p.length:Int)*(3:Int)).toNat (default:Int)),eL cI (List.replicate (3:Int).toNat (default:Int)),.nil]]⟩ ty129 rfl rfl (hG.a0 rfl) rfl rfl rfl rfl rfl rfl) (TF.nil (T.sr (oN mv (jD h fun g5 h=>oN (EvN.msZ (f:=cI) sl37 rfl rfl g5 rfl) (oN (fa fs129 rfl) (oV (sr [eL cI (List.replicate (p.length:Int).toNat (default:Int)),eL cI (List.replicate ((p.length:Int)*(3:Int)).toNat (default:Int)),eL cI (List.replicate (3:Int).toNat (default:Int)),eL (cL cI) (List.replicate buffers.toNat ([]:List Int))] ty37 rfl rfl rfl rfl) (TO.nil (T.sr (oA (lh (.agg [eL cI (List.replicate (p.length:Int).toNat (default:Int)),eL cI (List.replicate ((p.length:Int)*(3:Int)).toNat (default:Int)),eL cI (List.replicate (3:Int).toNat (default:Int)),eL (cL cI) (List.replicate buffers.toNat ([]:List Int))]) ty129 rfl rfl rfl) ?_)))))))))))))
 refine oV (sr [eL cI (List.replicate (p.length:Int).toNat (default:Int)),eL cI (List.replicate ((p.length:Int)*(3:Int)).toNat (default:Int)),eL cI (List.replicate (3:Int).toNat (default:Int)),eL (cL cI) (List.replicate buffers.toNat ([]:List Int))] ty129 rfl rfl rfl rfl) (TO.nil (T.ret ?_))
 obtain rfl:=osj h
 repeat (first|refine retS ?_|refine retB ?_)
 exact Fin.ret (vs:=[.agg [eL cI (List.replicate (p.length:Int).toNat (default:Int)),eL cI (List.replicate ((p.length:Int)*(3:Int)).toNat (default:Int)),eL cI (List.replicate (3:Int).toNat (default:Int)),eL (cL cI) (List.replicate buffers.toNat ([]:List Int))]]) (.cons (.cell (.agg [eL cI (List.replicate (p.length:Int).toNat (default:Int)),eL cI (List.replicate ((p.length:Int)*(3:Int)).toNat (default:Int)),eL cI (List.replicate (3:Int).toNat (default:Int)),eL (cL cI) (List.replicate buffers.toNat ([]:List Int))]) ty129 rfl rfl rfl rfl rfl rfl) .nil) (.of_isF 9 _ rfl)
theorem F_spec_l3Copy_OS (s:ZSt) {q:ZSt} (h:F_spec_l3Copy s=some q):ACall Try.prog 152 [.agg (ZSt.c s)] [] (.agg [hS false 0 (0+1) 1 q.at_.length,hS false 1 (0+1) 1 q.regs.length,hS false 2 (0+1) 1 q.mem.length,.nil]) [bE false (0+1) 1 3 (q.at_.map cI),bE false (0+1) 1 3 (q.regs.map cI),bE false (0+1) 1 3 (q.mem.map cI)]:=by
 refine ACall.mkOS Try.func152 rfl (by kernel_rfl) rfl (by kernel_rfl) (e0:=envOf [(0,.agg (ZSt.c s))]) (wkC rfl wkN) (T.sr (oN (EvN.bxF (ZSt.c s) rfl rfl rfl) (oA (EvA.al zs129 rfl rfl) (TO.nil (T.seq (T.reserve (T.reserve (T.reserve (T.reserve (T.drawF (fun i=>[([1],true),([],false),([],false),([1],true),([2],true),([],false),([],false),([2],true),([3],true),([],false),([],false),([3],true),([],false),([4],true),([4],true)].getD i ([],false)) (by kernel_rfl) (by kernel_rfl) (fW 1 [] rfl rfl (fun G hG=>EvA.mkOR (c:=cI) 1 ([]:List Int) [] sl23 rfl rfl rfl (fun _=>rfl) (fun _=>rfl) rfl (hG.a0 rfl)) (fN rfl (fa fs129 rfl) (fN rfl (lf (eL cI s.at_) ty23 rfl) (jL h fun g1 h=>fW 1 [] rfl rfl (fun G hG=>EvA.appF (l:=([]:List Int)) s.at_ sl23 (by kernel_rfl) rfl rfl (hG.a0 rfl) (SrcOk.fz (l:=s.at_) rfl (fun _=>rfl)) g1) ?_))))))))))))))
 refine fW 2 [] rfl rfl (fun G hG=>EvA.mkOR (c:=cI) 2 ([]:List Int) [] sl23 rfl rfl rfl (fun _=>rfl) (fun _=>rfl) rfl (hG.a0 rfl)) (fN rfl (fa fs129 rfl) (fN rfl (lf (eL cI s.regs) ty23 rfl) (jL h fun g2 h=>fW 2 [] rfl rfl (fun G hG=>EvA.appF (l:=([]:List Int)) s.regs sl23 (by kernel_rfl) rfl rfl (hG.a0 rfl) (SrcOk.fz (l:=s.regs) rfl (fun _=>rfl)) g2) (fW 3 [] rfl rfl (fun G hG=>EvA.mkOR (c:=cI) 3 ([]:List Int) [] sl23 rfl rfl rfl (fun _=>rfl) (fun _=>rfl) rfl (hG.a0 rfl)) (fN rfl (fa fs129 rfl) (fN rfl (lf (eL cI s.mem) ty23 rfl) (jL h fun g3 h=>fW 3 [] rfl rfl (fun G hG=>EvA.appF (l:=([]:List Int)) s.mem sl23 (by kernel_rfl) rfl rfl (hG.a0 rfl) (SrcOk.fz (l:=s.mem) rfl (fun _=>rfl)) g3) (fN rfl (EvN.build [hS false 1 (0+1) 1 ((([]:List Int)++s.at_).length),hS false 2 (0+1) 1 ((([]:List Int)++s.regs).length),hS false 3 (0+1) 1 ((([]:List Int)++s.mem).length),.nil] Try.underlying129 zs129 fs129 rfl rfl) (fW 4 [] rfl rfl (fun G hG=>EvA.alR 4 zs129 rfl rfl (hG.a0 rfl)) (fV 4 [] rfl rfl (fun G hG=>EvA.st (cs:=[hS false 1 (0+1) 1 ((([]:List Int)++s.at_).length),hS false 2 (0+1) 1 ((([]:List Int)++s.regs).length),hS false 3 (0+1) 1 ((([]:List Int)++s.mem).length),.nil]) ⟨0,4,129,[[hS false 1 (0+1) 1 ((([]:List Int)++s.at_).length),hS false 2 (0+1) 1 ((([]:List Int)++s.regs).length),hS false 3 (0+1) 1 ((([]:List Int)++s.mem).length),.nil]]⟩ ty129 rfl rfl (hG.a0 rfl) rfl rfl rfl rfl rfl rfl) (TF.nil ?_)))))))))))
 refine T.jU h (fun s4=>[(3,.hp 4 0 4 0 0),(2,.hp 0 0 4 0 0)]) (fun s4=>[some ⟨0,4,129,[[.nil,.nil,.nil,.nil]]⟩,bE false (0+1) 1 3 ((([]:List Int)++s.at_).map cI),bE false (0+1) 1 3 ((([]:List Int)++s.regs).map cI),bE false (0+1) 1 3 ((([]:List Int)++s.mem).map cI),some ⟨0,4,129,[[hS false 1 (0+1) 1 ((([]:List Int)++s.at_).length),hS false 2 (0+1) 1 ((([]:List Int)++s.regs).length),hS false 3 (0+1) 1 ((([]:List Int)++s.mem).length),.nil]]⟩]) (fun s4 h => ?_) (fun s4 h => ?_)
 ·refine T.sr (oA (lh (.agg [hS false 1 (0+1) 1 ((([]:List Int)++s.at_).length),hS false 2 (0+1) 1 ((([]:List Int)++s.regs).length),hS false 3 (0+1) 1 ((([]:List Int)++s.mem).length),.nil]) ty129 rfl rfl rfl) (oV (sr [hS false 1 (0+1) 1 ((([]:List Int)++s.at_).length),hS false 2 (0+1) 1 ((([]:List Int)++s.regs).length),hS false 3 (0+1) 1 ((([]:List Int)++s.mem).length),.nil] ty129 rfl rfl rfl rfl) (TO.nil (T.ret ?_))))
  obtain rfl:=osj h
  repeat (first|refine retS ?_|refine retB ?_)
  exact Fin.ret (vs:=[.agg [hS false 1 (0+1) 1 ((([]:List Int)++s.at_).length),hS false 2 (0+1) 1 ((([]:List Int)++s.regs).length),hS false 3 (0+1) 1 ((([]:List Int)++s.mem).length),.nil]]) (.cons (.cell (.agg [hS false 1 (0+1) 1 ((([]:List Int)++s.at_).length),hS false 2 (0+1) 1 ((([]:List Int)++s.regs).length),hS false 3 (0+1) 1 ((([]:List Int)++s.mem).length),.nil]) ty129 rfl rfl rfl rfl rfl rfl) .nil) ⟨[1,2,3],OSQ.mk (by decide) (.cons rfl (rowsF_list (fun _=>rfl)) (.cons rfl (rowsF_list (fun _=>rfl)) (.cons rfl (rowsF_list (fun _=>rfl)) .nil))) (Ren.aggL (.cons (ren_pl rfl) (.cons (ren_pl rfl) (.cons (ren_pl rfl) (.cons (.pF rfl) .nil)))))⟩
 ·refine T.sr (oN as' (TO.nil (T.block ?_)))
  refine T.lU h (fun s6=>[(4,I (0:Int)),(3,.hp 4 0 4 0 0),(2,.hp 0 0 4 0 0),(1,.fp (ZSt.c s) 0)]) (fun s6=>[some ⟨0,4,129,[[.nil,.nil,.nil,.nil]]⟩,bE false (0+1) 1 3 ((([]:List Int)++s.at_).map cI),bE false (0+1) 1 3 ((([]:List Int)++s.regs).map cI),bE false (0+1) 1 3 ((([]:List Int)++s.mem).map cI),some ⟨0,4,129,[[hS false 1 (0+1) 1 ((([]:List Int)++s.at_).length),hS false 2 (0+1) 1 ((([]:List Int)++s.regs).length),hS false 3 (0+1) 1 ((([]:List Int)++s.mem).length),.nil]]⟩]) (kw rfl rfl) (fun s6 ws6 h => ?_)
  refine T.seq (T.sr (oN mv (oN (fa fs129 rfl) (oN (lf (eL (cL cI) s.buf) ty37 rfl) (oN (EvN.lenL sl37 rfl) (oN (EvN.ilt rfl rfl) (TO.nil ?_)))))))
  refine T.ifH rfl h (fun q8 h => ?_) (fun q8 h => ?_)
  ·cases h
  ·refine T.exit (lX h fun h => ?_)
   exact ⟨(),trivial,kw rfl rfl⟩
theorem F_spec_l1Reads_P (x:ZIn) {q:Bool} (h:F_spec_l1Reads x=some q):PCall Try.prog 144 [.agg (ZIn.c x)] (Bo q):=by
 refine pM Try.func144 rfl (by kernel_rfl) rfl (T.sr (oN (EvN.bxF (ZIn.c x) rfl rfl rfl) (oN as' (TO.nil (T.sr (oN (fa fs56 rfl) (oN (lf (I x.Op) ty3 rfl) (oN (EvN.ieq rfl rfl) (oN mv ?_)))))))))
 refine TO.jB h 4 (fun s1=>[(10,Bo s1)]) (fun s1=>[]) (fun s1 q2 h js1 => ?_) (fun s1 q2 h js1 => ?_) (fun s1 h => ?_)
 ·refine gS rfl q2 (gS rfl q2 (gS rfl q2 (oN (EvN.pickT rfl q2 (Bo true) rfl) ?_)))
  obtain rfl:=osj h
  exact js1 _ _ (kw rfl rfl)
 ·refine gN rfl q2 (fa fs56 rfl) (gN rfl q2 (lf (I x.Op) ty3 rfl) (gN rfl q2 (EvN.ieq rfl rfl) (oN (EvN.pickF rfl q2 (Bo (x.Op==(5:Int))) rfl) ?_)))
  obtain rfl:=osj h
  exact js1 _ _ (kw rfl rfl)
 ·refine oN as' (TO.nil (T.ret ?_))
  obtain rfl:=osj h
  exact finR rfl rfl rfl
theorem F_spec_l3Reg_P (t:Int) (reg:Int) {q:Int} (h:F_spec_l3Reg t reg=some q):PCall Try.prog 153 [I t,I reg] (I q):=by
 refine pM Try.func153 rfl (by kernel_rfl) rfl (T.sr (oN as' (TO.nil (T.sr (oN mv (jW h fun g1 h=>oN (EvN.mul rfl rfl g1) (oN mv (jW h fun g2 h=>oN (EvN.add rfl rfl g2) (oN as' (TO.nil (T.ret ?_)))))))))))
 obtain rfl:=osj h
 exact finR rfl rfl rfl
theorem F_spec_l1Writes_P (x:ZIn) {q:Bool} (h:F_spec_l1Writes x=some q):PCall Try.prog 145 [.agg (ZIn.c x)] (Bo q):=by
 refine pM Try.func145 rfl (by kernel_rfl) rfl (T.sr (oN (EvN.bxF (ZIn.c x) rfl rfl rfl) (oN as' (TO.nil (T.sr (oN (fa fs56 rfl) (oN (lf (I x.Op) ty3 rfl) (oN (EvN.ieq rfl rfl) (oN mv ?_)))))))))
 refine TO.jB h 4 (fun s1=>[(10,Bo s1),(1,.fp (ZIn.c x) 0)]) (fun s1=>[]) (fun s1 q2 h js1 => ?_) (fun s1 q2 h js1 => ?_) (fun s1 h => ?_)
 ·refine gS rfl q2 (gS rfl q2 (gS rfl q2 (oN (EvN.pickT rfl q2 (Bo true) rfl) ?_)))
  obtain rfl:=osj h
  exact js1 _ _ (kw rfl rfl)
 ·refine gN rfl q2 (fa fs56 rfl) (gN rfl q2 (lf (I x.Op) ty3 rfl) (gN rfl q2 (EvN.ieq rfl rfl) (oN (EvN.pickF rfl q2 (Bo (x.Op==(3:Int))) rfl) ?_)))
  obtain rfl:=osj h
  exact js1 _ _ (kw rfl rfl)
 ·refine oN mv ?_
  refine TO.jB h 4 (fun s3=>[(15,Bo s3)]) (fun s3=>[]) (fun s3 q4 h js3 => ?_) (fun s3 q4 h js3 => ?_) (fun s3 h => ?_)
  ·refine gS rfl q4 (gS rfl q4 (gS rfl q4 (oN (EvN.pickT rfl q4 (Bo true) rfl) ?_)))
   obtain rfl:=osj h
   exact js3 _ _ (kw rfl rfl)
  ·refine gN rfl q4 (fa fs56 rfl) (gN rfl q4 (lf (I x.Op) ty3 rfl) (gN rfl q4 (EvN.ieq rfl rfl) (oN (EvN.pickF rfl q4 (Bo (x.Op==(5:Int))) rfl) ?_)))
   obtain rfl:=osj h
   exact js3 _ _ (kw rfl rfl)
  ·refine oN as' (TO.nil (T.ret ?_))
   obtain rfl:=osj h
   exact finR rfl rfl rfl
theorem F_spec_l3Value_P (s:ZSt) (t:Int) (x:ZIn) {q:Int} (h:F_spec_l3Value s t x=some q):PCall Try.prog 154 [.agg (ZSt.c s),I t,.agg (ZIn.c x)] (I q):=by
 refine pM Try.func154 rfl (by kernel_rfl) rfl (T.sr (oN (EvN.bxF (ZSt.c s) rfl rfl rfl) (oN (EvN.bxF (ZIn.c x) rfl rfl rfl) (oN as' (TO.nil (T.seq (T.sr (oN (fa fs56 rfl) (oN (lf (I x.Op) ty3 rfl) (oN (EvN.ieq rfl rfl) (TO.nil ?_)))))))))))
 refine T.ifH rfl h (fun q1 h => ?_) (fun q1 h => ?_)
 ·refine T.seq (T.drawF (fun _=>([],false)) (by kernel_rfl) (by kernel_rfl) (fN rfl (fa fs129 rfl) (fN rfl (lf (eL cI s.regs) ty23 rfl) (fN rfl mv (fN rfl (fa fs56 rfl) (fN rfl (lf (I x.Reg) ty3 rfl) (fC h (fun _=>F_spec_l3Reg_P _ _) rfl rfl rfl rfl rfl fun v2 _ h=>jD h fun g3 h=>fN rfl (EvN.ixL sl23 rfl rfl g3 (fun _=>rfl)) (fN rfl (lf (I (s.regs.getD v2.toNat default)) ty3 rfl) (fN rfl as' (TF.nil (T.ret ?_)))))))))))
  obtain rfl:=osj h
  exact finR rfl rfl rfl
 ·refine T.skip (T.sr (oN (fa fs56 rfl) (oN (lf (I x.Val) ty3 rfl) (oN as' (TO.nil (T.ret ?_))))))
  obtain rfl:=osj h
  exact finR rfl rfl rfl
theorem F_spec_l3Do_P (p:List (List ZIn)) (s:ZSt) (t:Int) {q:ZSt} (h:F_spec_l3Do p s t=some q):PCall Try.prog 117 [eL (cL ZIn.c) p,.agg (ZSt.c s),I t] (.agg (ZSt.c q)):=by
 refine pM Try.func117 rfl (by kernel_rfl) rfl (T.sr (oN (EvN.bxF (ZSt.c s) rfl rfl rfl) (oA (EvA.al zs129 rfl rfl) (TO.nil (T.sr (oN (lf (.agg (ZSt.c s)) ty129 rfl) (jB h fun v1 cv1 h=>oA (EvA.call rfl rfl rfl ((F_spec_l3Copy_OS s cv1).freshL rfl (RowsF.spec (.cons (rowsF_list (fun _=>rfl)) (.cons (rowsF_list (fun _=>rfl)) (.cons (rowsF_list (fun _=>rfl)) .nil)))) 1 rfl (Ren.aggL (.cons (ren_sh rfl) (.cons (ren_sh rfl) (.cons (ren_sh rfl) (.cons (.pF rfl) .nil))))))) (oA (EvA.al zs129 rfl rfl) (oV (sr [hS false 1 (0+1) 1 v1.at_.length,hS false 2 (0+1) 1 v1.regs.length,hS false 3 (0+1) 1 v1.mem.length,.nil] ty129 rfl rfl rfl rfl) (TO.nil (T.seq (T.reserve (T.drawF (fun i=>[([],false),([],false),([],false),([],false),([],false),([],false),([],false),([],false),([],false),([],false),([],false),([5],true),([5],true)].getD i ([],false)) (by kernel_rfl) (by kernel_rfl) (fN rfl mv ?_))))))))))))))
 refine fN rfl mv (jD h fun g2 h=>fN rfl (EvN.ixL sl27 rfl rfl g2 (fun _=>rfl)) (fN rfl (lf (eL ZIn.c (p.getD t.toNat default)) ty57 rfl) (fN rfl (fa fs129 rfl) (fN rfl (lf (eL cI s.at_) ty23 rfl) (fN rfl mv (jD h fun g3 h=>fN rfl (EvN.ixL sl23 rfl rfl g3 (fun _=>rfl)) (fN rfl (lf (I (s.at_.getD t.toNat default)) ty3 rfl) (jD h fun g4 h=>fN rfl (EvN.ixL sl57 rfl rfl g4 (fun _=>rfl)) (fN rfl (lf (.agg (ZIn.c ((p.getD t.toNat default).getD (s.at_.getD t.toNat default).toNat default))) ty56 rfl) (fW 5 [] rfl rfl (fun G hG=>EvA.alR 5 zs56 rfl rfl (hG.a0 rfl)) (fV 5 [] rfl rfl (fun G hG=>EvA.st (cs:=(ZIn.c ((p.getD t.toNat default).getD (s.at_.getD t.toNat default).toNat default))) ⟨0,4,56,[(ZIn.c ((p.getD t.toNat default).getD (s.at_.getD t.toNat default).toNat default))]⟩ ty56 rfl rfl (hG.a0 rfl) rfl rfl rfl rfl rfl rfl) (TF.nil ?_))))))))))))
 refine T.seq (T.drawF (fun i=>[([],false),([4],false),([],false),([],false),([],false),([],false),([],false),([],false),([],false),([],false),([1],true)].getD i ([],false)) (by kernel_rfl) (by kernel_rfl) (fN rfl (fa fs129 rfl) (fR [4] rfl (fun G hG=>EvA.loadhp (hS false 1 (0+1) 1 v1.at_.length) ty23 rfl (hG.a0 rfl) rfl rfl rfl rfl) (fN rfl mv (fN rfl (fa fs129 rfl) (fN rfl (lf (eL cI s.at_) ty23 rfl) (fN rfl mv (fN rfl (EvN.ixL sl23 rfl rfl g3 (fun _=>rfl)) (fN rfl (lf (I (s.at_.getD t.toNat default)) ty3 rfl) (jW h fun g5 h=>fN rfl (EvN.add rfl rfl g5) (jD h fun g6 h=>fN rfl (EvN.ixO (g:=false) sl23 rfl rfl nofun g6) (fV 1 [] rfl rfl (fun G hG=>EvA.stO (g:=false) (l:=v1.at_) (cs:=[I ((s.at_.getD t.toNat default)+(1:Int))]) ((s.at_.getD t.toNat default)+(1:Int)) ty3 rfl rfl (hG.a0 rfl) nofun (toNat_lt' rfl g6) rfl rfl rfl) (TF.nil ?_)))))))))))))
 refine T.jF (G:=Nat) h (fun s7 gh=>True) (fun s7 gh=>[(8,.hp 5 0 4 0 0),(7,.hp 4 0 4 0 0),(6,.hp 0 0 4 0 0),(4,.fp (ZSt.c s) 0),(2,I t)]) (fun s7 gh=>[some ⟨0,4,129,[[.nil,.nil,.nil,.nil]]⟩,bE false (0+1) 1 3 ((v1.at_.set t.toNat ((s.at_.getD t.toNat default)+(1:Int))).map cI),bE false gh 1 3 (s7.map cI),bE false (0+1) 1 3 (v1.mem.map cI),some ⟨0,4,129,[[hS false 1 (0+1) 1 ((v1.at_.set t.toNat ((s.at_.getD t.toNat default)+(1:Int))).length),hS false 2 gh 1 s7.length,hS false 3 (0+1) 1 v1.mem.length,.nil]]⟩,some ⟨0,4,56,[(ZIn.c ((p.getD t.toNat default).getD (s.at_.getD t.toNat default).toNat default))]⟩]) (fun s7 u13 h hg => ?_) (fun s7 h => ?_)
 ·refine T.jF (G:=Nat) h (fun s14 gh=>True) (fun s14 gh=>[(7,.hp 4 0 4 0 0),(6,.hp 0 0 4 0 0)]) (fun s14 gh=>[some ⟨0,4,129,[[.nil,.nil,.nil,.nil]]⟩,bE false (0+1) 1 3 ((v1.at_.set t.toNat ((s.at_.getD t.toNat default)+(1:Int))).map cI),bE false u13 1 3 (s7.map cI),bE false gh 1 3 (s14.map cI),some ⟨0,4,129,[[hS false 1 (0+1) 1 ((v1.at_.set t.toNat ((s.at_.getD t.toNat default)+(1:Int))).length),hS false 2 u13 1 s7.length,hS false 3 gh 1 s14.length,.nil]]⟩,some ⟨0,4,56,[(ZIn.c ((p.getD t.toNat default).getD (s.at_.getD t.toNat default).toNat default))]⟩]) (fun s14 u19 h hg => ?_) (fun s14 h => ?_)
  ·refine T.sr (oA (lh (.agg [hS false 1 (0+1) 1 ((v1.at_.set t.toNat ((s.at_.getD t.toNat default)+(1:Int))).length),hS false 2 u13 1 s7.length,hS false 3 u19 1 s14.length,.nil]) ty129 rfl rfl rfl) (oV (sr [hS false 1 (0+1) 1 ((v1.at_.set t.toNat ((s.at_.getD t.toNat default)+(1:Int))).length),hS false 2 u13 1 s7.length,hS false 3 u19 1 s14.length,.nil] ty129 rfl rfl rfl rfl) (TO.nil (T.ret ?_))))
   obtain rfl:=osj h
   repeat (first|refine retS ?_|refine retB ?_)
   exact Fin.ret (vs:=[.agg [hS false 1 (0+1) 1 ((v1.at_.set t.toNat ((s.at_.getD t.toNat default)+(1:Int))).length),hS false 2 u13 1 s7.length,hS false 3 u19 1 s14.length,.nil]]) (.cons (.cell (.agg [hS false 1 (0+1) 1 ((v1.at_.set t.toNat ((s.at_.getD t.toNat default)+(1:Int))).length),hS false 2 u13 1 s7.length,hS false 3 u19 1 s14.length,.nil]) ty129 rfl rfl rfl rfl rfl rfl) .nil) (Fz.aggL (.cons (Fz.own (g:=false) (ver:=0+1) (l:=(v1.at_.set t.toNat ((s.at_.getD t.toNat default)+(1:Int)))) rfl rfl rfl nofun (fun _=>rfl)) (.cons (Fz.own (g:=false) (ver:=u13) (l:=s7) rfl rfl rfl nofun (fun _=>rfl)) (.cons (Fz.own (g:=false) (ver:=u19) (l:=s14) rfl rfl rfl nofun (fun _=>rfl)) (.cons (.nil0) .nil)))))
  ·refine T.sr (oA (lh (.agg (ZIn.c ((p.getD t.toNat default).getD (s.at_.getD t.toNat default).toNat default))) ty56 rfl rfl rfl) (oC h (fun _=>F_spec_l1Writes_P _) rfl rfl rfl rfl fun v15 _ h=>TO.nil ?_))
   refine T.ifH rfl h (fun q16 h => ?_) (fun q16 h => ?_)
   ·refine T.drawF (fun i=>[([],false),([4],false),([],false),([5],false),([],false),([],false),([5],false),([],false),([],false),([3],true)].getD i ([],false)) (by kernel_rfl) (by kernel_rfl) (fN rfl (fa fs129 rfl) (fR [4] rfl (fun G hG=>EvA.loadhp (hS false 3 (0+1) 1 v1.mem.length) ty23 rfl (hG.a0 rfl) rfl rfl rfl rfl) (fN rfl (fa fs56 rfl) (fR [5] rfl (fun G hG=>EvA.loadhp (I (((p.getD t.toNat default).getD (s.at_.getD t.toNat default).toNat default).Loc)) ty3 rfl (hG.a0 rfl) rfl rfl rfl rfl) (fN rfl (lf (.agg (ZSt.c s)) ty129 rfl) (fN rfl mv (fR [5] rfl (fun G hG=>EvA.loadhp (.agg (ZIn.c ((p.getD t.toNat default).getD (s.at_.getD t.toNat default).toNat default))) ty56 rfl (hG.a0 rfl) rfl rfl rfl rfl) (fC h (fun _=>F_spec_l3Value_P _ _ _) rfl rfl rfl rfl rfl fun v17 _ h=>jD h fun g18 h=>fN rfl (EvN.ixO (g:=false) sl23 rfl rfl nofun g18) (fV 3 [] rfl rfl (fun G hG=>EvA.stO (g:=false) (l:=v1.mem) (cs:=[I v17]) v17 ty3 rfl rfl (hG.a0 rfl) nofun (toNat_lt' rfl g18) rfl rfl rfl) (TF.nil ?_))))))))))
    obtain rfl:=osj h
    exact ⟨0+1,trivial,kw (by simp only [List.length_set] <;> rfl) rfl⟩
   ·refine T.skip ?_
    obtain rfl:=osj h
    exact ⟨0+1,trivial,kw rfl rfl⟩
 ·refine T.seq (T.clean (H0:=[some ⟨0,4,129,[[.nil,.nil,.nil,.nil]]⟩,bE false (0+1) 1 3 ((v1.at_.set t.toNat ((s.at_.getD t.toNat default)+(1:Int))).map cI),bE false (0+1) 1 3 (v1.regs.map cI),bE false (0+1) 1 3 (v1.mem.map cI),some ⟨0,4,129,[[hS false 1 (0+1) 1 v1.at_.length,hS false 2 (0+1) 1 v1.regs.length,hS false 3 (0+1) 1 v1.mem.length,.nil]]⟩,some ⟨0,4,56,[(ZIn.c ((p.getD t.toNat default).getD (s.at_.getD t.toNat default).toNat default))]⟩]) (e0:=envOf [(8,.hp 5 0 4 0 0),(7,.hp 4 0 4 0 0),(6,.hp 0 0 4 0 0),(4,.fp (ZSt.c s) 0),(2,I t)]) rfl (wkC rfl (wkC rfl (wkC rfl (wkC rfl (wkC rfl wkN))))) (T.region (oA (lh (.agg (ZIn.c ((p.getD t.toNat default).getD (s.at_.getD t.toNat default).toNat default))) ty56 rfl rfl rfl) (oC h (fun _=>F_spec_l1Reads_P _) rfl rfl rfl rfl fun v8 _ h=>TO.nil ?_))))
  refine T.ifH rfl h (fun q9 h => ?_) (fun q9 h => ?_)
  ·refine T.drawF (fun i=>[([],false),([4],false),([],false),([],false),([5],false),([],false),([],false),([],false),([],false),([5],false),([],false),([],false),([],false),([2],true)].getD i ([],false)) (by kernel_rfl) (by kernel_rfl) (fN rfl (fa fs129 rfl) (fR [4] rfl (fun G hG=>EvA.loadhp (hS false 2 (0+1) 1 v1.regs.length) ty23 rfl (hG.a0 rfl) rfl rfl rfl rfl) (fN rfl mv (fN rfl (fa fs56 rfl) (fR [5] rfl (fun G hG=>EvA.loadhp (I (((p.getD t.toNat default).getD (s.at_.getD t.toNat default).toNat default).Reg)) ty3 rfl (hG.a0 rfl) rfl rfl rfl rfl) (fC h (fun _=>F_spec_l3Reg_P _ _) rfl rfl rfl rfl rfl fun v10 _ h=>fN rfl (fa fs129 rfl) (fN rfl (lf (eL cI s.mem) ty23 rfl) (fN rfl (fa fs56 rfl) (fR [5] rfl (fun G hG=>EvA.loadhp (I (((p.getD t.toNat default).getD (s.at_.getD t.toNat default).toNat default).Loc)) ty3 rfl (hG.a0 rfl) rfl rfl rfl rfl) (jD h fun g11 h=>fN rfl (EvN.ixL sl23 rfl rfl g11 (fun _=>rfl)) (fN rfl (lf (I (s.mem.getD (((p.getD t.toNat default).getD (s.at_.getD t.toNat default).toNat default).Loc).toNat default)) ty3 rfl) (jD h fun g12 h=>fN rfl (EvN.ixO (g:=false) sl23 rfl rfl nofun g12) ?_))))))))))))
   refine fV 2 [] rfl rfl (fun G hG=>EvA.stO (g:=false) (l:=v1.regs) (cs:=[I (s.mem.getD (((p.getD t.toNat default).getD (s.at_.getD t.toNat default).toNat default).Loc).toNat default)]) (s.mem.getD (((p.getD t.toNat default).getD (s.at_.getD t.toNat default).toNat default).Loc).toNat default) ty3 rfl rfl (hG.a0 rfl) nofun (toNat_lt' rfl g12) rfl rfl rfl) (TF.nil ?_)
   obtain rfl:=osj h
   exact ⟨0+1,trivial,kw (by simp only [List.length_set] <;> rfl) rfl⟩
  ·refine T.skip ?_
   obtain rfl:=osj h
   exact ⟨0+1,trivial,kw (by simp only [List.length_set] <;> rfl) rfl⟩
theorem F_spec_l3Done_P (p:List (List ZIn)) (s:ZSt) {q:Bool} (h:F_spec_l3Done p s=some q):PCall Try.prog 118 [eL (cL ZIn.c) p,.agg (ZSt.c s)] (Bo q):=by
 refine pM Try.func118 rfl (by kernel_rfl) rfl (T.sr (oN (EvN.bxF (ZSt.c s) rfl rfl rfl) (oN as' (TO.nil ?_))))
 obtain ⟨Ks1,es1,ws1,h,ks1⟩:=sumL h
 refine T.join (S:=Unit) (G:=Unit) (fun s1=>Ks1 s1=some q) (fun s1 gh=>True) (fun s1 gh=>[]) (fun s1 gh=>[]) (fun s1 gh h hg => ?_) ?_
 ·clear ks1
  subst es1
  refine T.sr (oN as' (TO.nil (T.ret ?_)))
  obtain rfl:=osj h
  exact finR rfl rfl rfl
 ·refine T.sr (oN as' (TO.nil (T.block ?_)))
  refine T.lU h (fun s4=>[(5,I s4),(3,.fp (ZSt.c s) 0),(0,eL (cL ZIn.c) p)]) (fun s4=>[]) (kw rfl rfl) (fun s4 ws4 h => ?_)
  refine T.seq (T.sr (oN mv (oN mv (oN (EvN.lenL sl27 rfl) (oN (EvN.ilt rfl rfl) (TO.nil ?_))))))
  refine T.ifH rfl h (fun q6 h => ?_) (fun q6 h => ?_)
  ·refine T.skip (T.seq (T.block (T.seq (T.drawF (fun _=>([],false)) (by kernel_rfl) (by kernel_rfl) (fN rfl (fa fs129 rfl) (fN rfl (lf (eL cI s.at_) ty23 rfl) (fN rfl mv (jD h fun g7 h=>fN rfl (EvN.ixL sl23 rfl rfl g7 (fun _=>rfl)) (fN rfl (lf (I (s.at_.getD s4.toNat default)) ty3 rfl) (fN rfl mv (fN rfl mv (jD h fun g8 h=>fN rfl (EvN.ixL sl27 rfl rfl g8 (fun _=>rfl)) (fN rfl (lf (eL ZIn.c (p.getD s4.toNat default)) ty57 rfl) ?_)))))))))))))
   refine fN rfl (EvN.lenL sl57 rfl) (fN rfl (EvN.ilt rfl rfl) (TF.nil ?_))
   refine T.ifH rfl h (fun q9 h => ?_) (fun q9 h => ?_)
   ·refine T.seq (T.clean (H0:=[]) (e0:=envOf []) rfl wkN (T.region (oN as' (TO.nil (T.ret (lX h fun h => ?_))))))
    obtain rfl:=osj h
    replace h:=congrArg some (show _=_ from ks1)
    obtain rfl:=osj h
    exact finR rfl rfl rfl
   ·refine T.skip (T.region (oN mv (jW h fun g10 h=>oN (EvN.add rfl rfl g10) (oN as' (TO.nil ?_)))))
    exact lE h (kw rfl rfl)
  ·refine T.exit (lX h fun h => ?_)
   obtain rfl:=osj h
   exact ⟨(),(),ks1,trivial,kw rfl rfl⟩
theorem F_spec_l3Outcome_P (s:ZSt) {q:(List Int)} (h:F_spec_l3Outcome s=some q):PCall Try.prog 119 [.agg (ZSt.c s)] (eL cI q):=by
 refine pM Try.func119 rfl (by kernel_rfl) rfl (T.sr (oN (EvN.bxF (ZSt.c s) rfl rfl rfl) (oN as' (TO.nil (T.seq (T.reserve (T.drawH (fun i=>[([0],true),([],false),([],false),([0],true),([],false),([],false),([0],true),([],false)].getD i ([],false)) (by kernel_rfl) (by kernel_rfl) (fW 0 [] rfl rfl (fun G hG=>EvA.mkOR (c:=cI) 0 ([]:List Int) [] sl23 rfl rfl rfl (fun _=>rfl) (fun _=>rfl) rfl (hG.a0 rfl)) (fN rfl (fa fs129 rfl) (fN rfl (lf (eL cI s.regs) ty23 rfl) (jL h fun g1 h=>fW 0 [] rfl rfl (fun G hG=>EvA.appF (l:=([]:List Int)) s.regs sl23 (by kernel_rfl) rfl rfl (hG.a0 rfl) (SrcOk.fz (l:=s.regs) rfl (fun _=>rfl)) g1) (fN rfl (fa fs129 rfl) (fN rfl (lf (eL cI s.mem) ty23 rfl) (jL h fun g2 h => ?_))))))))))))))
 refine fW 0 [] rfl rfl (fun G hG=>EvA.appF (l:=(([]:List Int)++s.regs)) s.mem sl23 (by kernel_rfl) rfl rfl (hG.a0 rfl) (SrcOk.fz (l:=s.mem) rfl (fun _=>rfl)) g2) (fN rfl (EvN.asg (hS false 0 ((0+1)+1) 1 (((([]:List Int)++s.regs)++s.mem).length)) rfl) (TF.nil (T.ret ?_)))
 obtain rfl:=osj h
 repeat (first|refine retS ?_|refine retB ?_)
 exact Fin.ret (vs:=[hS false 0 ((0+1)+1) 1 (((([]:List Int)++s.regs)++s.mem).length)]) (.cons (.tmp rfl) .nil) (Fz.own (g:=false) (ver:=(0+1)+1) (l:=((([]:List Int)++s.regs)++s.mem)) rfl rfl rfl nofun (fun _=>rfl))
theorem F_spec_RunSchedule_P (p:List (List ZIn)) (schedule:List Int) {q:(List Int)×Bool} (h:F_spec_RunSchedule p schedule=some q):PCall Try.prog 67 [eL (cL ZIn.c) p,eL cI schedule] (.tup [eL cI q.1,Bo q.2]):=by
 refine pM Try.func67 rfl (by kernel_rfl) rfl (T.sr (oN as' (oN as' (TO.nil (T.seq (T.sr (oN mv (oC h (fun _=>F_spec_ProgramValid_P _) rfl rfl rfl rfl fun v1 _ h=>oN (EvN.not rfl) (TO.nil ?_)))))))))
 refine T.ifH rfl h (fun q2 h => ?_) (fun q2 h => ?_)
 ·refine T.sr (oN (EvN.mkF (c:=cI) ([]:List Int) [] sl23 rfl rfl rfl (fun _=>rfl) (fun _=>rfl) rfl) (oN as' (oN as' (TO.nil (T.ret ?_)))))
  obtain rfl:=osj h
  repeat (first|refine retS ?_|refine retB ?_)
  exact Fin.ret (vs:=[eL cI ([]:List Int),Bo false]) (.cons (.tmp rfl) (.cons (.tmp rfl) .nil)) (.tupL (.cons (.of_isF 9 _ rfl) (.cons (.of_isF 9 _ rfl) .nil)))
 ·refine T.skip (T.sr (oN mv (oC h (fun _=>F_spec_l3Start_P _ _) rfl rfl rfl rfl fun v3 _ h=>oA (EvA.al zs129 rfl rfl) (oV (sr (ZSt.c v3) ty129 rfl rfl rfl rfl) (TO.nil ?_)))))
  obtain ⟨Ks4,es4,ws4,h,ks4⟩:=sumL h
  refine T.join (S:=(List Int)×(List Int)×(List Int)×(List (List Int))) (G:=Unit) (fun s4=>Ks4 s4=some q) (fun s4 gh=>True) (fun s4 gh=>[(6,.hp 0 0 4 0 0),(0,eL (cL ZIn.c) p)]) (fun s4 gh=>[some ⟨0,4,129,[[eL cI s4.1,eL cI s4.2.1,eL cI s4.2.2.1,eL (cL cI) s4.2.2.2]]⟩]) (fun s4 gh h hg => ?_) ?_
  ·clear ks4
   subst es4
   refine T.seq (T.sr (oN mv (oA (lh (.agg [eL cI s4.1,eL cI s4.2.1,eL cI s4.2.2.1,eL (cL cI) s4.2.2.2]) ty129 rfl rfl rfl) (oC h (fun _=>F_spec_l3Done_P _ _) rfl rfl rfl rfl fun v21 _ h=>oN (EvN.not rfl) (TO.nil ?_)))))
   refine T.ifH rfl h (fun q22 h => ?_) (fun q22 h => ?_)
   ·refine T.sr (oN (EvN.mkF (c:=cI) ([]:List Int) [] sl23 rfl rfl rfl (fun _=>rfl) (fun _=>rfl) rfl) (oN as' (oN as' (TO.nil (T.ret ?_)))))
    obtain rfl:=osj h
    repeat (first|refine retS ?_|refine retB ?_)
    exact Fin.ret (vs:=[eL cI ([]:List Int),Bo false]) (.cons (.tmp rfl) (.cons (.tmp rfl) .nil)) (.tupL (.cons (.of_isF 9 _ rfl) (.cons (.of_isF 9 _ rfl) .nil)))
   ·refine T.skip (T.sr (oA (lh (.agg [eL cI s4.1,eL cI s4.2.1,eL cI s4.2.2.1,eL (cL cI) s4.2.2.2]) ty129 rfl rfl rfl) (oC h (fun _=>F_spec_l3Outcome_P _) rfl rfl rfl rfl fun v23 _ h=>oN as' (oN as' (TO.nil (T.ret ?_))))))
    obtain rfl:=osj h
    repeat (first|refine retS ?_|refine retB ?_)
    exact Fin.ret (vs:=[eL cI v23,Bo true]) (.cons (.tmp rfl) (.cons (.tmp rfl) .nil)) (.tupL (.cons (.of_isF 9 _ rfl) (.cons (.of_isF 9 _ rfl) .nil)))
  ·refine T.sr (oN as' (TO.nil (T.block ?_)))
   refine T.lU h (fun s7=>[(7,I s7.2.2.2.2),(6,.hp 0 0 4 0 0),(0,eL (cL ZIn.c) p),(1,eL cI schedule)]) (fun s7=>[some ⟨0,4,129,[[eL cI s7.1,eL cI s7.2.1,eL cI s7.2.2.1,eL (cL cI) s7.2.2.2.1]]⟩]) (kw rfl rfl) (fun s7 ws7 h => ?_)
   refine T.seq (T.sr (oN mv (oN mv (oN (EvN.lenL sl23 rfl) (oN (EvN.ilt rfl rfl) (TO.nil ?_))))))
   refine T.ifH rfl h (fun q9 h => ?_) (fun q9 h => ?_)
   ·refine T.skip ?_
    obtain ⟨Ks10,es10,ws10,h,ks10⟩:=sumL h
    refine T.join (S:=(List Int)×(List Int)×(List Int)×(List (List Int))) (G:=Unit) (fun s10=>Ks10 s10=some ws7) (fun s10 gh=>True) (fun s10 gh=>[(7,I s7.2.2.2.2),(6,.hp 0 0 4 0 0),(0,eL (cL ZIn.c) p),(1,eL cI schedule)]) (fun s10 gh=>[some ⟨0,4,129,[[eL cI s10.1,eL cI s10.2.1,eL cI s10.2.2.1,eL (cL cI) s10.2.2.2]]⟩]) (fun s10 gh h hg => ?_) ?_
    ·clear ks10
     subst es10
     refine T.region (oN mv (jW h fun g20 h=>oN (EvN.add rfl rfl g20) (oN as' (TO.nil ?_))))
     exact lE h (kw rfl rfl)
    ·refine T.block (T.sr (oN mv (oN mv (jD h fun g11 h=>oN (EvN.ixL sl23 rfl rfl g11 (fun _=>rfl)) (oN (lf (I (schedule.getD s7.2.2.2.2.toNat default)) ty3 rfl) (oN as' (TO.nil ?_)))))))
     obtain ⟨Ks12,es12,ws12,h,ks12⟩:=sumL h
     refine T.join (S:=Unit) (G:=Unit) (fun s12=>Ks12 s12=some ws10) (fun s12 gh=>True) (fun s12 gh=>[(8,I (schedule.getD s7.2.2.2.2.toNat default)),(7,I s7.2.2.2.2),(6,.hp 0 0 4 0 0),(0,eL (cL ZIn.c) p),(1,eL cI schedule)]) (fun s12 gh=>[some ⟨0,4,129,[[eL cI s7.1,eL cI s7.2.1,eL cI s7.2.2.1,eL (cL cI) s7.2.2.2.1]]⟩]) (fun s12 gh h hg => ?_) ?_
     ·clear ks12
      subst es12
      refine T.region (oN mv (oA (lh (.agg [eL cI s7.1,eL cI s7.2.1,eL cI s7.2.2.1,eL (cL cI) s7.2.2.2.1]) ty129 rfl rfl rfl) (oN mv (oC h (fun _=>F_spec_l3Do_P _ _ _) rfl rfl rfl rfl fun v19 _ h=>oV (sr (ZSt.c v19) ty129 rfl rfl rfl rfl) (TO.nil ?_)))))
      obtain rfl:=osj h
      exact ⟨(v19.at_,v19.regs,v19.mem,v19.buf),(),ks10,trivial,kw rfl rfl⟩
     ·refine T.jU h (fun s13=>[(45,Bo s13),(8,I (schedule.getD s7.2.2.2.2.toNat default)),(7,I s7.2.2.2.2),(6,.hp 0 0 4 0 0),(0,eL (cL ZIn.c) p),(1,eL cI schedule)]) (fun s13=>[some ⟨0,4,129,[[eL cI s7.1,eL cI s7.2.1,eL cI s7.2.2.1,eL (cL cI) s7.2.2.2.1]]⟩]) (fun s13 h => ?_) (fun s13 h => ?_)
      ·refine T.ifH rfl h (fun q18 h => ?_) (fun q18 h => ?_)
       ·refine T.sr (oN (EvN.mkF (c:=cI) ([]:List Int) [] sl23 rfl rfl rfl (fun _=>rfl) (fun _=>rfl) rfl) (oN as' (oN as' (TO.nil (T.ret ?_)))))
        obtain rfl:=osj h
        replace h:=congrArg some (show _=_ from ks12)
        obtain rfl:=osj h
        replace h:=congrArg some (show _=_ from ks10)
        refine lX h fun h => ?_
        obtain rfl:=osj h
        replace h:=congrArg some (show _=_ from ks4)
        obtain rfl:=osj h
        repeat (first|refine retS ?_|refine retB ?_)
        exact Fin.ret (vs:=[eL cI ([]:List Int),Bo false]) (.cons (.tmp rfl) (.cons (.tmp rfl) .nil)) (.tupL (.cons (.of_isF 9 _ rfl) (.cons (.of_isF 9 _ rfl) .nil)))
       ·refine T.skip ?_
        obtain rfl:=osj h
        exact ⟨(),(),ks12,trivial,kw rfl rfl⟩
      ·refine T.drawG (fun i=>[([],false),([],false),([],false),([],false),([],false),([],false),([],false),([],false),([],false),([],false),([0],false),([],false),([],false),([],false),([],false),([],false),([],false),([],false),([],false),([],false),([],false)].getD i ([],false)) (by kernel_rfl) (by kernel_rfl) (tN rfl mv (tN rfl (EvN.ilt rfl rfl) (tN rfl mv ?_)))
       rcases bifL h with ⟨q14,h⟩ | ⟨q14,h⟩
       ·refine tgS rfl q14 (tgS rfl q14 (tgS rfl q14 (tgS rfl q14 (tN rfl (EvN.pickT rfl q14 (Bo true) rfl) (tN rfl mv (tgS rfl rfl (tgS rfl rfl (tgS rfl rfl (tgS rfl rfl (tgS rfl rfl (tgS rfl rfl (tgS rfl rfl (tgS rfl rfl (tgS rfl rfl (tgS rfl rfl ?_)))))))))))))))
        refine tgS rfl rfl (tN rfl (EvN.pickT rfl rfl (Bo true) rfl) (TG.nil ?_))
        obtain rfl:=osj h
        exact ⟨(),trivial,kw rfl rfl⟩
       ·refine tgN rfl q14 rfl mv (tgN rfl q14 rfl mv (tgN rfl q14 rfl (EvN.lenL sl27 rfl) (tgN rfl q14 rfl (EvN.ige rfl rfl) (tN rfl (EvN.pickF rfl q14 (Bo (decide ((p.length:Int)<=(schedule.getD s7.2.2.2.2.toNat default)))) rfl) (tN rfl mv ?_)))))
        rcases bifL h with ⟨q15,h⟩ | ⟨q15,h⟩
        ·refine tgS rfl q15 (tgS rfl q15 (tgS rfl q15 (tgS rfl q15 (tgS rfl q15 (tgS rfl q15 (tgS rfl q15 (tgS rfl q15 (tgS rfl q15 (tgS rfl q15 (tgS rfl q15 (tN rfl (EvN.pickT rfl q15 (Bo true) rfl) (TG.nil ?_))))))))))))
         obtain rfl:=osj h
         exact ⟨(),trivial,kw rfl rfl⟩
        ·refine tgN rfl q15 rfl (fa fs129 rfl) (tgR rfl q15 [0] rfl (fun G hG=>EvA.loadhp (eL cI s7.1) ty23 rfl (hG.a0 rfl) rfl rfl rfl rfl) (tgN rfl q15 rfl mv (jD h fun g16 h=>tgN rfl q15 rfl (EvN.ixL sl23 rfl rfl g16 (fun _=>rfl)) (tgN rfl q15 rfl (lf (I (s7.1.getD (schedule.getD s7.2.2.2.2.toNat default).toNat default)) ty3 rfl) (tgN rfl q15 rfl mv (tgN rfl q15 rfl mv (jD h fun g17 h=>tgN rfl q15 rfl (EvN.ixL sl27 rfl rfl g17 (fun _=>rfl)) (tgN rfl q15 rfl (lf (eL ZIn.c (p.getD (schedule.getD s7.2.2.2.2.toNat default).toNat default)) ty57 rfl) (tgN rfl q15 rfl (EvN.lenL sl57 rfl) (tgN rfl q15 rfl (EvN.ieq rfl rfl) (tN rfl (EvN.pickF rfl q15 (Bo ((s7.1.getD (schedule.getD s7.2.2.2.2.toNat default).toNat default)==((p.getD (schedule.getD s7.2.2.2.2.toNat default).toNat default).length:Int))) rfl) (TG.nil ?_))))))))))))
         obtain rfl:=osj h
         exact ⟨(),trivial,kw rfl rfl⟩
   ·refine T.exit (lX h fun h => ?_)
    obtain rfl:=osj h
    exact ⟨(s7.1,s7.2.1,s7.2.2.1,s7.2.2.2.1),(),ks4,trivial,kw rfl rfl⟩
theorem F_spec_l6Events_P (p:List (List ZIn)) {q:(List ZEv)} (h:F_spec_l6Events p=some q):PCall Try.prog 102 [eL (cL ZIn.c) p] (eL ZEv.c q):=by
 refine pM Try.func102 rfl (by kernel_rfl) rfl (T.sr (oN as' (TO.nil (T.sr (oA (EvA.mkO (c:=ZEv.c) ([]:List ZEv) [] sl98 rfl rfl rfl (fun _=>rfl) rfl rfl) (oN (EvN.asg (hS false 0 0 5 (([]:List ZEv).length)) rfl) (TO.nil ?_)))))))
 refine T.jF (G:=Nat) h (fun s1 gh=>True) (fun s1 gh=>[(3,hS false 0 gh 5 s1.length),(0,eL (cL ZIn.c) p)]) (fun s1 gh=>[bE false gh 5 101 (s1.map ZEv.c)]) (fun s1 u11 h hg => ?_) (fun s1 h => ?_)
 ·refine T.jF (G:=Nat) h (fun s12 gh=>True) (fun s12 gh=>[(3,hS false 0 gh 5 s12.length)]) (fun s12 gh=>[bE false gh 5 101 (s12.map ZEv.c)]) (fun s12 u39 h hg => ?_) (fun s12 h => ?_)
  ·refine T.sr (oN mv (oN (EvN.asg (hS false 0 u39 5 s12.length) rfl) (TO.nil (T.ret ?_))))
   obtain rfl:=osj h
   repeat (first|refine retS ?_|refine retB ?_)
   exact Fin.ret (vs:=[hS false 0 u39 5 s12.length]) (.cons (.tmp rfl) .nil) (Fz.own (g:=false) (ver:=u39) (l:=s12) rfl rfl rfl nofun ZEv.isF)
  ·refine T.sr (oN as' (TO.nil (T.block ?_)))
   refine T.loop (S:=(List ZEv)×Int) (G:=Nat) (F_spec_l6Events_L17 p) (fun s16 gh=>True) (fun s16 gh=>[(5,I s16.2),(3,hS false 0 gh 5 s16.1.length),(0,eL (cL ZIn.c) p)]) (fun s16 gh=>[bE false gh 5 101 (s16.1.map ZEv.c)]) (s0:=(s1,(0:Int))) u11 h trivial (kw rfl rfl) (fun s16 u18 ws16 h hg => ?_)
   refine T.seq (T.sr (oN mv (oN mv (oN (EvN.lenL sl27 rfl) (oN (EvN.ilt rfl rfl) (TO.nil ?_))))))
   refine T.ifH rfl h (fun q19 h => ?_) (fun q19 h => ?_)
   ·refine T.skip ?_
    refine T.jF (G:=Nat) h (fun s20 gh=>True) (fun s20 gh=>[(5,I s16.2),(3,hS false 0 gh 5 s20.length),(0,eL (cL ZIn.c) p)]) (fun s20 gh=>[bE false gh 5 101 (s20.map ZEv.c)]) (fun s20 u37 h hg => ?_) (fun s20 h => ?_)
    ·refine T.region (oN mv (jW h fun g38 h=>oN (EvN.add rfl rfl g38) (oN as' (TO.nil ?_))))
     obtain rfl:=osj h
     exact ⟨(s20,(s16.2+(1:Int))),u37,rfl,trivial,kw rfl rfl⟩
    ·refine T.block (T.sr (oN as' (TO.nil (T.block ?_))))
     refine T.loop (S:=(List ZEv)×Int) (G:=Nat) (F_spec_l6Events_L25 p s16) (fun s24 gh=>True) (fun s24 gh=>[(6,I s24.2),(5,I s16.2),(3,hS false 0 gh 5 s24.1.length),(0,eL (cL ZIn.c) p)]) (fun s24 gh=>[bE false gh 5 101 (s24.1.map ZEv.c)]) (s0:=(s16.1,(0:Int))) u18 h trivial (kw rfl rfl) (fun s24 u26 ws24 h hg => ?_)
     refine T.seq (T.sr (oN mv (oN mv (oN mv (jD h fun g27 h=>oN (EvN.ixL sl27 rfl rfl g27 (fun _=>rfl)) (oN (lf (eL ZIn.c (p.getD s16.2.toNat default)) ty57 rfl) (oN (EvN.lenL sl57 rfl) (oN (EvN.ilt rfl rfl) (TO.nil ?_)))))))))
     refine T.ifH rfl h (fun q28 h => ?_) (fun q28 h => ?_)
     ·refine T.skip ?_
      refine T.jF (G:=Nat) h (fun s29 gh=>True) (fun s29 gh=>[(3,hS false 0 gh 5 s29.length),(6,I s24.2),(5,I s16.2),(0,eL (cL ZIn.c) p)]) (fun s29 gh=>[bE false gh 5 101 (s29.map ZEv.c)]) (fun s29 u35 h hg => ?_) (fun s29 h => ?_)
      ·refine T.region (oN mv (jW h fun g36 h=>oN (EvN.add rfl rfl g36) (oN as' (TO.nil ?_))))
       obtain rfl:=osj h
       exact ⟨(s29,(s24.2+(1:Int))),u35,rfl,trivial,kw rfl rfl⟩
      ·refine T.block (T.sr (oN mv (oN mv (oN (EvN.ixL sl27 rfl rfl g27 (fun _=>rfl)) (oN (lf (eL ZIn.c (p.getD s16.2.toNat default)) ty57 rfl) (oN mv (jD h fun g30 h=>oN (EvN.ixL sl57 rfl rfl g30 (fun _=>rfl)) (oN (lf (.agg (ZIn.c ((p.getD s16.2.toNat default).getD s24.2.toNat default))) ty56 rfl) (oA (EvA.al zs56 rfl rfl) (oV (sr (ZIn.c ((p.getD s16.2.toNat default).getD s24.2.toNat default)) ty56 rfl rfl rfl rfl) (TO.nil (T.sr (oN (fa fs56 rfl) (oA (lh (I (((p.getD s16.2.toNat default).getD s24.2.toNat default).Op)) ty3 rfl rfl rfl) ?_))))))))))))))
       refine oN (EvN.ine rfl rfl) (TO.nil ?_)
       refine T.ifH rfl h (fun q31 h => ?_) (fun q31 h => ?_)
       ·refine T.clean (H0:=[bE false u26 5 101 (s24.1.map ZEv.c),some ⟨0,4,56,[(ZIn.c ((p.getD s16.2.toNat default).getD s24.2.toNat default))]⟩]) (e0:=envOf [(7,.hp 1 0 4 0 0),(6,I s24.2),(5,I s16.2),(3,hS false 0 u26 5 s24.1.length),(0,eL (cL ZIn.c) p)]) rfl (wkC rfl (wkC rfl (wkC rfl (wkC rfl (wkC rfl wkN))))) (T.drawF (fun i=>[([],false),([],false),([],false),([],false),([1],false),([1],false),([],false),([1],false),([],false),([],false),([],false),([0],true),([],false)].getD i ([],false)) (by kernel_rfl) (by kernel_rfl) (fN rfl mv (fN rfl mv (fN rfl mv (fN rfl (fa fs56 rfl) (fR [1] rfl (fun G hG=>EvA.loadhp (I (((p.getD s16.2.toNat default).getD s24.2.toNat default).Loc)) ty3 rfl (hG.a0 rfl) rfl rfl rfl rfl) (fR [1] rfl (fun G hG=>EvA.loadhp (.agg (ZIn.c ((p.getD s16.2.toNat default).getD s24.2.toNat default))) ty56 rfl (hG.a0 rfl) rfl rfl rfl rfl) (fC h (fun _=>F_spec_l1Reads_P _) rfl rfl rfl rfl rfl fun v32 _ h=>fR [1] rfl (fun G hG=>EvA.loadhp (.agg (ZIn.c ((p.getD s16.2.toNat default).getD s24.2.toNat default))) ty56 rfl (hG.a0 rfl) rfl rfl rfl rfl) (fC h (fun _=>F_spec_l1Writes_P _) rfl rfl rfl rfl rfl fun v33 _ h=>fN rfl (EvN.build [I s16.2,I s24.2,I (((p.getD s16.2.toNat default).getD s24.2.toNat default).Loc),Bo v32,Bo v33] Try.underlying101 zs101 fs101 rfl rfl) (fN rfl (EvN.mkF (c:=ZEv.c) ([(⟨s16.2,s24.2,((p.getD s16.2.toNat default).getD s24.2.toNat default).Loc,v32,v33⟩:ZEv)]:List ZEv) [[I s16.2,I s24.2,I (((p.getD s16.2.toNat default).getD s24.2.toNat default).Loc),Bo v32,Bo v33]] sl98 rfl rfl rfl (fun _=>rfl) ZEv.isF rfl) (jL h fun g34 h=>fW 0 [] rfl rfl (fun G hG=>EvA.app1 (g:=false) (l:=s24.1) (⟨s16.2,s24.2,((p.getD s16.2.toNat default).getD s24.2.toNat default).Loc,v32,v33⟩:ZEv) sl98 (by kernel_rfl) rfl rfl (hG.a0 rfl) nofun (SrcOk.fz (l:=([(⟨s16.2,s24.2,((p.getD s16.2.toNat default).getD s24.2.toNat default).Loc,v32,v33⟩:ZEv)]:List ZEv)) rfl (fun _=>rfl)) g34) (fN rfl (EvN.asg (hS false 0 (u26+1) 5 ((s24.1++[(⟨s16.2,s24.2,((p.getD s16.2.toNat default).getD s24.2.toNat default).Loc,v32,v33⟩:ZEv)]).length)) rfl) ?_))))))))))))
        refine TF.nil ?_
        obtain rfl:=osj h
        exact ⟨u26+1,trivial,cutS rfl (.cons (.list (g:=false) (ver:=u26+1) (l:=(s24.1++[(⟨s16.2,s24.2,((p.getD s16.2.toNat default).getD s24.2.toNat default).Loc,v32,v33⟩:ZEv)])) ZEv.isF) .nil) (stl_cons (.hS (g:=false) (b:=0) (ver:=u26+1) (s:=5) (n:=(s24.1++[(⟨s16.2,s24.2,((p.getD s16.2.toNat default).getD s24.2.toNat default).Loc,v32,v33⟩:ZEv)]).length) rfl) (stl_cons (.fz (.of_isF 9 _ rfl)) (stl_cons (.fz (.of_isF 9 _ rfl)) (stl_cons (.fz (.of_isF 9 _ rfl)) stl_nil))))⟩
       ·refine T.skip ?_
        obtain rfl:=osj h
        exact ⟨u26,trivial,cutS rfl (.cons (.list (g:=false) (ver:=u26) (l:=s24.1) ZEv.isF) .nil) (stl_cons (.hS (g:=false) (b:=0) (ver:=u26) (s:=5) (n:=s24.1.length) rfl) (stl_cons (.fz (.of_isF 9 _ rfl)) (stl_cons (.fz (.of_isF 9 _ rfl)) (stl_cons (.fz (.of_isF 9 _ rfl)) stl_nil))))⟩
     ·refine T.exit (lX h fun h => ?_)
      obtain rfl:=osj h
      exact ⟨u26,trivial,kw rfl rfl⟩
   ·refine T.exit (lX h fun h => ?_)
    obtain rfl:=osj h
    exact ⟨u18,trivial,kw rfl rfl⟩
 ·refine T.sr (oN as' (TO.nil (T.block ?_)))
  refine T.loop (S:=(List ZEv)×Int) (G:=Nat) F_spec_l6Events_L6 (fun s5 gh=>True) (fun s5 gh=>[(4,I s5.2),(3,hS false 0 gh 5 s5.1.length),(0,eL (cL ZIn.c) p)]) (fun s5 gh=>[bE false gh 5 101 (s5.1.map ZEv.c)]) (s0:=(([]:List ZEv),(0:Int))) 0 h trivial (kw rfl rfl) (fun s5 u7 ws5 h hg => ?_)
  let d0:=(⟨(-1:Int),s5.2,s5.2,false,true⟩:ZEv)
  refine T.seq (T.sr (oN mv (oN (EvN.ile rfl rfl) (TO.nil ?_))))
  refine T.ifH rfl h (fun q8 h => ?_) (fun q8 h => ?_)
  ·refine T.skip (T.seq (T.block (T.region (oN mv (oN mv (oN mv (oN (EvN.build [I (-1:Int),I s5.2,I s5.2,Bo false,Bo true] Try.underlying101 zs101 fs101 rfl rfl) (oN (EvN.mkF (c:=ZEv.c) ([d0]:List ZEv) [[I (-1:Int),I s5.2,I s5.2,Bo false,Bo true]] sl98 rfl rfl rfl (fun _=>rfl) ZEv.isF rfl) (jL h fun g9 h=>oA (EvA.app1 (g:=false) (l:=s5.1) d0 sl98 (by kernel_rfl) rfl rfl rfl nofun (SrcOk.fz (l:=([d0]:List ZEv)) rfl (fun _=>rfl)) g9) (oN (EvN.asg (hS false 0 (u7+1) 5 ((s5.1++[d0]).length)) rfl) (TO.nil (T.region (oN mv (jW h fun g10 h => ?_))))))))))))))
   refine oN (EvN.add rfl rfl g10) (oN as' (TO.nil ?_))
   obtain rfl:=osj h
   exact ⟨((s5.1++[d0]),(s5.2+(1:Int))),u7+1,rfl,trivial,kw rfl rfl⟩
  ·refine T.exit (lX h fun h => ?_)
   obtain rfl:=osj h
   exact ⟨u7,trivial,kw rfl rfl⟩
theorem F_spec_l13Order_P (p:List (List ZIn)) (schedule:List Int) {q:(List Int)} (h:F_spec_l13Order p schedule=some q):PCall Try.prog 120 [eL (cL ZIn.c) p,eL cI schedule] (eL cI q):=by
 refine pM Try.func120 rfl (by kernel_rfl) rfl (T.sr (oN as' (TO.nil (T.sr (oN mv (oC h (fun _=>F_spec_l6Events_P _) rfl rfl rfl rfl fun v1 _ h=>oN as' (TO.nil (T.sr (oN mv (oN (EvN.lenL sl27 rfl) (jD h fun g2 h=>oA (EvA.mkN (c:=cI) (default:Int) sl23 rfl rfl g2 rfl rfl rfl) (oN (EvN.asg (hS false 0 0 1 ((List.replicate (p.length:Int).toNat (default:Int)).length)) rfl) (TO.nil ?_)))))))))))))
 refine T.sr (oA (EvA.mkO (c:=cI) ([]:List Int) [] sl23 rfl rfl rfl (fun _=>rfl) rfl rfl) (oN (EvN.asg (hS false 1 0 1 (([]:List Int).length)) rfl) (TO.nil ?_)))
 refine T.jF (G:=Nat×Nat) h (fun s3 gh=>True) (fun s3 gh=>[(7,hS false 1 gh.2 1 s3.2.length)]) (fun s3 gh=>[bE false gh.1 1 3 (s3.1.map cI),bE false gh.2 1 3 (s3.2.map cI)]) (fun s3 gh h hg => ?_) (fun s3 h => ?_)
 ·obtain ⟨u37,u38⟩:=gh
  refine T.sr (oN mv (oN (EvN.asg (hS false 1 u38 1 s3.2.length) rfl) (TO.nil (T.ret ?_))))
  obtain rfl:=osj h
  repeat (first|refine retS ?_|refine retB ?_)
  exact Fin.ret (vs:=[hS false 1 u38 1 s3.2.length]) (.cons (.tmp rfl) .nil) (Fz.own (g:=false) (ver:=u38) (l:=s3.2) rfl rfl rfl nofun (fun _=>rfl))
 ·refine T.sr (oN as' (TO.nil (T.block ?_)))
  refine T.loop (S:=(List Int)×(List Int)×Int) (G:=Nat×Nat) (F_spec_l13Order_L9 schedule v1) (fun s8 gh=>True) (fun s8 gh=>[(8,I s8.2.2),(7,hS false 1 gh.2 1 s8.2.1.length),(6,hS false 0 gh.1 1 s8.1.length),(5,eL ZEv.c v1),(1,eL cI schedule)]) (fun s8 gh=>[bE false gh.1 1 3 (s8.1.map cI),bE false gh.2 1 3 (s8.2.1.map cI)]) (s0:=((List.replicate (p.length:Int).toNat (default:Int)),([]:List Int),(0:Int))) (0,0) h trivial (kw rfl rfl) (fun s8 gh ws8 h hg => ?_)
  obtain ⟨u10,u11⟩:=gh
  refine T.seq (T.sr (oN mv (oN mv (oN (EvN.lenL sl23 rfl) (oN (EvN.ilt rfl rfl) (TO.nil ?_))))))
  refine T.ifH rfl h (fun q12 h => ?_) (fun q12 h => ?_)
  ·refine T.skip ?_
   refine T.jF (G:=Nat) h (fun s13 gh=>True) (fun s13 gh=>[(8,I s8.2.2),(7,hS false 1 gh 1 s13.length),(6,hS false 0 u10 1 ((s8.1.set ((schedule.getD s8.2.2.toNat default).toNat) ((s8.1.getD ((schedule.getD s8.2.2.toNat default).toNat) default)+(1:Int))).length)),(5,eL ZEv.c v1),(1,eL cI schedule)]) (fun s13 gh=>[bE false u10 1 3 ((s8.1.set ((schedule.getD s8.2.2.toNat default).toNat) ((s8.1.getD ((schedule.getD s8.2.2.toNat default).toNat) default)+(1:Int))).map cI),bE false gh 1 3 (s13.map cI)]) (fun s13 u35 h hg => ?_) (fun s13 h => ?_)
   ·refine T.region (oN mv (jW h fun g36 h=>oN (EvN.add rfl rfl g36) (oN as' (TO.nil ?_))))
    obtain rfl:=osj h
    exact ⟨((s8.1.set ((schedule.getD s8.2.2.toNat default).toNat) ((s8.1.getD ((schedule.getD s8.2.2.toNat default).toNat) default)+(1:Int))),s13,(s8.2.2+(1:Int))),(u10,u35),rfl,trivial,kw rfl rfl⟩
   ·refine T.block (T.sr (oN mv (oN mv (jD h fun g14 h=>oN (EvN.ixL sl23 rfl rfl g14 (fun _=>rfl)) (oN (lf (I (schedule.getD s8.2.2.toNat default)) ty3 rfl) (oN as' (TO.nil ?_)))))))
    refine T.jF (G:=Nat) h (fun s15 gh=>True) (fun s15 gh=>[(9,I (schedule.getD s8.2.2.toNat default)),(8,I s8.2.2),(7,hS false 1 gh 1 s15.length),(6,hS false 0 u10 1 s8.1.length),(5,eL ZEv.c v1),(1,eL cI schedule)]) (fun s15 gh=>[bE false u10 1 3 (s8.1.map cI),bE false gh 1 3 (s15.map cI)]) (fun s15 u32 h hg => ?_) (fun s15 h => ?_)
    ·refine T.region (oN mv (oN mv (oN mv (oN mv (jD h fun g33 h=>oN (EvN.ixO (g:=false) sl23 rfl rfl nofun g33) (oA (EvA.ldO (g:=false) (l:=s8.1) (I (s8.1.getD ((schedule.getD s8.2.2.toNat default).toNat) default)) ty3 rfl rfl nofun (toNat_lt' rfl g33) rfl) (jW h fun g34 h=>oN (EvN.add rfl rfl g34) (oN (EvN.ixO (g:=false) sl23 rfl rfl nofun g33) (oV (EvA.stO (g:=false) (l:=s8.1) (cs:=[I ((s8.1.getD ((schedule.getD s8.2.2.toNat default).toNat) default)+(1:Int))]) ((s8.1.getD ((schedule.getD s8.2.2.toNat default).toNat) default)+(1:Int)) ty3 rfl rfl rfl nofun (toNat_lt' rfl g33) rfl rfl rfl) (TO.nil ?_))))))))))
     obtain rfl:=osj h
     exact ⟨u32,trivial,cutW rfl (wkC rfl (wkC rfl (wkC (congrArg (hS false 0 u10 1) (by simp:s8.1.length=(s8.1.set ((schedule.getD s8.2.2.toNat default).toNat) ((s8.1.getD ((schedule.getD s8.2.2.toNat default).toNat) default)+(1:Int))).length)) (wkC rfl (wkC rfl wkN)))))⟩
    ·refine T.sr (oN as' (TO.nil (T.block ?_)))
     refine T.loop (S:=(List Int)×Int) (G:=Nat) (F_spec_l13Order_L20 schedule v1 s8) (fun s19 gh=>True) (fun s19 gh=>[(10,I s19.2),(9,I (schedule.getD s8.2.2.toNat default)),(8,I s8.2.2),(7,hS false 1 gh 1 s19.1.length),(6,hS false 0 u10 1 s8.1.length),(5,eL ZEv.c v1),(1,eL cI schedule)]) (fun s19 gh=>[bE false u10 1 3 (s8.1.map cI),bE false gh 1 3 (s19.1.map cI)]) (s0:=(s8.2.1,(0:Int))) u11 h trivial (kw rfl rfl) (fun s19 u21 ws19 h hg => ?_)
     refine T.seq (T.sr (oN mv (oN mv (oN (EvN.lenL sl98 rfl) (oN (EvN.ilt rfl rfl) (TO.nil ?_))))))
     refine T.ifH rfl h (fun q22 h => ?_) (fun q22 h => ?_)
     ·refine T.skip ?_
      refine T.jF (G:=Nat) h (fun s23 gh=>True) (fun s23 gh=>[(7,hS false 1 gh 1 s23.length),(10,I s19.2),(9,I (schedule.getD s8.2.2.toNat default)),(8,I s8.2.2),(6,hS false 0 u10 1 s8.1.length),(5,eL ZEv.c v1),(1,eL cI schedule)]) (fun s23 gh=>[bE false u10 1 3 (s8.1.map cI),bE false gh 1 3 (s23.map cI)]) (fun s23 u30 h hg => ?_) (fun s23 h => ?_)
      ·refine T.region (oN mv (jW h fun g31 h=>oN (EvN.add rfl rfl g31) (oN as' (TO.nil ?_))))
       obtain rfl:=osj h
       exact ⟨(s23,(s19.2+(1:Int))),u30,rfl,trivial,kw rfl rfl⟩
      ·refine T.block ?_
       refine T.jU h (fun s24=>[(51,Bo s24),(10,I s19.2),(9,I (schedule.getD s8.2.2.toNat default)),(8,I s8.2.2),(7,hS false 1 u21 1 s19.1.length),(6,hS false 0 u10 1 s8.1.length),(5,eL ZEv.c v1),(1,eL cI schedule)]) (fun s24=>[bE false u10 1 3 (s8.1.map cI),bE false u21 1 3 (s19.1.map cI)]) (fun s24 h => ?_) (fun s24 h => ?_)
       ·refine T.ifH rfl h (fun q28 h => ?_) (fun q28 h => ?_)
        ·refine T.region (oN mv (oN mv (oN (EvN.mkF (c:=cI) ([s19.2]:List Int) [[I s19.2]] sl23 rfl rfl rfl (fun _=>rfl) (fun _=>rfl) rfl) (jL h fun g29 h=>oA (EvA.app1 (g:=false) (l:=s19.1) s19.2 sl23 (by kernel_rfl) rfl rfl rfl nofun (SrcOk.fz (l:=([s19.2]:List Int)) rfl (fun _=>rfl)) g29) (oN (EvN.asg (hS false 1 (u21+1) 1 ((s19.1++[s19.2]).length)) rfl) (TO.nil ?_))))))
         obtain rfl:=osj h
         exact ⟨u21+1,trivial,kw rfl rfl⟩
        ·refine T.skip ?_
         obtain rfl:=osj h
         exact ⟨u21,trivial,kw rfl rfl⟩
       ·refine T.drawG (fun i=>[([],false),([],false),([],false),([],false),([],false),([],false),([],false),([],false),([],false),([],false),([],false),([],false),([],false),([],false),([],false),([],false),([0],false),([],false),([],false)].getD i ([],false)) (by kernel_rfl) (by kernel_rfl) (tN rfl mv (tN rfl mv (jD h fun g25 h=>tN rfl (EvN.ixL sl98 rfl rfl g25 (fun _=>rfl)) (tN rfl (fa fs101 rfl) (tN rfl (lf (I ((v1.getD s19.2.toNat default).Thread)) ty3 rfl) (tN rfl mv (tN rfl (EvN.ieq rfl rfl) (tN rfl mv ?_))))))))
        rcases bifL h with ⟨q26,h⟩ | ⟨q26,h⟩
        ·refine tgN rfl q26 rfl mv (tgN rfl q26 rfl mv (tgN rfl q26 rfl (EvN.ixL sl98 rfl rfl g25 (fun _=>rfl)) (tgN rfl q26 rfl (fa fs101 rfl) (tgN rfl q26 rfl (lf (I ((v1.getD s19.2.toNat default).Index)) ty3 rfl) (tgN rfl q26 rfl mv (tgN rfl q26 rfl mv (jD h fun g27 h=>tgN rfl q26 rfl (EvN.ixO (g:=false) sl23 rfl rfl nofun g27) (tgR rfl q26 [0] rfl (fun G hG=>EvA.ldO (g:=false) (l:=s8.1) (I (s8.1.getD ((schedule.getD s8.2.2.toNat default).toNat) default)) ty3 rfl (hG.a0 rfl) nofun (toNat_lt' rfl g27) rfl) (tgN rfl q26 rfl (EvN.ieq rfl rfl) (tN rfl (EvN.pickT rfl q26 (Bo (((v1.getD s19.2.toNat default).Index)==(s8.1.getD ((schedule.getD s8.2.2.toNat default).toNat) default))) rfl) (TG.nil ?_)))))))))))
         obtain rfl:=osj h
         exact ⟨(),trivial,kw rfl rfl⟩
        ·refine tgS rfl q26 (tgS rfl q26 (tgS rfl q26 (tgS rfl q26 (tgS rfl q26 (tgS rfl q26 (tgS rfl q26 (tgS rfl q26 (tgS rfl q26 (tgS rfl q26 (tN rfl (EvN.pickF rfl q26 (Bo false) rfl) (TG.nil ?_)))))))))))
         obtain rfl:=osj h
         exact ⟨(),trivial,kw rfl rfl⟩
     ·refine T.exit (lX h fun h => ?_)
      obtain rfl:=osj h
      exact ⟨u21,trivial,kw rfl rfl⟩
  ·refine T.exit (lX h fun h => ?_)
   obtain rfl:=osj h
   exact ⟨(u10,u11),trivial,kw rfl rfl⟩
theorem F_spec_l13Exec_P (p:List (List ZIn)) (schedule:List Int) {q:ZEx} (h:F_spec_l13Exec p schedule=some q):PCall Try.prog 68 [eL (cL ZIn.c) p,eL cI schedule] (.agg (ZEx.c q)):=by
 refine pM Try.func68 rfl (by kernel_rfl) rfl (T.sr (oA (EvA.al zs43 rfl rfl) (TO.nil (T.sr (oN mv (oC h (fun _=>F_spec_l6Events_P _) rfl rfl rfl rfl fun v1 _ h=>oN as' (TO.nil (T.seq (T.reserve (T.reserve (T.region (oN (EvN.build [hS true 1 0 1 (([]:List Int).length),hS true 2 0 1 (([]:List (List Int)).length)] Try.underlying43 zs43 fs43 rfl rfl) (oA (EvA.al zs43 rfl rfl) (TO.reid (e0:=envOf [(6,.hp 3 0 2 0 0),(15,.agg [hS true 1 0 1 (([]:List Int).length),hS true 2 0 1 (([]:List (List Int)).length)]),(5,eL ZEv.c v1),(4,.hp 0 0 2 0 0),(0,eL (cL ZIn.c) p),(1,eL cI schedule)]) (Reid.rot (m:=3) (S:=[some ⟨0,2,43,[[.nil,.nil]]⟩,bE true 0 1 3 (([]:List Int).map cI),bE true 0 1 23 (nrs 3 (fun _=>(true,0,0)) 1 ([]:List (List Int)))]) (S':=[some ⟨0,2,43,[[.nil,.nil]]⟩,bE true 0 1 3 (([]:List Int).map cI),bE true 0 1 23 (nrs 4 (fun _=>(true,0,0)) 1 ([]:List (List Int)))]) (K:=([]:AH)) (x:=some ⟨0,2,43,[[.nil,.nil]]⟩) (x':=some ⟨0,2,43,[[.nil,.nil]]⟩) rfl rfl rfl (.some (.rowL (.cons .nil (.cons .nil .nil))) (.bE (fun _=>rfl) (.nest ((NN.nil (gh:=(fun _=>(true,0,0))) (w:=1) (ty:=3) (f:=cI)).renK rfl) .nil))) (NN.nil (gh:=(fun _=>(true,0,0))) (w:=1) (ty:=3) (f:=cI)).kf (.some (.rowL (.cons .nil (.cons .nil .nil))) .nil)) (renE_cons (a0:=.hp (([]:AH).length+3) 0 2 0 0) rfl (.hp Rot.new) (renE_cons (a0:=.agg [hS true 1 0 1 (([]:List Int).length),hS true 2 0 1 (([]:List (List Int)).length)]) rfl (Ren.aggL (.cons (ren_hSg (Rot.low rfl)) (.cons (ren_hSg (Rot.low rfl)) .nil))) (renE_F rfl rfl (renE_cons (a0:=.hp 0 0 2 0 0) rfl (.hp (Rot.low rfl)) (renE_F rfl rfl (renE_F rfl rfl renE_nil)))))) ?_))))))))))))))
 refine oV (sr [hS true 1 0 1 (([]:List Int).length),hS true 2 0 1 (([]:List (List Int)).length)] ty43 rfl rfl rfl rfl) (TO.nil ?_)
 refine T.jF (G:=(Bool×Nat)×(Bool×NG×AH×Nat)) h (fun s2 gh=>(gh.1.1=true->s2.1=[])/\NN gh.2.2.2.1 gh.2.2.1 1 3 cI s2.2/\(gh.2.1=true->s2.2=[])) (fun s2 gh=>[(6,.hp 3 0 2 0 0),(5,eL ZEv.c v1),(4,.hp 0 0 2 0 0),(0,eL (cL ZIn.c) p),(1,eL cI schedule)]) (fun s2 gh=>(some ⟨0,2,43,[[.nil,.nil]]⟩::bE gh.1.1 gh.1.2 1 3 (s2.1.map cI)::bE gh.2.1 gh.2.2.2.2 1 23 (nrs 4 gh.2.2.1 1 s2.2)::some ⟨0,2,43,[[hS gh.1.1 1 gh.1.2 1 s2.1.length,hS gh.2.1 2 gh.2.2.2.2 1 s2.2.length]]⟩::gh.2.2.2.1)) (fun s2 gh h hg => ?_) (fun s2 h => ?_)
 ·obtain ⟨⟨b35,u34⟩,⟨b41,y38,kk39,u37⟩⟩:=gh
  obtain ⟨n36,hN40,n42⟩:=hg
  refine T.jF (G:=(Bool×NG×AH×Nat)) h (fun s43 gh=>NN gh.2.2.1 gh.2.1 1 3 cI s43/\(gh.1=true->s43=[])) (fun s43 gh=>[(6,.hp 3 0 2 0 0),(5,eL ZEv.c v1),(4,.hp 0 0 2 0 0),(0,eL (cL ZIn.c) p),(1,eL cI schedule)]) (fun s43 gh=>(some ⟨0,2,43,[[.nil,.nil]]⟩::bE b35 u34 1 3 (s2.1.map cI)::bE gh.1 gh.2.2.2 1 23 (nrs 4 gh.2.1 1 s43)::some ⟨0,2,43,[[hS b35 1 u34 1 s2.1.length,hS gh.1 2 gh.2.2.2 1 s43.length]]⟩::gh.2.2.1)) (fun s43 gh h hg => ?_) (fun s43 h => ?_)
  ·obtain ⟨b73,y70,kk71,u69⟩:=gh
   obtain ⟨hN72,n74⟩:=hg
   refine T.sr (oN mv (oN mv (oC h (fun _=>F_spec_l13Order_P _ _) rfl rfl rfl rfl fun v75 _ h=>oN as' (TO.nil ?_))))
   refine T.jF (G:=(Bool×Nat)×(Bool×NG×AH×Nat)) h (fun s76 gh=>(gh.1.1=true->s76.1=[])/\NN gh.2.2.2.1 gh.2.2.1 1 3 cI s76.2/\(gh.2.1=true->s76.2=[])) (fun s76 gh=>[(6,.hp 3 0 2 0 0),(4,.hp 0 0 2 0 0)]) (fun s76 gh=>(some ⟨0,2,43,[[.nil,.nil]]⟩::bE gh.1.1 gh.1.2 1 3 (s76.1.map cI)::bE gh.2.1 gh.2.2.2.2 1 23 (nrs 4 gh.2.2.1 1 s76.2)::some ⟨0,2,43,[[hS gh.1.1 1 gh.1.2 1 s76.1.length,hS gh.2.1 2 gh.2.2.2.2 1 s76.2.length]]⟩::gh.2.2.2.1)) (fun s76 gh h hg => ?_) (fun s76 h => ?_)
   ·obtain ⟨⟨b141,u140⟩,⟨b147,y144,kk145,u143⟩⟩:=gh
    obtain ⟨n142,hN146,n148⟩:=hg
    refine T.sr (oA (lh (.agg [hS b141 1 u140 1 s76.1.length,hS b147 2 u143 1 s76.2.length]) ty43 rfl rfl rfl) (oV (EvA.st (cs:=[hS b141 1 u140 1 s76.1.length,hS b147 2 u143 1 s76.2.length]) ⟨0,2,43,[[hS b141 1 u140 1 s76.1.length,hS b147 2 u143 1 s76.2.length]]⟩ ty43 rfl (by generalize b141=gq0;generalize b147=gq1;cases gq0 <;> cases gq1 <;> rfl) rfl rfl rfl rfl rfl rfl rfl) (TO.nil (T.ret ?_))))
    obtain rfl:=osj h
    repeat (first|refine retS ?_|refine retB ?_)
    exact Fin.ret (vs:=[.agg [hS b141 1 u140 1 s76.1.length,hS b147 2 u143 1 s76.2.length]]) (.cons (.cell (.agg [hS b141 1 u140 1 s76.1.length,hS b147 2 u143 1 s76.2.length]) ty43 rfl rfl rfl rfl rfl rfl) .nil) (Fz.aggL (.cons (Fz.own (g:=b141) (ver:=u140) (l:=s76.1) rfl rfl rfl n142 (fun _=>rfl)) (.cons (NN.fzG hN146 (S:=[some ⟨0,2,43,[[hS b141 1 u140 1 s76.1.length,hS b147 2 u143 1 s76.2.length]]⟩,bE b141 u140 1 3 (s76.1.map cI),bE b147 u143 1 23 (nrs 4 y144 1 s76.2),some ⟨0,2,43,[[hS b141 1 u140 1 s76.1.length,hS b147 2 u143 1 s76.2.length]]⟩]) (g:=b147) (ver:=u143) rfl rfl n148 (fun _=>rfl)) .nil)))
   ·refine T.sr (oN as' (TO.nil (T.block ?_)))
    refine T.loop (S:=(List Int)×(List (List Int))×Int) (G:=(Bool×Nat)×(Bool×NG×AH×Nat)) (F_spec_l13Exec_L95 v1 v75) (fun s94 gh=>(gh.1.1=true->s94.1=[])/\NN gh.2.2.2.1 gh.2.2.1 1 3 cI s94.2.1/\(gh.2.1=true->s94.2.1=[])) (fun s94 gh=>[(10,I s94.2.2),(9,eL cI v75),(6,.hp 3 0 2 0 0),(5,eL ZEv.c v1),(4,.hp 0 0 2 0 0)]) (fun s94 gh=>(some ⟨0,2,43,[[.nil,.nil]]⟩::bE gh.1.1 gh.1.2 1 3 (s94.1.map cI)::bE gh.2.1 gh.2.2.2.2 1 23 (nrs 4 gh.2.2.1 1 s94.2.1)::some ⟨0,2,43,[[hS gh.1.1 1 gh.1.2 1 s94.1.length,hS gh.2.1 2 gh.2.2.2.2 1 s94.2.1.length]]⟩::gh.2.2.2.1)) (s0:=(s2.1,s43,(0:Int))) ((b35,u34),(b73,y70,kk71,u69)) h ⟨n36,hN72,n74⟩ (kw rfl rfl) (fun s94 gh ws94 h hg => ?_)
    obtain ⟨⟨b97,u96⟩,⟨b103,y100,kk101,u99⟩⟩:=gh
    obtain ⟨n98,hN102,n104⟩:=hg
    refine T.seq (T.sr (oN mv (oN mv (oN (EvN.lenL sl23 rfl) (oN (EvN.ilt rfl rfl) (TO.nil ?_))))))
    refine T.ifH rfl h (fun q105 h => ?_) (fun q105 h => ?_)
    ·refine T.skip ?_
     refine T.jF (G:=(Bool×Nat)×(NG×AH×Nat)) h (fun s106 gh=>(gh.1.1=true->s106.1=[])/\NN gh.2.2.1 gh.2.1 1 3 cI s106.2) (fun s106 gh=>[(10,I s94.2.2),(9,eL cI v75),(6,.hp 3 0 2 0 0),(5,eL ZEv.c v1),(4,.hp 0 0 2 0 0)]) (fun s106 gh=>(some ⟨0,2,43,[[.nil,.nil]]⟩::bE gh.1.1 gh.1.2 1 3 (s106.1.map cI)::bE false gh.2.2.2 1 23 (nrs 4 gh.2.1 1 s106.2)::some ⟨0,2,43,[[hS gh.1.1 1 gh.1.2 1 s106.1.length,hS false 2 gh.2.2.2 1 s106.2.length]]⟩::gh.2.2.1)) (fun s106 gh h hg => ?_) (fun s106 h => ?_)
     ·obtain ⟨⟨b133,u132⟩,⟨y136,kk137,u135⟩⟩:=gh
      obtain ⟨n134,hN138⟩:=hg
      refine T.region (oN mv (jW h fun g139 h=>oN (EvN.add rfl rfl g139) (oN as' (TO.nil ?_))))
      obtain rfl:=osj h
      exact ⟨(s106.1,s106.2,(s94.2.2+(1:Int))),((b133,u132),(false,y136,kk137,u135)),rfl,⟨n134,hN138,nofun⟩,kw rfl rfl⟩
     ·refine T.block (T.sr (oN mv (oN mv (oN mv (jD h fun g107 h=>oN (EvN.ixL sl23 rfl rfl g107 (fun _=>rfl)) (oN (lf (I (v75.getD s94.2.2.toNat default)) ty3 rfl) (jD h fun g108 h=>oN (EvN.ixL sl98 rfl rfl g108 (fun _=>rfl)) (oN (lf (.agg (ZEv.c (v1.getD (v75.getD s94.2.2.toNat default).toNat default))) ty101 rfl) (oA (EvA.al zs101 rfl rfl) (TO.reid (e0:=envOf [(11,.hp 4 0 5 0 0),(53,.agg (ZEv.c (v1.getD (v75.getD s94.2.2.toNat default).toNat default))),(10,I s94.2.2),(9,eL cI v75),(6,.hp 3 0 2 0 0),(5,eL ZEv.c v1),(4,.hp 0 0 2 0 0)]) (Reid.rot (m:=4) (S:=[some ⟨0,2,43,[[.nil,.nil]]⟩,bE b97 u96 1 3 (s94.1.map cI),bE b103 u99 1 23 (nrs 4 y100 1 s94.2.1),some ⟨0,2,43,[[hS b97 1 u96 1 s94.1.length,hS b103 2 u99 1 s94.2.1.length]]⟩]) (S':=[some ⟨0,2,43,[[.nil,.nil]]⟩,bE b97 u96 1 3 (s94.1.map cI),bE b103 u99 1 23 (nrs 5 y100 1 s94.2.1),some ⟨0,2,43,[[hS b97 1 u96 1 s94.1.length,hS b103 2 u99 1 s94.2.1.length]]⟩]) (K:=kk101) (x:=some ⟨0,5,101,[[I (0:Int),I (0:Int),I (0:Int),Bo false,Bo false]]⟩) (x':=some ⟨0,5,101,[[I (0:Int),I (0:Int),I (0:Int),Bo false,Bo false]]⟩) rfl rfl rfl (.some (.rowL (.cons .nil (.cons .nil .nil))) (.bE (fun _=>rfl) (.nest (hN102.renK rfl) (.some (.rowL (.cons (ren_hSg (Rot.low rfl)) (.cons (ren_hSg (Rot.low rfl)) .nil))) .nil)))) hN102.kf (.some (.rowL (.cons (ren_isF 9 _ rfl) (.cons (ren_isF 9 _ rfl) (.cons (ren_isF 9 _ rfl) (.cons (ren_isF 9 _ rfl) (.cons (ren_isF 9 _ rfl) .nil)))))) .nil)) (renE_cons (a0:=.hp (kk101.length+4) 0 5 0 0) rfl (.hp Rot.new) (renE_F rfl rfl (renE_F rfl rfl (renE_F rfl rfl (renE_cons (a0:=.hp 3 0 2 0 0) rfl (.hp (Rot.low rfl)) (renE_F rfl rfl (renE_cons (a0:=.hp 0 0 2 0 0) rfl (.hp (Rot.low rfl)) renE_nil))))))) (oV (sr (ZEv.c (v1.getD (v75.getD s94.2.2.toNat default).toNat default)) ty101 rfl rfl rfl rfl) (TO.nil (T.sr ?_)))))))))))))
      refine oN (fa fs43 rfl) (oA (lh (hS b103 2 u99 1 s94.2.1.length) ty37 rfl rfl rfl) (oN (fa fs101 rfl) (oA (lh (I ((v1.getD (v75.getD s94.2.2.toNat default).toNat default).Loc)) ty3 rfl rfl rfl) (jD h fun g109 h => ?_))))
      obtain rfl:=gfalse n104 rfl g109
      refine oN (EvN.ixO (g:=false) sl37 rfl rfl nofun g109) ?_
      have n114:=hN102.nil_ (toNat_lt' rfl g109)
      have hX113:=hN102.opened (toNat_lt' rfl g109)
      refine TO.reid (e0:=envOf [(58,.hp 2 u99 1 (((v1.getD (v75.getD s94.2.2.toNat default).toNat default).Loc).toNat) 0),(11,.hp 4 0 5 0 0),(10,I s94.2.2),(9,eL cI v75),(6,.hp 3 0 2 0 0),(5,eL ZEv.c v1),(4,.hp 0 0 2 0 0)]) (Reid.open (m:=5) (S:=[some ⟨0,2,43,[[.nil,.nil]]⟩,bE b97 u96 1 3 (s94.1.map cI),bE false u99 1 23 (nrs 5 y100 1 s94.2.1),some ⟨0,2,43,[[hS b97 1 u96 1 s94.1.length,hS false 2 u99 1 s94.2.1.length]]⟩,some ⟨0,5,101,[(ZEv.c (v1.getD (v75.getD s94.2.2.toNat default).toNat default))]⟩]) (S':=[some ⟨0,2,43,[[.nil,.nil]]⟩,bE b97 u96 1 3 (s94.1.map cI),bE false u99 1 23 (nxs 6 y100 1 s94.2.1 (((v1.getD (v75.getD s94.2.2.toNat default).toNat default).Loc).toNat) (y100 (((v1.getD (v75.getD s94.2.2.toNat default).toNat default).Loc).toNat)).1 5 ((y100 (((v1.getD (v75.getD s94.2.2.toNat default).toNat default).Loc).toNat)).2.2) ((s94.2.1.getD (((v1.getD (v75.getD s94.2.2.toNat default).toNat default).Loc).toNat) []).length)),some ⟨0,2,43,[[hS b97 1 u96 1 s94.1.length,hS false 2 u99 1 s94.2.1.length]]⟩,some ⟨0,5,101,[(ZEv.c (v1.getD (v75.getD s94.2.2.toNat default).toNat default))]⟩]) (K:=kk101) (x:=bE (y100 (((v1.getD (v75.getD s94.2.2.toNat default).toNat default).Loc).toNat)).1 (y100 (((v1.getD (v75.getD s94.2.2.toNat default).toNat default).Loc).toNat)).2.2 1 3 ((s94.2.1.getD (((v1.getD (v75.getD s94.2.2.toNat default).toNat default).Loc).toNat) []).map cI)) rfl (hN102.at_ (toNat_lt' rfl g109)) rfl (.some (.rowL (.cons .nil (.cons .nil .nil))) (.bE (fun _=>rfl) (.nest (hN102.renOpn (toNat_lt' rfl g109)) (.some (.rowL (.cons (ren_hSg (Opn.low rfl)) (.cons (ren_hSg (Opn.low rfl)) .nil))) (.some (.rowL (.cons (ren_isF 9 _ rfl) (.cons (ren_isF 9 _ rfl) (.cons (ren_isF 9 _ rfl) (.cons (ren_isF 9 _ rfl) (.cons (ren_isF 9 _ rfl) .nil)))))) .nil))))) hN102.kf) (renE_cons (a0:=.hp 2 u99 1 (((v1.getD (v75.getD s94.2.2.toNat default).toNat default).Loc).toNat) 0) rfl (.hp (Opn.low rfl)) (renE_cons (a0:=.hp 4 0 5 0 0) rfl (.hp (Opn.low rfl)) (renE_F rfl rfl (renE_F rfl rfl (renE_cons (a0:=.hp 3 0 2 0 0) rfl (.hp (Opn.low rfl)) (renE_F rfl rfl (renE_cons (a0:=.hp 0 0 2 0 0) rfl (.hp (Opn.low rfl)) renE_nil))))))) ?_
      generalize (y100 (((v1.getD (v75.getD s94.2.2.toNat default).toNat default).Loc).toNat)).1=b110 at n114 ⊢
      generalize (y100 (((v1.getD (v75.getD s94.2.2.toNat default).toNat default).Loc).toNat)).2.2=u111
      generalize kk101.set (y100 (((v1.getD (v75.getD s94.2.2.toNat default).toNat default).Loc).toNat)).2.1 none=kk112 at hX113 ⊢
      refine oA (EvA.loadhp (hS b110 5 u111 1 ((s94.2.1.getD (((v1.getD (v75.getD s94.2.2.toNat default).toNat default).Loc).toNat) []).length)) ty23 rfl rfl rfl rfl (nxs_get (toNat_lt' rfl g109)) rfl) (oN (EvN.asg (hS b110 5 u111 1 ((s94.2.1.getD (((v1.getD (v75.getD s94.2.2.toNat default).toNat default).Loc).toNat) []).length)) rfl) (TO.nil ?_))
      refine T.jF (G:=(Bool×Nat)×(NG×AH×Nat)×(Bool×Nat)) h (fun s115 gh=>(gh.1.1=true->s115.1=[])/\NX gh.2.1.2.1 gh.2.1.1 1 3 cI s94.2.1 (((v1.getD (v75.getD s94.2.2.toNat default).toNat default).Loc).toNat)/\(gh.2.2.1=true->s115.2=[])) (fun s115 gh=>[(12,hS gh.2.2.1 5 gh.2.2.2 1 s115.2.length),(11,.hp 4 0 5 0 0),(10,I s94.2.2),(9,eL cI v75),(6,.hp 3 0 2 0 0),(5,eL ZEv.c v1),(4,.hp 0 0 2 0 0)]) (fun s115 gh=>(some ⟨0,2,43,[[.nil,.nil]]⟩::bE gh.1.1 gh.1.2 1 3 (s115.1.map cI)::bE false gh.2.1.2.2 1 23 (nxs 6 gh.2.1.1 1 s94.2.1 (((v1.getD (v75.getD s94.2.2.toNat default).toNat default).Loc).toNat) gh.2.2.1 5 gh.2.2.2 s115.2.length)::some ⟨0,2,43,[[hS gh.1.1 1 gh.1.2 1 s115.1.length,hS false 2 gh.2.1.2.2 1 s94.2.1.length]]⟩::some ⟨0,5,101,[(ZEv.c (v1.getD (v75.getD s94.2.2.toNat default).toNat default))]⟩::bE gh.2.2.1 gh.2.2.2 1 3 (s115.2.map cI)::gh.2.1.2.1)) (fun s115 gh h hg => ?_) (fun s115 h => ?_)
      ·obtain ⟨⟨b121,u120⟩,⟨y124,kk125,u123⟩,⟨b128,u127⟩⟩:=gh
       obtain ⟨n122,hN126,n129⟩:=hg
       refine T.sr (oN (fa fs101 rfl) (oA (lh (Bo ((v1.getD (v75.getD s94.2.2.toNat default).toNat default).Writes)) ty4 rfl rfl rfl) (TO.nil ?_)))
       refine T.ifH rfl h (fun q130 h => ?_) (fun q130 h => ?_)
       ·refine T.drawF (fun i=>[([],false),([3],false),([],false),([4],false),([],false),([],false),([],false),([],false),([],false),([],false),([5],true),([],false),([2],true)].getD i ([],false)) (by kernel_rfl) (by kernel_rfl) (fN rfl (fa fs43 rfl) (fR [3] rfl (fun G hG=>EvA.loadhp (hS false 2 u123 1 s94.2.1.length) ty37 rfl (hG.a0 rfl) rfl rfl rfl rfl) (fN rfl (fa fs101 rfl) (fR [4] rfl (fun G hG=>EvA.loadhp (I ((v1.getD (v75.getD s94.2.2.toNat default).toNat default).Loc)) ty3 rfl (hG.a0 rfl) rfl rfl rfl rfl) (fN rfl mv (fN rfl mv (fN rfl mv (fN rfl (EvN.ixL sl23 rfl rfl g107 (fun _=>rfl)) (fN rfl (lf (I (v75.getD s94.2.2.toNat default)) ty3 rfl) (fN rfl (EvN.mkF (c:=cI) ([(v75.getD s94.2.2.toNat default)]:List Int) [[I (v75.getD s94.2.2.toNat default)]] sl23 rfl rfl rfl (fun _=>rfl) (fun _=>rfl) rfl) (jL h fun g131 h=>fW 5 [] rfl rfl (fun G hG=>EvA.app1 (g:=b128) (l:=s115.2) (v75.getD s94.2.2.toNat default) sl23 (by kernel_rfl) rfl rfl (hG.a0 rfl) n129 (SrcOk.fz (l:=([(v75.getD s94.2.2.toNat default)]:List Int)) rfl (fun _=>rfl)) g131) (fN rfl (EvN.ixO (g:=false) sl37 rfl rfl nofun g109) (fV 2 [] rfl rfl (fun G hG=>EvA.st (cs:=[hS false 5 (u127+1) 1 ((s115.2++[(v75.getD s94.2.2.toNat default)]).length)]) ⟨u123,1,23,(nxs 6 y124 1 s94.2.1 (((v1.getD (v75.getD s94.2.2.toNat default).toNat default).Loc).toNat) false 5 (u127+1) ((s115.2++[(v75.getD s94.2.2.toNat default)]).length))⟩ ty23 rfl rfl (hG.a0 rfl) rfl rfl (nxs_get hN126.hi) rfl rfl (congrArg (ABlk.mk u123 1 23) nxs_set)) (TF.nil ?_))))))))))))))
        obtain rfl:=osj h
        exact ⟨((b121,u120),((up 1 ((up 1 y124).put (((v1.getD (v75.getD s94.2.2.toNat default).toNat default).Loc).toNat) (false,0,u127+1))),(some ⟨0,5,101,[(ZEv.c (v1.getD (v75.getD s94.2.2.toNat default).toNat default))]⟩::(bE false (u127+1) 1 3 ((s115.2++[(v75.getD s94.2.2.toNat default)]).map cI)::kk125)),u123)),⟨n122,((hN126.close (g:=false) (v:=u127+1) (r:=(s115.2++[(v75.getD s94.2.2.toNat default)])) nofun (fun _=>rfl)).push (fun _ hb=>osi hb ▸ rowsF_row rfl))⟩,kw (Eq.trans (congrArg (fun n_:Nat=>(some ⟨0,2,43,[[.nil,.nil]]⟩::bE b121 u120 1 3 (s115.1.map cI)::bE false u123 1 23 (nrs 4 (up 1 ((up 1 y124).put (((v1.getD (v75.getD s94.2.2.toNat default).toNat default).Loc).toNat) (false,0,u127+1))) 1 (s94.2.1.set (((v1.getD (v75.getD s94.2.2.toNat default).toNat default).Loc).toNat) (s115.2++[(v75.getD s94.2.2.toNat default)])))::some ⟨0,2,43,[[hS b121 1 u120 1 s115.1.length,hS false 2 u123 1 n_]]⟩::some ⟨0,5,101,[(ZEv.c (v1.getD (v75.getD s94.2.2.toNat default).toNat default))]⟩::bE false (u127+1) 1 3 ((s115.2++[(v75.getD s94.2.2.toNat default)]).map cI)::kk125:AH)) (by simp:(s94.2.1.set (((v1.getD (v75.getD s94.2.2.toNat default).toNat default).Loc).toNat) (s115.2++[(v75.getD s94.2.2.toNat default)])).length=s94.2.1.length)) (congrArg (fun r_:List (List AV)=>(some ⟨0,2,43,[[.nil,.nil]]⟩::bE b121 u120 1 3 (s115.1.map cI)::bE false u123 1 23 r_::some ⟨0,2,43,[[hS b121 1 u120 1 s115.1.length,hS false 2 u123 1 s94.2.1.length]]⟩::some ⟨0,5,101,[(ZEv.c (v1.getD (v75.getD s94.2.2.toNat default).toNat default))]⟩::bE false (u127+1) 1 3 ((s115.2++[(v75.getD s94.2.2.toNat default)]).map cI)::kk125:AH)) (show (nxs 6 y124 1 s94.2.1 (((v1.getD (v75.getD s94.2.2.toNat default).toNat default).Loc).toNat) false 5 (u127+1) ((s115.2++[(v75.getD s94.2.2.toNat default)]).length))=nrs 4 (up 1 ((up 1 y124).put (((v1.getD (v75.getD s94.2.2.toNat default).toNat default).Loc).toNat) (false,0,u127+1))) 1 (s94.2.1.set (((v1.getD (v75.getD s94.2.2.toNat default).toNat default).Loc).toNat) (s115.2++[(v75.getD s94.2.2.toNat default)])) from nxs_close (m:=5) (gh:=y124) (r:=(s115.2++[(v75.getD s94.2.2.toNat default)])) hN126.hi).symm)) rfl⟩
       ·refine T.skip ?_
        obtain rfl:=osj h
        exact ⟨((b121,u120),((up 1 ((up 1 y124).put (((v1.getD (v75.getD s94.2.2.toNat default).toNat default).Loc).toNat) (b128,0,u127))),(some ⟨0,5,101,[(ZEv.c (v1.getD (v75.getD s94.2.2.toNat default).toNat default))]⟩::(bE b128 u127 1 3 (s115.2.map cI)::kk125)),u123)),⟨n122,((hN126.close (g:=b128) (v:=u127) (r:=s115.2) n129 (fun _=>rfl)).push (fun _ hb=>osi hb ▸ rowsF_row rfl))⟩,kw (Eq.trans (congrArg (fun n_:Nat=>(some ⟨0,2,43,[[.nil,.nil]]⟩::bE b121 u120 1 3 (s115.1.map cI)::bE false u123 1 23 (nrs 4 (up 1 ((up 1 y124).put (((v1.getD (v75.getD s94.2.2.toNat default).toNat default).Loc).toNat) (b128,0,u127))) 1 (s94.2.1.set (((v1.getD (v75.getD s94.2.2.toNat default).toNat default).Loc).toNat) s115.2))::some ⟨0,2,43,[[hS b121 1 u120 1 s115.1.length,hS false 2 u123 1 n_]]⟩::some ⟨0,5,101,[(ZEv.c (v1.getD (v75.getD s94.2.2.toNat default).toNat default))]⟩::bE b128 u127 1 3 (s115.2.map cI)::kk125:AH)) (by simp:(s94.2.1.set (((v1.getD (v75.getD s94.2.2.toNat default).toNat default).Loc).toNat) s115.2).length=s94.2.1.length)) (congrArg (fun r_:List (List AV)=>(some ⟨0,2,43,[[.nil,.nil]]⟩::bE b121 u120 1 3 (s115.1.map cI)::bE false u123 1 23 r_::some ⟨0,2,43,[[hS b121 1 u120 1 s115.1.length,hS false 2 u123 1 s94.2.1.length]]⟩::some ⟨0,5,101,[(ZEv.c (v1.getD (v75.getD s94.2.2.toNat default).toNat default))]⟩::bE b128 u127 1 3 (s115.2.map cI)::kk125:AH)) (show (nxs 6 y124 1 s94.2.1 (((v1.getD (v75.getD s94.2.2.toNat default).toNat default).Loc).toNat) b128 5 u127 s115.2.length)=nrs 4 (up 1 ((up 1 y124).put (((v1.getD (v75.getD s94.2.2.toNat default).toNat default).Loc).toNat) (b128,0,u127))) 1 (s94.2.1.set (((v1.getD (v75.getD s94.2.2.toNat default).toNat default).Loc).toNat) s115.2) from nxs_close (m:=5) (gh:=y124) (r:=s115.2) hN126.hi).symm)) rfl⟩
      ·refine T.sr (oN (fa fs101 rfl) (oA (lh (Bo ((v1.getD (v75.getD s94.2.2.toNat default).toNat default).Reads)) ty4 rfl rfl rfl) (TO.nil ?_)))
       refine T.ifH rfl h (fun q116 h => ?_) (fun q116 h => ?_)
       ·refine T.drawF (fun i=>[([],false),([3],false),([],false),([],false),([],false),([],false),([],false),([],false),([],false),([],false),([],false),([5],false),([],false),([1],true)].getD i ([],false)) (by kernel_rfl) (by kernel_rfl) (fN rfl (fa fs43 rfl) (fR [3] rfl (fun G hG=>EvA.loadhp (hS b97 1 u96 1 s94.1.length) ty23 rfl (hG.a0 rfl) rfl rfl rfl rfl) (fN rfl mv (fN rfl mv (fN rfl (EvN.ixL sl23 rfl rfl g107 (fun _=>rfl)) (fN rfl (lf (I (v75.getD s94.2.2.toNat default)) ty3 rfl) (fN rfl mv (fN rfl mv (fN rfl (EvN.lenO (g:=b110) sl23 rfl (nil_len n114 rfl)) (jW h fun g117 h=>fN rfl (EvN.sub rfl rfl g117) (jD h fun g118 h => ?_)))))))))))
        obtain rfl:=gfalse n114 rfl g118
        refine fN rfl (EvN.ixO (g:=false) sl23 rfl rfl nofun g118) (fR [5] rfl (fun G hG=>EvA.ldO (g:=false) (l:=(s94.2.1.getD (((v1.getD (v75.getD s94.2.2.toNat default).toNat default).Loc).toNat) [])) (I ((s94.2.1.getD (((v1.getD (v75.getD s94.2.2.toNat default).toNat default).Loc).toNat) []).getD ((((s94.2.1.getD (((v1.getD (v75.getD s94.2.2.toNat default).toNat default).Loc).toNat) []).length:Int)-(1:Int)).toNat) default)) ty3 rfl (hG.a0 rfl) nofun (toNat_lt' rfl g118) rfl) (jD h fun g119 h => ?_))
        obtain rfl:=gfalse n98 rfl g119
        refine fN rfl (EvN.ixO (g:=false) sl23 rfl rfl nofun g119) (fV 1 [] rfl rfl (fun G hG=>EvA.stO (g:=false) (l:=s94.1) (cs:=[I ((s94.2.1.getD (((v1.getD (v75.getD s94.2.2.toNat default).toNat default).Loc).toNat) []).getD ((((s94.2.1.getD (((v1.getD (v75.getD s94.2.2.toNat default).toNat default).Loc).toNat) []).length:Int)-(1:Int)).toNat) default)]) ((s94.2.1.getD (((v1.getD (v75.getD s94.2.2.toNat default).toNat default).Loc).toNat) []).getD ((((s94.2.1.getD (((v1.getD (v75.getD s94.2.2.toNat default).toNat default).Loc).toNat) []).length:Int)-(1:Int)).toNat) default) ty3 rfl rfl (hG.a0 rfl) nofun (toNat_lt' rfl g119) rfl rfl rfl) (TF.nil ?_))
        obtain rfl:=osj h
        exact ⟨((false,u96),(y100,kk112,u99),(false,u111)),⟨nofun,hX113,nofun⟩,kw (congrArg (fun n_:Nat=>(some ⟨0,2,43,[[.nil,.nil]]⟩::bE false u96 1 3 ((s94.1.set ((v75.getD s94.2.2.toNat default).toNat) ((s94.2.1.getD (((v1.getD (v75.getD s94.2.2.toNat default).toNat default).Loc).toNat) []).getD ((((s94.2.1.getD (((v1.getD (v75.getD s94.2.2.toNat default).toNat default).Loc).toNat) []).length:Int)-(1:Int)).toNat) default)).map cI)::bE false u99 1 23 (nxs 6 y100 1 s94.2.1 (((v1.getD (v75.getD s94.2.2.toNat default).toNat default).Loc).toNat) false 5 u111 ((s94.2.1.getD (((v1.getD (v75.getD s94.2.2.toNat default).toNat default).Loc).toNat) []).length))::some ⟨0,2,43,[[hS false 1 u96 1 n_,hS false 2 u99 1 s94.2.1.length]]⟩::some ⟨0,5,101,[(ZEv.c (v1.getD (v75.getD s94.2.2.toNat default).toNat default))]⟩::bE false u111 1 3 ((s94.2.1.getD (((v1.getD (v75.getD s94.2.2.toNat default).toNat default).Loc).toNat) []).map cI)::kk112:AH)) (by simp:(s94.1.set ((v75.getD s94.2.2.toNat default).toNat) ((s94.2.1.getD (((v1.getD (v75.getD s94.2.2.toNat default).toNat default).Loc).toNat) []).getD ((((s94.2.1.getD (((v1.getD (v75.getD s94.2.2.toNat default).toNat default).Loc).toNat) []).length:Int)-(1:Int)).toNat) default)).length=s94.1.length)) rfl⟩
       ·refine T.skip ?_
        obtain rfl:=osj h
        exact ⟨((b97,u96),(y100,kk112,u99),(b110,u111)),⟨n98,hX113,n114⟩,kw rfl rfl⟩
    ·refine T.exit (lX h fun h => ?_)
     obtain rfl:=osj h
     exact ⟨((b97,u96),(b103,y100,kk101,u99)),⟨n98,hN102,n104⟩,kw rfl rfl⟩
  ·refine T.sr (oN as' (TO.nil (T.block ?_)))
   refine T.loop (S:=(List (List Int))×Int) (G:=(Bool×NG×AH×Nat)) F_spec_l13Exec_L59 (fun s58 gh=>NN gh.2.2.1 gh.2.1 1 3 cI s58.1/\(gh.1=true->s58.1=[])) (fun s58 gh=>[(8,I s58.2),(6,.hp 3 0 2 0 0),(5,eL ZEv.c v1),(4,.hp 0 0 2 0 0),(0,eL (cL ZIn.c) p),(1,eL cI schedule)]) (fun s58 gh=>(some ⟨0,2,43,[[.nil,.nil]]⟩::bE b35 u34 1 3 (s2.1.map cI)::bE gh.1 gh.2.2.2 1 23 (nrs 4 gh.2.1 1 s58.1)::some ⟨0,2,43,[[hS b35 1 u34 1 s2.1.length,hS gh.1 2 gh.2.2.2 1 s58.1.length]]⟩::gh.2.2.1)) (s0:=(s2.2,(0:Int))) (b41,y38,kk39,u37) h ⟨hN40,n42⟩ (kw rfl rfl) (fun s58 gh ws58 h hg => ?_)
   obtain ⟨b64,y61,kk62,u60⟩:=gh
   obtain ⟨hN63,n65⟩:=hg
   refine T.seq (T.sr (oN mv (oN (EvN.ile rfl rfl) (TO.nil ?_))))
   refine T.ifH rfl h (fun q66 h => ?_) (fun q66 h => ?_)
   ·refine T.skip (T.seq (T.block (T.region (oN (fa fs43 rfl) (oA (lh (hS b64 2 u60 1 s58.1.length) ty37 rfl rfl rfl) (oN mv (oA (EvA.mkO (c:=cI) ([s58.2]:List Int) [[I s58.2]] sl23 rfl rfl rfl (fun _=>rfl) rfl rfl) (TO.reid (e0:=envOf [(34,hS false 4 0 1 (([s58.2]:List Int).length)),(32,hS b64 2 u60 1 s58.1.length),(8,I s58.2),(6,.hp 3 0 2 0 0),(5,eL ZEv.c v1),(4,.hp 0 0 2 0 0),(0,eL (cL ZIn.c) p),(1,eL cI schedule)]) (Reid.rot (m:=4) (S:=[some ⟨0,2,43,[[.nil,.nil]]⟩,bE b35 u34 1 3 (s2.1.map cI),bE b64 u60 1 23 (nrs 4 y61 1 s58.1),some ⟨0,2,43,[[hS b35 1 u34 1 s2.1.length,hS b64 2 u60 1 s58.1.length]]⟩]) (S':=[some ⟨0,2,43,[[.nil,.nil]]⟩,bE b35 u34 1 3 (s2.1.map cI),bE b64 u60 1 23 (nrs 5 y61 1 s58.1),some ⟨0,2,43,[[hS b35 1 u34 1 s2.1.length,hS b64 2 u60 1 s58.1.length]]⟩]) (K:=kk62) (x:=bE false 0 1 3 (([s58.2]:List Int).map cI)) (x':=bE false 0 1 3 (([s58.2]:List Int).map cI)) rfl rfl rfl (.some (.rowL (.cons .nil (.cons .nil .nil))) (.bE (fun _=>rfl) (.nest (hN63.renK rfl) (.some (.rowL (.cons (ren_hSg (Rot.low rfl)) (.cons (ren_hSg (Rot.low rfl)) .nil))) .nil)))) hN63.kf (.bE (fun _=>rfl) .nil)) (renE_cons (a0:=hS false (kk62.length+4) 0 1 (([s58.2]:List Int).length)) rfl (ren_hSg Rot.new) (renE_cons (a0:=hS b64 2 u60 1 s58.1.length) rfl (ren_hSg (Rot.low rfl)) (renE_F rfl rfl (renE_cons (a0:=.hp 3 0 2 0 0) rfl (.hp (Rot.low rfl)) (renE_F rfl rfl (renE_cons (a0:=.hp 0 0 2 0 0) rfl (.hp (Rot.low rfl)) (renE_F rfl rfl (renE_F rfl rfl renE_nil)))))))) (oA (EvA.mkR [[hS false 4 0 1 (([s58.2]:List Int).length)]] sl37 rfl rfl rfl rfl) (TO.reid (e0:=envOf [(35,hS false 5 0 1 1),(32,hS b64 2 u60 1 s58.1.length),(8,I s58.2),(6,.hp 3 0 2 0 0),(5,eL ZEv.c v1),(4,.hp 0 0 2 0 0),(0,eL (cL ZIn.c) p),(1,eL cI schedule)]) (Reid.rot (m:=5) (S:=[some ⟨0,2,43,[[.nil,.nil]]⟩,bE b35 u34 1 3 (s2.1.map cI),bE b64 u60 1 23 (nrs 5 y61 1 s58.1),some ⟨0,2,43,[[hS b35 1 u34 1 s2.1.length,hS b64 2 u60 1 s58.1.length]]⟩,bE false 0 1 3 (([s58.2]:List Int).map cI)]) (S':=[some ⟨0,2,43,[[.nil,.nil]]⟩,bE b35 u34 1 3 (s2.1.map cI),bE b64 u60 1 23 (nrs 6 y61 1 s58.1),some ⟨0,2,43,[[hS b35 1 u34 1 s2.1.length,hS b64 2 u60 1 s58.1.length]]⟩,bE false 0 1 3 (([s58.2]:List Int).map cI)]) (K:=kk62) (x:=bE false 0 1 23 (([]:List (List Int)).map (cL cI)++[[hS false 4 0 1 (([s58.2]:List Int).length)]])) (x':=bE false 0 1 23 (([]:List (List Int)).map (cL cI)++[[hS false 4 0 1 (([s58.2]:List Int).length)]])) rfl rfl rfl (.some (.rowL (.cons .nil (.cons .nil .nil))) (.bE (fun _=>rfl) (.nest (hN63.renK rfl) (.some (.rowL (.cons (ren_hSg (Rot.low rfl)) (.cons (ren_hSg (Rot.low rfl)) .nil))) (.bE (fun _=>rfl) .nil))))) hN63.kf (.nest (.rowsL (.cons (.cons (ren_hSg (Rot.low rfl)) .nil) .nil)) .nil)) (renE_cons (a0:=hS false (kk62.length+5) 0 1 1) rfl (ren_hSg Rot.new) (renE_cons (a0:=hS b64 2 u60 1 s58.1.length) rfl (ren_hSg (Rot.low rfl)) (renE_F rfl rfl (renE_cons (a0:=.hp 3 0 2 0 0) rfl (.hp (Rot.low rfl)) (renE_F rfl rfl (renE_cons (a0:=.hp 0 0 2 0 0) rfl (.hp (Rot.low rfl)) (renE_F rfl rfl (renE_F rfl rfl renE_nil)))))))) ?_))))))))))
    refine jL h fun g67 h=>oA (EvA.appR (g:=b64) (rows:=(nrs 6 y61 1 s58.1)) (rows':=(nrs 6 y61 1 s58.1++[[hS false 4 0 1 (([s58.2]:List Int).length)]])) (n':=(s58.1++[([s58.2]:List Int)]).length) sl37 (by kernel_rfl) rfl rfl nrs_rows.symm (fun q=>by rw [n65 q];rfl) (SrcOk.raw (rows:=[[hS false 4 0 1 (([s58.2]:List Int).length)]]) rfl rfl rfl) g67 rfl (by simp)) (TO.reid (e0:=envOf [(36,hS false 2 (u60+1) 1 ((s58.1++[([s58.2]:List Int)]).length)),(8,I s58.2),(6,.hp 3 0 2 0 0),(5,eL ZEv.c v1),(4,.hp 0 0 2 0 0),(0,eL (cL ZIn.c) p),(1,eL cI schedule)]) (Reid.take (a:=4) (S:=[some ⟨0,2,43,[[.nil,.nil]]⟩,bE b35 u34 1 3 (s2.1.map cI),bE false (u60+1) 1 23 (nrs 6 y61 1 s58.1++[[hS false 4 0 1 (([s58.2]:List Int).length)]]),some ⟨0,2,43,[[hS b35 1 u34 1 s2.1.length,hS b64 2 u60 1 s58.1.length]]⟩]) (S':=[some ⟨0,2,43,[[.nil,.nil]]⟩,bE b35 u34 1 3 (s2.1.map cI),bE false (u60+1) 1 23 (nrs 4 ((up 1 y61).put s58.1.length (false,0,0)) 1 (s58.1++[([s58.2]:List Int)])),some ⟨0,2,43,[[hS b35 1 u34 1 s2.1.length,hS b64 2 u60 1 s58.1.length]]⟩]) (K:=kk62) (x2:=bE false 0 1 3 (([s58.2]:List Int).map cI)) (x2':=bE false 0 1 3 (([s58.2]:List Int).map cI)) rfl rfl (.some (.rowL (.cons .nil (.cons .nil .nil))) (.bE (fun _=>rfl) (.nest (NN.renTk) (.some (.rowL (.cons (ren_hSg (Tk.low rfl)) (.cons (ren_hSg (Tk.low rfl)) .nil))) .nil)))) hN63.kf (.bE (fun _=>rfl) .nil)) (renE_cons (a0:=hS false 2 (u60+1) 1 ((s58.1++[([s58.2]:List Int)]).length)) rfl (ren_hSg (Tk.low rfl)) (renE_F rfl rfl (renE_cons (a0:=.hp 3 0 2 0 0) rfl (.hp (Tk.low rfl)) (renE_F rfl rfl (renE_cons (a0:=.hp 0 0 2 0 0) rfl (.hp (Tk.low rfl)) (renE_F rfl rfl (renE_F rfl rfl renE_nil))))))) (oN (fa fs43 rfl) (oV (sr [hS b35 1 u34 1 s2.1.length,hS false 2 (u60+1) 1 ((s58.1++[([s58.2]:List Int)]).length)] ty37 rfl rfl rfl rfl) (TO.nil (T.region (oN mv (jW h fun g68 h=>oN (EvN.add rfl rfl g68) (oN as' (TO.nil ?_)))))))))
    obtain rfl:=osj h
    exact ⟨((s58.1++[([s58.2]:List Int)]),(s58.2+(1:Int))),(false,((up 1 y61).put s58.1.length (false,0,0)),(bE false 0 1 3 (([s58.2]:List Int).map cI)::kk62),u60+1),rfl,⟨(hN63.snoc (g:=false) (ver:=0) (r:=([s58.2]:List Int)) nofun (fun _=>rfl)),nofun⟩,kw rfl rfl⟩
   ·refine T.exit (lX h fun h => ?_)
    obtain rfl:=osj h
    exact ⟨(b64,y61,kk62,u60),⟨hN63,n65⟩,kw rfl rfl⟩
 ·refine T.sr (oN as' (TO.nil (T.block ?_)))
  refine T.loop (S:=(List Int)×(List (List Int))×Int) (G:=(Bool×Nat)×(Bool×NG×AH×Nat)) (F_spec_l13Exec_L21 v1) (fun s20 gh=>(gh.1.1=true->s20.1=[])/\NN gh.2.2.2.1 gh.2.2.1 1 3 cI s20.2.1/\(gh.2.1=true->s20.2.1=[])) (fun s20 gh=>[(7,I s20.2.2),(6,.hp 3 0 2 0 0),(5,eL ZEv.c v1),(4,.hp 0 0 2 0 0),(0,eL (cL ZIn.c) p),(1,eL cI schedule)]) (fun s20 gh=>(some ⟨0,2,43,[[.nil,.nil]]⟩::bE gh.1.1 gh.1.2 1 3 (s20.1.map cI)::bE gh.2.1 gh.2.2.2.2 1 23 (nrs 4 gh.2.2.1 1 s20.2.1)::some ⟨0,2,43,[[hS gh.1.1 1 gh.1.2 1 s20.1.length,hS gh.2.1 2 gh.2.2.2.2 1 s20.2.1.length]]⟩::gh.2.2.2.1)) (s0:=(([]:List Int),([]:List (List Int)),(0:Int))) ((true,0),(true,(fun _=>(true,0,0)),([]:AH),0)) h ⟨(fun _=>rfl),(NN.nil (gh:=(fun _=>(true,0,0))) (w:=1) (ty:=3) (f:=cI)),(fun _=>rfl)⟩ (kw rfl rfl) (fun s20 gh ws20 h hg => ?_)
  obtain ⟨⟨b23,u22⟩,⟨b29,y26,kk27,u25⟩⟩:=gh
  obtain ⟨n24,hN28,n30⟩:=hg
  refine T.seq (T.sr (oN mv (oN mv (oN (EvN.lenL sl98 rfl) (oN (EvN.ilt rfl rfl) (TO.nil ?_))))))
  refine T.ifH rfl h (fun q31 h => ?_) (fun q31 h => ?_)
  ·refine T.skip (T.seq (T.block (T.region (oN (fa fs43 rfl) (oA (lh (hS b23 1 u22 1 s20.1.length) ty23 rfl rfl rfl) (oN (EvN.mkF (c:=cI) ([(-1:Int)]:List Int) [[I (-1:Int)]] sl23 rfl rfl rfl (fun _=>rfl) (fun _=>rfl) rfl) (jL h fun g32 h=>oA (EvA.app1 (g:=b23) (l:=s20.1) (-1:Int) sl23 (by kernel_rfl) rfl rfl rfl n24 (SrcOk.fz (l:=([(-1:Int)]:List Int)) rfl (fun _=>rfl)) g32) (oN (fa fs43 rfl) (oV (sr [hS false 1 (u22+1) 1 ((s20.1++[(-1:Int)]).length),hS b29 2 u25 1 s20.2.1.length] ty23 rfl rfl rfl rfl) (TO.nil (T.region (oN mv (jW h fun g33 h=>oN (EvN.add rfl rfl g33) ?_)))))))))))))
   refine oN as' (TO.nil ?_)
   obtain rfl:=osj h
   exact ⟨((s20.1++[(-1:Int)]),s20.2.1,(s20.2.2+(1:Int))),((false,u22+1),(b29,y26,kk27,u25)),rfl,⟨nofun,hN28,n30⟩,kw rfl rfl⟩
  ·refine T.exit (lX h fun h => ?_)
   obtain rfl:=osj h
   exact ⟨((b23,u22),(b29,y26,kk27,u25)),⟨n24,hN28,n30⟩,kw rfl rfl⟩
theorem F_spec_ExecOf_P (p:List (List ZIn)) (schedule:List Int) {q:ZEx×Bool} (h:F_spec_ExecOf p schedule=some q):PCall Try.prog 32 [eL (cL ZIn.c) p,eL cI schedule] (.tup [.agg (ZEx.c q.1),Bo q.2]):=by
 refine pM Try.func32 rfl (by kernel_rfl) rfl (T.sr (oA (EvA.al zs43 rfl rfl) (oN as' (TO.nil (T.sr (oN mv (oN mv (oC h (fun _=>F_spec_RunSchedule_P _ _) rfl rfl rfl rfl fun v1 _ h=>oN mv (oN (EvN.ext (eL cI v1.1) rfl rfl) (oN (EvN.ext (Bo v1.2) rfl rfl) (oN as' (oN as' (TO.nil (T.seq ?_))))))))))))))
 refine T.sr (oN mv (oN (EvN.not rfl) (TO.nil ?_)))
 refine T.ifH rfl h (fun q2 h => ?_) (fun q2 h => ?_)
 ·refine T.sr (oN (EvN.build [.nil,.nil] Try.underlying43 zs43 fs43 rfl rfl) (oV (sr [.nil,.nil] ty43 rfl rfl rfl rfl) (oN as' (TO.nil (T.ret ?_)))))
  obtain rfl:=osj h
  repeat (first|refine retS ?_|refine retB ?_)
  exact Fin.ret (vs:=[.agg [.nil,.nil],Bo false]) (.cons (.cell (.agg [.nil,.nil]) ty43 rfl rfl rfl rfl rfl rfl) (.cons (.tmp rfl) .nil)) (.tupL (.cons (Fz.aggL (.cons (.nil0) (.cons (.nil0) .nil))) (.cons (.of_isF 9 _ rfl) .nil)))
 ·refine T.skip (T.sr (oN mv (oN mv (oC h (fun _=>F_spec_l13Exec_P _ _) rfl rfl rfl rfl fun v3 _ h=>oV (sr [eL cI v3.From,eL (cL cI) v3.Order] ty43 rfl rfl rfl rfl) (oN as' (TO.nil (T.ret ?_)))))))
  obtain rfl:=osj h
  repeat (first|refine retS ?_|refine retB ?_)
  exact Fin.ret (vs:=[.agg [eL cI v3.From,eL (cL cI) v3.Order],Bo true]) (.cons (.cell (.agg [eL cI v3.From,eL (cL cI) v3.Order]) ty43 rfl rfl rfl rfl rfl rfl) (.cons (.tmp rfl) .nil)) (.tupL (.cons (.of_isF 9 _ rfl) (.cons (.of_isF 9 _ rfl) .nil)))
theorem F_spec_ExecSame_P (a:ZEx) (b:ZEx) {q:Bool} (h:F_spec_ExecSame a b=some q):PCall Try.prog 66 [.agg (ZEx.c a),.agg (ZEx.c b)] (Bo q):=by
 refine pM Try.func66 rfl (by kernel_rfl) rfl (T.sr (oN (EvN.bxF [eL cI a.From,eL (cL cI) a.Order] rfl rfl rfl) (oN (EvN.bxF (ZEx.c b) rfl rfl rfl) (oN as' (TO.nil (T.seq (T.sr (oN (fa fs43 rfl) (oN (lf (eL cI a.From) ty23 rfl) (oN (EvN.lenL sl23 rfl) (oN (fa fs43 rfl) (oN (lf (eL cI b.From) ty23 rfl) (oN (EvN.lenL sl23 rfl) (oN (EvN.ine rfl rfl) (oN mv ?_)))))))))))))))
 refine TO.jB h 8 (fun s1=>[(23,Bo s1),(3,.fp (ZEx.c b) 0),(2,.fp (ZEx.c a) 0)]) (fun s1=>[]) (fun s1 q2 h js1 => ?_) (fun s1 q2 h js1 => ?_) (fun s1 h => ?_)
 ·refine gS rfl q2 (gS rfl q2 (gS rfl q2 (gS rfl q2 (gS rfl q2 (gS rfl q2 (gS rfl q2 (oN (EvN.pickT rfl q2 (Bo true) rfl) ?_)))))))
  obtain rfl:=osj h
  exact js1 _ _ (kw rfl rfl)
 ·refine gN rfl q2 (fa fs43 rfl) (gN rfl q2 (lf (eL (cL cI) a.Order) ty37 rfl) (gN rfl q2 (EvN.lenL sl37 rfl) (gN rfl q2 (fa fs43 rfl) (gN rfl q2 (lf (eL (cL cI) b.Order) ty37 rfl) (gN rfl q2 (EvN.lenL sl37 rfl) (gN rfl q2 (EvN.ine rfl rfl) (oN (EvN.pickF rfl q2 (Bo ((a.Order.length:Int) != (b.Order.length:Int))) rfl) ?_)))))))
  obtain rfl:=osj h
  exact js1 _ _ (kw rfl rfl)
 ·refine TO.nil ?_
  refine T.ifH rfl h (fun q3 h => ?_) (fun q3 h => ?_)
  ·refine T.sr (oN as' (TO.nil (T.ret ?_)))
   obtain rfl:=osj h
   exact finR rfl rfl rfl
  ·refine T.skip ?_
   obtain ⟨Ks4,es4,ws4,h,ks4⟩:=sumL h
   refine T.join (S:=Unit) (G:=Unit) (fun s4=>Ks4 s4=some q) (fun s4 gh=>True) (fun s4 gh=>[(3,.fp (ZEx.c b) 0),(2,.fp (ZEx.c a) 0)]) (fun s4 gh=>[]) (fun s4 gh h hg => ?_) ?_
   ·clear ks4
    subst es4
    obtain ⟨Ks14,es14,ws14,h,ks14⟩:=sumL h
    refine T.join (S:=Unit) (G:=Unit) (fun s14=>Ks14 s14=some q) (fun s14 gh=>True) (fun s14 gh=>[]) (fun s14 gh=>[]) (fun s14 gh h hg => ?_) ?_
    ·clear ks14
     subst es14
     refine T.sr (oN as' (TO.nil (T.ret ?_)))
     obtain rfl:=osj h
     exact finR rfl rfl rfl
    ·refine T.sr (oN as' (TO.nil (T.block ?_)))
     refine T.lU h (fun s17=>[(6,I s17),(3,.fp (ZEx.c b) 0),(2,.fp (ZEx.c a) 0)]) (fun s17=>[]) (kw rfl rfl) (fun s17 ws17 h => ?_)
     refine T.seq (T.sr (oN mv (oN (fa fs43 rfl) (oN (lf (eL (cL cI) a.Order) ty37 rfl) (oN (EvN.lenL sl37 rfl) (oN (EvN.ilt rfl rfl) (TO.nil ?_)))))))
     refine T.ifH rfl h (fun q19 h => ?_) (fun q19 h => ?_)
     ·refine T.skip ?_
      obtain ⟨Ks20,es20,ws20,h,ks20⟩:=sumL h
      refine T.join (S:=Unit) (G:=Unit) (fun s20=>Ks20 s20=some ws17) (fun s20 gh=>True) (fun s20 gh=>[(6,I s17),(3,.fp (ZEx.c b) 0),(2,.fp (ZEx.c a) 0)]) (fun s20 gh=>[]) (fun s20 gh h hg => ?_) ?_
      ·clear ks20
       subst es20
       refine T.region (oN mv (jW h fun g33 h=>oN (EvN.add rfl rfl g33) (oN as' (TO.nil ?_))))
       exact lE h (kw rfl rfl)
      ·refine T.block (T.seq (T.seq (T.drawF (fun _=>([],false)) (by kernel_rfl) (by kernel_rfl) (fN rfl (fa fs43 rfl) (fN rfl (lf (eL (cL cI) a.Order) ty37 rfl) (fN rfl mv (jD h fun g21 h=>fN rfl (EvN.ixL sl37 rfl rfl g21 (fun _=>rfl)) (fN rfl (lf (eL cI (a.Order.getD s17.toNat default)) ty23 rfl) (fN rfl (EvN.lenL sl23 rfl) (fN rfl (fa fs43 rfl) (fN rfl (lf (eL (cL cI) b.Order) ty37 rfl) (fN rfl mv (jD h fun g22 h=>fN rfl (EvN.ixL sl37 rfl rfl g22 (fun _=>rfl)) ?_)))))))))))))
       refine fN rfl (lf (eL cI (b.Order.getD s17.toNat default)) ty23 rfl) (fN rfl (EvN.lenL sl23 rfl) (fN rfl (EvN.ine rfl rfl) (TF.nil ?_)))
       refine T.ifH rfl h (fun q23 h => ?_) (fun q23 h => ?_)
       ·refine T.seq (T.clean (H0:=[]) (e0:=envOf []) rfl wkN (T.region (oN as' (TO.nil (T.ret ?_)))))
        obtain rfl:=osj h
        replace h:=congrArg some (show _=_ from ks20)
        refine lX h fun h => ?_
        obtain rfl:=osj h
        replace h:=congrArg some (show _=_ from ks14)
        obtain rfl:=osj h
        exact finR rfl rfl rfl
       ·refine T.skip (T.seq (T.clean (H0:=[]) (e0:=envOf [(6,I s17),(3,.fp (ZEx.c b) 0),(2,.fp (ZEx.c a) 0)]) rfl (wkC rfl (wkC rfl (wkC rfl wkN))) (T.region (oN as' (TO.nil (T.block ?_))))))
        refine T.lU h (fun s26=>[(7,I s26),(6,I s17),(3,.fp (ZEx.c b) 0),(2,.fp (ZEx.c a) 0)]) (fun s26=>[]) (kw rfl rfl) (fun s26 ws26 h => ?_)
        refine T.seq (T.sr (oN mv (oN (fa fs43 rfl) (oN (lf (eL (cL cI) a.Order) ty37 rfl) (oN mv (oN (EvN.ixL sl37 rfl rfl g21 (fun _=>rfl)) (oN (lf (eL cI (a.Order.getD s17.toNat default)) ty23 rfl) (oN (EvN.lenL sl23 rfl) (oN (EvN.ilt rfl rfl) (TO.nil ?_))))))))))
        refine T.ifH rfl h (fun q28 h => ?_) (fun q28 h => ?_)
        ·refine T.skip (T.seq (T.block (T.seq (T.drawF (fun _=>([],false)) (by kernel_rfl) (by kernel_rfl) (fN rfl (fa fs43 rfl) (fN rfl (lf (eL (cL cI) a.Order) ty37 rfl) (fN rfl mv (fN rfl (EvN.ixL sl37 rfl rfl g21 (fun _=>rfl)) (fN rfl (lf (eL cI (a.Order.getD s17.toNat default)) ty23 rfl) (fN rfl mv (jD h fun g29 h=>fN rfl (EvN.ixL sl23 rfl rfl g29 (fun _=>rfl)) (fN rfl (lf (I ((a.Order.getD s17.toNat default).getD s26.toNat default)) ty3 rfl) (fN rfl (fa fs43 rfl) (fN rfl (lf (eL (cL cI) b.Order) ty37 rfl) ?_))))))))))))))
         refine fN rfl mv (fN rfl (EvN.ixL sl37 rfl rfl g22 (fun _=>rfl)) (fN rfl (lf (eL cI (b.Order.getD s17.toNat default)) ty23 rfl) (fN rfl mv (jD h fun g30 h=>fN rfl (EvN.ixL sl23 rfl rfl g30 (fun _=>rfl)) (fN rfl (lf (I ((b.Order.getD s17.toNat default).getD s26.toNat default)) ty3 rfl) (fN rfl (EvN.ine rfl rfl) (TF.nil ?_)))))))
         refine T.ifH rfl h (fun q31 h => ?_) (fun q31 h => ?_)
         ·refine T.seq (T.clean (H0:=[]) (e0:=envOf []) rfl wkN (T.region (oN as' (TO.nil (T.ret (lX h fun h => ?_))))))
          obtain rfl:=osj h
          replace h:=congrArg some (show _=_ from ks20)
          refine lX h fun h => ?_
          obtain rfl:=osj h
          replace h:=congrArg some (show _=_ from ks14)
          obtain rfl:=osj h
          exact finR rfl rfl rfl
         ·refine T.skip (T.clean (H0:=[]) (e0:=envOf [(7,I s26),(6,I s17),(3,.fp (ZEx.c b) 0),(2,.fp (ZEx.c a) 0)]) rfl (wkC rfl (wkC rfl (wkC rfl (wkC rfl wkN)))) (T.region (oN mv (jW h fun g32 h=>oN (EvN.add rfl rfl g32) (oN as' (TO.nil ?_))))))
          exact lE h (kw rfl rfl)
        ·refine T.exit (lX h fun h => ?_)
         obtain rfl:=osj h
         exact ⟨(),(),ks20,trivial,kw rfl rfl⟩
     ·refine T.exit (lX h fun h => ?_)
      obtain rfl:=osj h
      exact ⟨(),(),ks14,trivial,kw rfl rfl⟩
   ·refine T.sr (oN as' (TO.nil (T.block ?_)))
    refine T.lU h (fun s7=>[(5,I s7),(3,.fp (ZEx.c b) 0),(2,.fp (ZEx.c a) 0)]) (fun s7=>[]) (kw rfl rfl) (fun s7 ws7 h => ?_)
    refine T.seq (T.sr (oN mv (oN (fa fs43 rfl) (oN (lf (eL cI a.From) ty23 rfl) (oN (EvN.lenL sl23 rfl) (oN (EvN.ilt rfl rfl) (TO.nil ?_)))))))
    refine T.ifH rfl h (fun q9 h => ?_) (fun q9 h => ?_)
    ·refine T.skip (T.seq (T.block (T.seq (T.drawF (fun _=>([],false)) (by kernel_rfl) (by kernel_rfl) (fN rfl (fa fs43 rfl) (fN rfl (lf (eL cI a.From) ty23 rfl) (fN rfl mv (jD h fun g10 h=>fN rfl (EvN.ixL sl23 rfl rfl g10 (fun _=>rfl)) (fN rfl (lf (I (a.From.getD s7.toNat default)) ty3 rfl) (fN rfl (fa fs43 rfl) (fN rfl (lf (eL cI b.From) ty23 rfl) (fN rfl mv (jD h fun g11 h=>fN rfl (EvN.ixL sl23 rfl rfl g11 (fun _=>rfl)) ?_)))))))))))))
     refine fN rfl (lf (I (b.From.getD s7.toNat default)) ty3 rfl) (fN rfl (EvN.ine rfl rfl) (TF.nil ?_))
     refine T.ifH rfl h (fun q12 h => ?_) (fun q12 h => ?_)
     ·refine T.seq (T.clean (H0:=[]) (e0:=envOf []) rfl wkN (T.region (oN as' (TO.nil (T.ret (lX h fun h => ?_))))))
      obtain rfl:=osj h
      replace h:=congrArg some (show _=_ from ks4)
      obtain rfl:=osj h
      exact finR rfl rfl rfl
     ·refine T.skip (T.clean (H0:=[]) (e0:=envOf [(5,I s7),(3,.fp (ZEx.c b) 0),(2,.fp (ZEx.c a) 0)]) rfl (wkC rfl (wkC rfl (wkC rfl wkN))) (T.region (oN mv (jW h fun g13 h=>oN (EvN.add rfl rfl g13) (oN as' (TO.nil ?_))))))
      exact lE h (kw rfl rfl)
    ·refine T.exit (lX h fun h => ?_)
     obtain rfl:=osj h
     exact ⟨(),(),ks4,trivial,kw rfl rfl⟩
theorem F_spec_SameTrace_P (p:List (List ZIn)) (a:List Int) (b:List Int) {q:Bool} (h:F_spec_SameTrace p a b=some q):PCall Try.prog 30 [eL (cL ZIn.c) p,eL cI a,eL cI b] (Bo q):=by
 refine pM Try.func30 rfl (by kernel_rfl) rfl (T.sr (oN as' (TO.nil (T.sr (oN mv (oN mv (oC h (fun _=>F_spec_ExecOf_P _ _) rfl rfl rfl rfl fun v1 _ h=>oN mv (oN (EvN.ext (.agg (ZEx.c v1.1)) rfl rfl) (oN (EvN.ext (Bo v1.2) rfl rfl) (oA (EvA.al zs43 rfl rfl) (oV (sr (ZEx.c v1.1) ty43 rfl rfl rfl rfl) (oN as' (TO.nil (T.sr ?_))))))))))))))
 refine oN mv (oN mv (oC h (fun _=>F_spec_ExecOf_P _ _) rfl rfl rfl rfl fun v2 _ h=>oN mv (oN (EvN.ext (.agg (ZEx.c v2.1)) rfl rfl) (oN (EvN.ext (Bo v2.2) rfl rfl) (oA (EvA.al zs43 rfl rfl) (oV (sr (ZEx.c v2.1) ty43 rfl rfl rfl rfl) (oN as' (TO.nil (T.seq (T.clean (H0:=[some ⟨0,2,43,[(ZEx.c v1.1)]⟩,some ⟨0,2,43,[(ZEx.c v2.1)]⟩]) (e0:=envOf [(10,Bo v2.2),(9,.hp 1 0 2 0 0),(8,Bo v1.2),(7,.hp 0 0 2 0 0)]) rfl (wkC rfl (wkC rfl (wkC rfl (wkC rfl wkN)))) (T.region (oN mv (oN mv ?_)))))))))))))
 refine TO.jB h 2 (fun s3=>[(26,Bo s3),(9,.hp 1 0 2 0 0),(7,.hp 0 0 2 0 0)]) (fun s3=>[some ⟨0,2,43,[(ZEx.c v1.1)]⟩,some ⟨0,2,43,[(ZEx.c v2.1)]⟩]) (fun s3 q4 h js3 => ?_) (fun s3 q4 h js3 => ?_) (fun s3 h => ?_)
 ·refine gN rfl q4 mv (oN (EvN.pickT rfl q4 (Bo v2.2) rfl) ?_)
  obtain rfl:=osj h
  exact js3 _ _ (kw rfl rfl)
 ·refine gS rfl q4 (oN (EvN.pickF rfl q4 (Bo false) rfl) ?_)
  obtain rfl:=osj h
  exact js3 _ _ (kw rfl rfl)
 ·refine oN mv ?_
  refine TO.jB h 4 (fun s5=>[(31,Bo s5)]) (fun s5=>[some ⟨0,2,43,[(ZEx.c v1.1)]⟩,some ⟨0,2,43,[(ZEx.c v2.1)]⟩]) (fun s5 q6 h js5 => ?_) (fun s5 q6 h js5 => ?_) (fun s5 h => ?_)
  ·refine gA rfl q6 (lh (.agg (ZEx.c v1.1)) ty43 rfl rfl rfl) (gA rfl q6 (lh (.agg (ZEx.c v2.1)) ty43 rfl rfl rfl) (jB h fun v7 cv7 h=>gN rfl q6 (EvN.call rfl rfl rfl (F_spec_ExecSame_P (⟨v1.1.From,v1.1.Order⟩:ZEx) (⟨v2.1.From,v2.1.Order⟩:ZEx) cv7) rfl) (oN (EvN.pickT rfl q6 (Bo v7) rfl) ?_)))
   obtain rfl:=osj h
   exact js5 _ _ (kw rfl rfl)
  ·refine gS rfl q6 (gS rfl q6 (gS rfl q6 (oN (EvN.pickF rfl q6 (Bo false) rfl) ?_)))
   obtain rfl:=osj h
   exact js5 _ _ (kw rfl rfl)
  ·refine oN as' (TO.nil (T.ret ?_))
   obtain rfl:=osj h
   exact finR rfl rfl rfl
theorem F_impl_newSeq_P (p:List (List ZIn)) {q:ZSq} (h:F_impl_newSeq p=some q):PCall Try.prog 78 [eL (cL ZIn.c) p] (.ifc 149 (.fp (ZSq.c q) 0)):=by
 refine pM Try.func78 rfl (by kernel_rfl) rfl (T.sr (oN as' (TO.nil (T.sr (oN mv (oN (EvN.build [eL (cL ZIn.c) p,Y (0:Int),Y (0:Int),Y (0:Int),Y (0:Int),Y (0:Int),Y (0:Int),Y (0:Int),Y (0:Int),Y (0:Int),Y (0:Int),Y (0:Int),Y (0:Int),Y (0:Int),Y (0:Int),Y (0:Int)] Try.underlying111 zs111 fs111 rfl rfl) (oN (EvN.build [eL (cL ZIn.c) p,Y (0:Int),Y (0:Int),Y (0:Int),Y (0:Int),Y (0:Int),Y (0:Int),Y (0:Int),Y (0:Int),Y (0:Int),Y (0:Int),Y (0:Int),Y (0:Int),Y (0:Int),Y (0:Int),Y (0:Int)] Try.underlying151 zs151 fs151 rfl rfl) (oN (EvN.bxF [eL (cL ZIn.c) p,Y (0:Int),Y (0:Int),Y (0:Int),Y (0:Int),Y (0:Int),Y (0:Int),Y (0:Int),Y (0:Int),Y (0:Int),Y (0:Int),Y (0:Int),Y (0:Int),Y (0:Int),Y (0:Int),Y (0:Int)] rfl rfl rfl) (oN (EvN.mkifc (.fp (ZSq.c (⟨(⟨p,(⟨(0:Int),(0:Int),(0:Int)⟩:Z3b),(⟨(⟨(0:Int),(0:Int),(0:Int)⟩:Z3b),(⟨(0:Int),(0:Int),(0:Int)⟩:Z3b),(⟨(0:Int),(0:Int),(0:Int)⟩:Z3b)⟩:Z33),(⟨(0:Int),(0:Int),(0:Int)⟩:Z3b)⟩:ZVa)⟩:ZSq)) 0) Try.underlying149 (fun _ h=>nomatch h) rfl) (oN as' (TO.nil (T.ret ?_))))))))))))
 obtain rfl:=osj h
 exact finR rfl rfl rfl
theorem F_impl_values_next_P (v:ZVa) (t:Int) {q:ZIn×Bool} (h:F_impl_values_next v t=some q):PCall Try.prog 215 [.fp (ZVa.c v) 0,I t] (.tup [.agg (ZIn.c q.1),Bo q.2]):=by
 refine pM Try.func215 rfl (by kernel_rfl) rfl (T.sr (oA (EvA.al zs56 rfl rfl) (oN as' (TO.nil (T.seq (T.seq (T.drawF (fun _=>([],false)) (by kernel_rfl) (by kernel_rfl) (fN rfl mv (fN rfl mv (fN rfl (nl rfl) (fN rfl (EvN.fafpS 3 Try.underlying111 rfl (by kernel_rfl) rfl rfl (row2:=Z3b.c v.pc)) (jD h fun g1 h=>fN rfl (EvN.ixafp Try.underlying108 ty5 rfl rfl g1) (fN rfl (lf1 (fun z0=>Y (Z3b.get v.pc z0)) g1 ty5 rfl rfl rfl rfl) (jW h fun g2 h => ?_))))))))))))))
 refine fN rfl (EvN.iconv ty5.und Try.underlying3 rfl g2) (fN rfl mv (fN rfl (nl rfl) (fN rfl (fa fs111 rfl) (fN rfl (lf (eL (cL ZIn.c) v.p) ty27 rfl) (fN rfl mv (jD h fun g3 h=>fN rfl (EvN.ixL sl27 rfl rfl g3 (fun _=>rfl)) (fN rfl (lf (eL ZIn.c (v.p.getD t.toNat default)) ty57 rfl) (fN rfl (EvN.lenL sl57 rfl) (fN rfl (EvN.ige rfl rfl) (TF.nil ?_))))))))))
 refine T.ifH rfl h (fun q4 h => ?_) (fun q4 h => ?_)
 ·refine T.seq (T.clean (H0:=[some ⟨0,4,56,[[I (0:Int),I (0:Int),I (0:Int),I (0:Int)]]⟩]) (e0:=envOf [(4,.hp 0 0 4 0 0)]) rfl (wkC rfl wkN) (T.region (oN (EvN.build [I (0:Int),I (0:Int),I (0:Int),I (0:Int)] Try.underlying56 zs56 fs56 rfl rfl) (oV (sr [I (0:Int),I (0:Int),I (0:Int),I (0:Int)] ty56 rfl rfl rfl rfl) (oN as' (TO.nil (T.ret ?_)))))))
  obtain rfl:=osj h
  repeat (first|refine retS ?_|refine retB ?_)
  exact Fin.ret (vs:=[.agg [I (0:Int),I (0:Int),I (0:Int),I (0:Int)],Bo false]) (.cons (.cell (.agg [I (0:Int),I (0:Int),I (0:Int),I (0:Int)]) ty56 rfl rfl rfl rfl rfl rfl) (.cons (.tmp rfl) .nil)) (.tupL (.cons (.of_isF 9 _ rfl) (.cons (.of_isF 9 _ rfl) .nil)))
 ·refine T.skip (T.seq (T.clean (H0:=[some ⟨0,4,56,[[I (0:Int),I (0:Int),I (0:Int),I (0:Int)]]⟩]) (e0:=envOf [(4,.hp 0 0 4 0 0),(0,.fp (ZVa.c v) 0),(1,I t)]) rfl (wkC rfl (wkC rfl (wkC rfl wkN))) (T.drawF (fun i=>[([],false),([],false),([],false),([],false),([],false),([],false),([],false),([],false),([],false),([],false),([],false),([],false),([],false),([],false),([],false),([0],true),([],false)].getD i ([],false)) (by kernel_rfl) (by kernel_rfl) (fN rfl mv (fN rfl (nl rfl) (fN rfl (fa fs111 rfl) (fN rfl (lf (eL (cL ZIn.c) v.p) ty27 rfl) (fN rfl mv (fN rfl (EvN.ixL sl27 rfl rfl g3 (fun _=>rfl)) (fN rfl (lf (eL ZIn.c (v.p.getD t.toNat default)) ty57 rfl) (fN rfl mv (fN rfl mv (fN rfl (nl rfl) (fN rfl (EvN.fafpS 3 Try.underlying111 rfl (by kernel_rfl) rfl rfl (row2:=Z3b.c v.pc)) (fN rfl (EvN.ixafp Try.underlying108 ty5 rfl rfl g1) ?_)))))))))))))))
  refine fN rfl (lf1 (fun z0=>Y (Z3b.get v.pc z0)) g1 ty5 rfl rfl rfl rfl) (jD h fun g5 h=>fN rfl (EvN.ixL sl57 rfl rfl g5 (fun _=>rfl)) (fN rfl (lf (.agg (ZIn.c ((v.p.getD t.toNat default).getD (Z3b.get v.pc t).toNat default))) ty56 rfl) (fV 0 [] rfl rfl (fun G hG=>EvA.st (cs:=(ZIn.c ((v.p.getD t.toNat default).getD (Z3b.get v.pc t).toNat default))) ⟨0,4,56,[(ZIn.c ((v.p.getD t.toNat default).getD (Z3b.get v.pc t).toNat default))]⟩ ty56 rfl rfl (hG.a0 rfl) rfl rfl rfl rfl rfl rfl) (fN rfl as' (TF.nil (T.ret ?_))))))
  obtain rfl:=osj h
  repeat (first|refine retS ?_|refine retB ?_)
  exact Fin.ret (vs:=[.agg (ZIn.c ((v.p.getD t.toNat default).getD (Z3b.get v.pc t).toNat default)),Bo true]) (.cons (.cell (.agg (ZIn.c ((v.p.getD t.toNat default).getD (Z3b.get v.pc t).toNat default))) ty56 rfl rfl rfl rfl rfl rfl) (.cons (.tmp rfl) .nil)) (.tupL (.cons (.of_isF 9 _ rfl) (.cons (.of_isF 9 _ rfl) .nil)))
theorem F_impl_seq_moves_P (s:ZSq) {q:(List Int)} (h:F_impl_seq_moves s=some q):PCall Try.prog 214 [.fp (ZSq.c s) 0] (eL cI q):=by
 refine pM Try.func214 rfl (by kernel_rfl) rfl (T.sr (oN as' (TO.nil (T.seq (T.reserve (T.region (oN (EvN.asg (hS true 0 0 1 (([]:List Int).length)) rfl) (TO.nil ?_))))))))
 refine T.jF (G:=(Bool×Nat)) h (fun s1 gh=>(gh.1=true->s1=[])) (fun s1 gh=>[(3,hS gh.1 0 gh.2 1 s1.length)]) (fun s1 gh=>[bE gh.1 gh.2 1 3 (s1.map cI)]) (fun s1 gh h n23 => ?_) (fun s1 h => ?_)
 ·obtain ⟨b22,u21⟩:=gh
  refine T.sr (oN mv (oN (EvN.asg (hS b22 0 u21 1 s1.length) rfl) (TO.nil (T.ret ?_))))
  obtain rfl:=osj h
  repeat (first|refine retS ?_|refine retB ?_)
  exact Fin.ret (vs:=[hS b22 0 u21 1 s1.length]) (.cons (.tmp rfl) .nil) (Fz.own (g:=b22) (ver:=u21) (l:=s1) rfl rfl rfl n23 (fun _=>rfl))
 ·refine T.sr (oN mv (oN (nl rfl) (oN (EvN.fafpS 16 Try.underlying151 rfl (by kernel_rfl) rfl rfl (row2:=ZVa.c s.values)) (oN (fa fs111 rfl) (oN (lf (eL (cL ZIn.c) s.values.p) ty27 rfl) (oN (EvN.lenL sl27 rfl) (oN mv (TO.nil (T.block ?_)))))))))
  refine T.loop (S:=(List Int)×Int) (G:=(Bool×Nat)) (F_impl_seq_moves_L8 s) (fun s7 gh=>(gh.1=true->s7.1=[])) (fun s7 gh=>[(13,I s7.2),(12,I (s.values.p.length:Int)),(3,hS gh.1 0 gh.2 1 s7.1.length),(0,.fp (ZSq.c s) 0)]) (fun s7 gh=>[bE gh.1 gh.2 1 3 (s7.1.map cI)]) (s0:=(([]:List Int),(0:Int))) (true,0) h (fun _=>rfl) (kw rfl rfl) (fun s7 gh ws7 h n11 => ?_)
  obtain ⟨b10,u9⟩:=gh
  refine T.sr (oN (EvN.ilt rfl rfl) (TO.nil (T.seq ?_)))
  refine T.ifH rfl h (fun q12 h => ?_) (fun q12 h => ?_)
  ·refine T.skip ?_
   refine T.jF (G:=(Bool×Nat)) h (fun s13 gh=>(gh.1=true->s13=[])) (fun s13 gh=>[(3,hS gh.1 0 gh.2 1 s13.length),(13,I s7.2),(12,I (s.values.p.length:Int)),(0,.fp (ZSq.c s) 0)]) (fun s13 gh=>[bE gh.1 gh.2 1 3 (s13.map cI)]) (fun s13 gh h n19 => ?_) (fun s13 h => ?_)
   ·obtain ⟨b18,u17⟩:=gh
    refine T.region (jW h fun g20 h=>oN (EvN.add rfl rfl g20) (oN mv (TO.nil ?_)))
    obtain rfl:=osj h
    exact ⟨(s13,(s7.2+(1:Int))),(b18,u17),rfl,n19,kw rfl rfl⟩
   ·refine T.block (T.sr (oN mv (oN as' (TO.nil (T.sr (oN mv (oN (nl rfl) (oN (EvN.fafpS 16 Try.underlying151 rfl (by kernel_rfl) rfl rfl (row2:=ZVa.c s.values)) (oN mv (oC h (fun _=>F_impl_values_next_P _ _) rfl rfl rfl rfl fun v14 _ h=>oN mv (oN (EvN.ext (.agg (ZIn.c v14.1)) rfl rfl) (oN (EvN.ext (Bo v14.2) rfl rfl) (oA (EvA.al zs56 rfl rfl) (oV (sr (ZIn.c v14.1) ty56 rfl rfl rfl rfl) ?_))))))))))))))
    refine oN as' (TO.nil (T.sr (oN mv (TO.nil ?_))))
    refine T.ifH rfl h (fun q15 h => ?_) (fun q15 h => ?_)
    ·refine T.region (oN mv (oN mv (oN (EvN.mkF (c:=cI) ([s7.2]:List Int) [[I s7.2]] sl23 rfl rfl rfl (fun _=>rfl) (fun _=>rfl) rfl) (jL h fun g16 h=>oA (EvA.app1 (g:=b10) (l:=s7.1) s7.2 sl23 (by kernel_rfl) rfl rfl rfl n11 (SrcOk.fz (l:=([s7.2]:List Int)) rfl (fun _=>rfl)) g16) (oN (EvN.asg (hS false 0 (u9+1) 1 ((s7.1++[s7.2]).length)) rfl) (TO.nil ?_))))))
     obtain rfl:=osj h
     exact ⟨(false,u9+1),nofun,cutS rfl (.cons (.list (g:=false) (ver:=u9+1) (l:=(s7.1++[s7.2])) (fun _=>rfl)) .nil) (stl_cons (.hS (g:=false) (b:=0) (ver:=u9+1) (s:=1) (n:=(s7.1++[s7.2]).length) rfl) (stl_cons (.fz (.of_isF 9 _ rfl)) (stl_cons (.fz (.of_isF 9 _ rfl)) (stl_cons (.fz (.of_isF 9 _ rfl)) stl_nil))))⟩
    ·refine T.skip ?_
     obtain rfl:=osj h
     exact ⟨(b10,u9),n11,cutS rfl (.cons (.list (g:=b10) (ver:=u9) (l:=s7.1) (fun _=>rfl)) .nil) (stl_cons (.hS (g:=b10) (b:=0) (ver:=u9) (s:=1) (n:=s7.1.length) rfl) (stl_cons (.fz (.of_isF 9 _ rfl)) (stl_cons (.fz (.of_isF 9 _ rfl)) (stl_cons (.fz (.of_isF 9 _ rfl)) stl_nil))))⟩
  ·refine T.exit (lX h fun h => ?_)
   obtain rfl:=osj h
   exact ⟨(b10,u9),n11,kw rfl rfl⟩
theorem F_slices_Index_int_int_P (s:List Int) (v:Int) {q:Int} (h:F_slices_Index_int_int s v=some q):PCall Try.prog 148 [eL cI s,I v] (I q):=by
 refine pM Try.func148 rfl (by kernel_rfl) rfl (T.sr (oN as' (TO.nil ?_)))
 obtain ⟨Ks1,es1,ws1,h,ks1⟩:=sumL h
 refine T.join (S:=Unit) (G:=Unit) (fun s1=>Ks1 s1=some q) (fun s1 gh=>True) (fun s1 gh=>[]) (fun s1 gh=>[]) (fun s1 gh h hg => ?_) ?_
 ·clear ks1
  subst es1
  refine T.sr (oN as' (TO.nil (T.ret ?_)))
  obtain rfl:=osj h
  exact finR rfl rfl rfl
 ·refine T.sr (oN mv (oN (EvN.lenL sl23 rfl) (oN mv (TO.nil (T.block ?_)))))
  refine T.lU h (fun s4=>[(8,I s4),(7,I (s.length:Int)),(0,eL cI s),(1,I v)]) (fun s4=>[]) (kw rfl rfl) (fun s4 ws4 h => ?_)
  refine T.sr (oN (EvN.ilt rfl rfl) (TO.nil (T.seq ?_)))
  refine T.ifH rfl h (fun q6 h => ?_) (fun q6 h => ?_)
  ·refine T.skip (T.seq (T.block (T.sr (oN mv (oN as' (TO.nil (T.sr (oN mv (oN mv (oN mv (jD h fun g7 h=>oN (EvN.ixL sl23 rfl rfl g7 (fun _=>rfl)) (oN (lf (I (s.getD s4.toNat default)) ty3 rfl) (oN (EvN.ieq rfl rfl) (TO.nil ?_))))))))))))))
   refine T.ifH rfl h (fun q8 h => ?_) (fun q8 h => ?_)
   ·refine T.sr (oN mv (oN as' (TO.nil (T.ret (lX h fun h => ?_)))))
    obtain rfl:=osj h
    replace h:=congrArg some (show _=_ from ks1)
    obtain rfl:=osj h
    exact finR rfl rfl rfl
   ·refine T.skip (T.region (jW h fun g9 h=>oN (EvN.add rfl rfl g9) (oN mv (TO.nil ?_))))
    exact lE h (kw rfl rfl)
  ·refine T.exit (lX h fun h => ?_)
   obtain rfl:=osj h
   exact ⟨(),(),ks1,trivial,kw rfl rfl⟩
theorem F_slices_Contains_int_int_P (s:List Int) (v:Int) {q:Bool} (h:F_slices_Contains_int_int s v=some q):PCall Try.prog 111 [eL cI s,I v] (Bo q):=by
 refine pM Try.func111 rfl (by kernel_rfl) rfl (T.sr (oN as' (TO.nil (T.sr (oN mv (oN mv (oC h (fun _=>F_slices_Index_int_int_P _ _) rfl rfl rfl rfl fun v1 _ h=>oN (EvN.ige rfl rfl) (oN as' (TO.nil (T.ret ?_))))))))))
 obtain rfl:=osj h
 exact finR rfl rfl rfl
theorem F_impl_values_stored_P (v:ZVa) (t:Int) (x:ZIn) {q:Int} (h:F_impl_values_stored v t x=some q):PCall Try.prog 216 [.fp (ZVa.c v) 0,I t,.agg (ZIn.c x)] (Y q):=by
 refine pM Try.func216 rfl (by kernel_rfl) rfl (T.sr (oN (EvN.bxF (ZIn.c x) rfl rfl rfl) (oN as' (TO.nil (T.seq (T.sr (oN (fa fs56 rfl) (oN (lf (I x.Op) ty3 rfl) (oN (EvN.ieq rfl rfl) (TO.nil ?_))))))))))
 refine T.ifH rfl h (fun q1 h => ?_) (fun q1 h => ?_)
 ·refine T.seq (T.drawF (fun _=>([],false)) (by kernel_rfl) (by kernel_rfl) (fN rfl mv (fN rfl mv (fN rfl (fa fs56 rfl) (fN rfl (lf (I x.Reg) ty3 rfl) (fN rfl (nl rfl) (fN rfl (EvN.fafpS 9 Try.underlying111 rfl (by kernel_rfl) rfl rfl (row2:=Z33.c v.reg)) (jD h fun g2 h=>fN rfl (EvN.ixafp Try.underlying109 ty108 rfl rfl g2) (jD h fun g3 h=>fN rfl (EvN.ixafp Try.underlying108 ty5 rfl rfl g3) (fN rfl (lf2 (fun z0 z1=>Y (Z3b.get (Z33.get v.reg z0) z1)) g2 g3 ty5 rfl ⟨rfl,rfl,rfl,rfl,rfl,rfl,rfl,rfl,rfl⟩) (fN rfl as' (TF.nil (T.ret ?_)))))))))))))
  obtain rfl:=osj h
  exact finR rfl rfl rfl
 ·refine T.skip (T.sr (oN (fa fs56 rfl) (oN (lf (I x.Val) ty3 rfl) (jW h fun g4 h=>oN (EvN.iconv ty3.und Try.underlying5 rfl g4) (oN as' (TO.nil (T.ret ?_)))))))
  obtain rfl:=osj h
  exact finR rfl rfl rfl
theorem F_impl_Instr_reads_P (x:ZIn) {q:Bool} (h:F_impl_Instr_reads x=some q):PCall Try.prog 122 [.agg (ZIn.c x)] (Bo q):=by
 refine pM Try.func122 rfl (by kernel_rfl) rfl (T.sr (oN (EvN.bxF (ZIn.c x) rfl rfl rfl) (oN as' (TO.nil (T.sr (oN (fa fs56 rfl) (oN (lf (I x.Op) ty3 rfl) (oN (EvN.ieq rfl rfl) (oN mv ?_)))))))))
 refine TO.jB h 4 (fun s1=>[(10,Bo s1)]) (fun s1=>[]) (fun s1 q2 h js1 => ?_) (fun s1 q2 h js1 => ?_) (fun s1 h => ?_)
 ·refine gS rfl q2 (gS rfl q2 (gS rfl q2 (oN (EvN.pickT rfl q2 (Bo true) rfl) ?_)))
  obtain rfl:=osj h
  exact js1 _ _ (kw rfl rfl)
 ·refine gN rfl q2 (fa fs56 rfl) (gN rfl q2 (lf (I x.Op) ty3 rfl) (gN rfl q2 (EvN.ieq rfl rfl) (oN (EvN.pickF rfl q2 (Bo (x.Op==(5:Int))) rfl) ?_)))
  obtain rfl:=osj h
  exact js1 _ _ (kw rfl rfl)
 ·refine oN as' (TO.nil (T.ret ?_))
  obtain rfl:=osj h
  exact finR rfl rfl rfl
theorem F_impl_Instr_writes_P (x:ZIn) {q:Bool} (h:F_impl_Instr_writes x=some q):PCall Try.prog 123 [.agg (ZIn.c x)] (Bo q):=by
 refine pM Try.func123 rfl (by kernel_rfl) rfl (T.sr (oN (EvN.bxF (ZIn.c x) rfl rfl rfl) (oN as' (TO.nil (T.sr (oN (fa fs56 rfl) (oN (lf (I x.Op) ty3 rfl) (oN (EvN.ieq rfl rfl) (oN mv ?_)))))))))
 refine TO.jB h 4 (fun s1=>[(10,Bo s1),(1,.fp (ZIn.c x) 0)]) (fun s1=>[]) (fun s1 q2 h js1 => ?_) (fun s1 q2 h js1 => ?_) (fun s1 h => ?_)
 ·refine gS rfl q2 (gS rfl q2 (gS rfl q2 (oN (EvN.pickT rfl q2 (Bo true) rfl) ?_)))
  obtain rfl:=osj h
  exact js1 _ _ (kw rfl rfl)
 ·refine gN rfl q2 (fa fs56 rfl) (gN rfl q2 (lf (I x.Op) ty3 rfl) (gN rfl q2 (EvN.ieq rfl rfl) (oN (EvN.pickF rfl q2 (Bo (x.Op==(3:Int))) rfl) ?_)))
  obtain rfl:=osj h
  exact js1 _ _ (kw rfl rfl)
 ·refine oN mv ?_
  refine TO.jB h 4 (fun s3=>[(15,Bo s3)]) (fun s3=>[]) (fun s3 q4 h js3 => ?_) (fun s3 q4 h js3 => ?_) (fun s3 h => ?_)
  ·refine gS rfl q4 (gS rfl q4 (gS rfl q4 (oN (EvN.pickT rfl q4 (Bo true) rfl) ?_)))
   obtain rfl:=osj h
   exact js3 _ _ (kw rfl rfl)
  ·refine gN rfl q4 (fa fs56 rfl) (gN rfl q4 (lf (I x.Op) ty3 rfl) (gN rfl q4 (EvN.ieq rfl rfl) (oN (EvN.pickF rfl q4 (Bo (x.Op==(5:Int))) rfl) ?_)))
   obtain rfl:=osj h
   exact js3 _ _ (kw rfl rfl)
  ·refine oN as' (TO.nil (T.ret ?_))
   obtain rfl:=osj h
   exact finR rfl rfl rfl
theorem F_impl_seq_after_P (s:ZSq) (t:Int) {q:ZSq} (h:F_impl_seq_after s t=some q):PCall Try.prog 210 [.fp (ZSq.c s) 0,I t] (.ifc 149 (.fp (ZSq.c q) 0)):=by
 refine pM Try.func210 rfl (by kernel_rfl) rfl (T.sr (oN as' (TO.nil (T.sr (oN mv (oN (nl rfl) (oN (lf (.agg (ZSq.c s)) ty151 rfl) (oA (EvA.al zs151 rfl rfl) (oV (sr (ZSq.c (⟨s.values⟩:ZSq)) ty151 rfl rfl rfl rfl) (TO.nil (T.sr (oN mv (oN (nl rfl) (oN (EvN.fafpS 16 Try.underlying151 rfl (by kernel_rfl) rfl rfl (row2:=ZVa.c s.values)) (oN mv ?_)))))))))))))))
 refine oC h (fun _=>F_impl_values_next_P _ _) rfl rfl rfl rfl fun v1 _ h=>oN mv (oN (EvN.ext (.agg (ZIn.c v1.1)) rfl rfl) (oN (EvN.ext (Bo v1.2) rfl rfl) (oA (EvA.al zs56 rfl rfl) (oV (sr [I v1.1.Op,I v1.1.Loc,I v1.1.Reg,I v1.1.Val] ty56 rfl rfl rfl rfl) (oN as' (TO.nil (T.sr (oN mv (oN (fa fs151 rfl) (oN (fa fs111 rfl) (jD h fun g2 h=>oN (EvN.ixahp Try.underlying108 ty5 rfl rfl g2) (oA (lh1 (fun z0=>Y (Z3b.get s.values.pc z0)) g2 ty5 rfl rfl rfl rfl rfl) (jW h fun g3 h => ?_)))))))))))))
 refine oN (EvN.add rfl rfl g3) (oN (fa fs151 rfl) (oN (fa fs111 rfl) (oN (EvN.ixahp Try.underlying108 ty5 rfl rfl g2) (oV (sr1 (fun z0=>(ZSq.c (⟨(⟨s.values.p,(Z3b.set s.values.pc z0 ((Z3b.get s.values.pc t)+(1:Int))),s.values.reg,s.values.mem⟩:ZVa)⟩:ZSq))) g2 ty5 rfl rfl rfl rfl rfl rfl) (TO.nil (T.seq (T.clean (H0:=[some ⟨0,16,151,[(ZSq.c (⟨(⟨s.values.p,(Z3b.set s.values.pc t ((Z3b.get s.values.pc t)+(1:Int))),s.values.reg,s.values.mem⟩:ZVa)⟩:ZSq))]⟩,some ⟨0,4,56,[[I v1.1.Op,I v1.1.Loc,I v1.1.Reg,I v1.1.Val]]⟩]) (e0:=envOf [(6,.hp 1 0 4 0 0),(5,.hp 0 0 16 0 0),(0,.fp (ZSq.c s) 0),(1,I t)]) rfl (wkC rfl (wkC rfl (wkC rfl (wkC rfl wkN)))) (T.drawF (fun i=>[([],false),([],false),([],false),([],false),([1],false),([],false),([],false)].getD i ([],false)) (by kernel_rfl) (by kernel_rfl) (fN rfl mv (fN rfl (nl rfl) (fN rfl (EvN.fafpS 16 Try.underlying151 rfl (by kernel_rfl) rfl rfl (row2:=ZVa.c s.values)) (fN rfl mv (fR [1] rfl (fun G hG=>EvA.loadhp (.agg [I v1.1.Op,I v1.1.Loc,I v1.1.Reg,I v1.1.Val]) ty56 rfl (hG.a0 rfl) rfl rfl rfl rfl) (fC h (fun _=>F_impl_values_stored_P _ _ _) rfl rfl rfl rfl rfl fun v4 _ h=>fN rfl as' ?_))))))))))))))
 refine TF.nil ?_
 refine T.jU h (fun s5=>[(8,Y v4),(6,.hp 1 0 4 0 0),(5,.hp 0 0 16 0 0)]) (fun s5=>[some ⟨0,16,151,[(ZSq.c (⟨(⟨s.values.p,(Z3b.set s.values.pc t ((Z3b.get s.values.pc t)+(1:Int))),(⟨(⟨s5.1,s5.2.1,s5.2.2.1⟩:Z3b),(⟨s5.2.2.2.1,s5.2.2.2.2.1,s5.2.2.2.2.2.1⟩:Z3b),(⟨s5.2.2.2.2.2.2.1,s5.2.2.2.2.2.2.2.1,s5.2.2.2.2.2.2.2.2⟩:Z3b)⟩:Z33),s.values.mem⟩:ZVa)⟩:ZSq))]⟩,some ⟨0,4,56,[[I v1.1.Op,I v1.1.Loc,I v1.1.Reg,I v1.1.Val]]⟩]) (fun s5 h => ?_) (fun s5 h => ?_)
 ·refine T.jU h (fun s10=>[(5,.hp 0 0 16 0 0)]) (fun s10=>[some ⟨0,16,151,[(ZSq.c (⟨(⟨s.values.p,(Z3b.set s.values.pc t ((Z3b.get s.values.pc t)+(1:Int))),(⟨(⟨s5.1,s5.2.1,s5.2.2.1⟩:Z3b),(⟨s5.2.2.2.1,s5.2.2.2.2.1,s5.2.2.2.2.2.1⟩:Z3b),(⟨s5.2.2.2.2.2.2.1,s5.2.2.2.2.2.2.2.1,s5.2.2.2.2.2.2.2.2⟩:Z3b)⟩:Z33),(⟨s10.1,s10.2.1,s10.2.2⟩:Z3b)⟩:ZVa)⟩:ZSq))]⟩,some ⟨0,4,56,[[I v1.1.Op,I v1.1.Loc,I v1.1.Reg,I v1.1.Val]]⟩]) (fun s10 h => ?_) (fun s10 h => ?_)
  ·refine T.sr (oN (EvN.mkifc (.hp 0 0 16 0 0) Try.underlying149 (fun _ h=>nomatch h) rfl) (oN as' (TO.nil (T.ret ?_))))
   obtain rfl:=osj h
   repeat (first|refine retS ?_|refine retB ?_)
   exact Fin.ret (vs:=[.ifc 149 (.hp 0 0 16 0 0)]) (.cons (.tmp rfl) .nil) (.ifc (Fz.fpL (ver:=0) (s:=16) (ty:=151) (rows:=[[eL (cL ZIn.c) s.values.p,Y ((Z3b.set s.values.pc t ((Z3b.get s.values.pc t)+(1:Int))).x0),Y ((Z3b.set s.values.pc t ((Z3b.get s.values.pc t)+(1:Int))).x1),Y ((Z3b.set s.values.pc t ((Z3b.get s.values.pc t)+(1:Int))).x2),Y s5.1,Y s5.2.1,Y s5.2.2.1,Y s5.2.2.2.1,Y s5.2.2.2.2.1,Y s5.2.2.2.2.2.1,Y s5.2.2.2.2.2.2.1,Y s5.2.2.2.2.2.2.2.1,Y s5.2.2.2.2.2.2.2.2,Y s10.1,Y s10.2.1,Y s10.2.2]]) rfl rfl rfl (.cons (.of_isF 9 _ rfl) (.cons (.of_isF 9 _ rfl) (.cons (.of_isF 9 _ rfl) (.cons (.of_isF 9 _ rfl) (.cons (.of_isF 9 _ rfl) (.cons (.of_isF 9 _ rfl) (.cons (.of_isF 9 _ rfl) (.cons (.of_isF 9 _ rfl) (.cons (.of_isF 9 _ rfl) (.cons (.of_isF 9 _ rfl) (.cons (.of_isF 9 _ rfl) (.cons (.of_isF 9 _ rfl) (.cons (.of_isF 9 _ rfl) (.cons (.of_isF 9 _ rfl) (.cons (.of_isF 9 _ rfl) (.cons (.of_isF 9 _ rfl) .nil))))))))))))))))))
  ·refine T.sr (oA (lh (.agg [I v1.1.Op,I v1.1.Loc,I v1.1.Reg,I v1.1.Val]) ty56 rfl rfl rfl) (oC h (fun _=>F_impl_Instr_writes_P _) rfl rfl rfl rfl fun v11 _ h=>TO.nil ?_))
   refine T.ifH rfl h (fun q12 h => ?_) (fun q12 h => ?_)
   ·refine T.region (oN (fa fs56 rfl) (oA (lh (I v1.1.Loc) ty3 rfl rfl rfl) (oN mv (oN (fa fs151 rfl) (oN (fa fs111 rfl) (jD h fun g13 h=>oN (EvN.ixahp Try.underlying108 ty5 rfl rfl g13) (oV (sr1 (fun z0=>(ZSq.c (⟨(⟨s.values.p,(Z3b.set s.values.pc t ((Z3b.get s.values.pc t)+(1:Int))),(⟨(⟨s5.1,s5.2.1,s5.2.2.1⟩:Z3b),(⟨s5.2.2.2.1,s5.2.2.2.2.1,s5.2.2.2.2.2.1⟩:Z3b),(⟨s5.2.2.2.2.2.2.1,s5.2.2.2.2.2.2.2.1,s5.2.2.2.2.2.2.2.2⟩:Z3b)⟩:Z33),(Z3b.set s.values.mem z0 v4)⟩:ZVa)⟩:ZSq))) g13 ty5 rfl rfl rfl rfl rfl rfl) (TO.nil ?_))))))))
    obtain rfl:=osj h
    exact ⟨(),trivial,kw rfl rfl⟩
   ·refine T.skip ?_
    obtain rfl:=osj h
    exact ⟨(),trivial,kw rfl rfl⟩
 ·refine T.sr (oA (lh (.agg [I v1.1.Op,I v1.1.Loc,I v1.1.Reg,I v1.1.Val]) ty56 rfl rfl rfl) (oC h (fun _=>F_impl_Instr_reads_P _) rfl rfl rfl rfl fun v6 _ h=>TO.nil ?_))
  refine T.ifH rfl h (fun q7 h => ?_) (fun q7 h => ?_)
  ·refine T.drawF (fun i=>[([],false),([],false),([1],false),([],false),([],false),([1],false),([],false),([],false),([],false),([],false),([],false),([],false),([],false),([],false),([],false),([0],true)].getD i ([],false)) (by kernel_rfl) (by kernel_rfl) (fN rfl mv (fN rfl (fa fs56 rfl) (fR [1] rfl (fun G hG=>EvA.loadhp (I v1.1.Reg) ty3 rfl (hG.a0 rfl) rfl rfl rfl rfl) (fN rfl mv (fN rfl (fa fs56 rfl) (fR [1] rfl (fun G hG=>EvA.loadhp (I v1.1.Loc) ty3 rfl (hG.a0 rfl) rfl rfl rfl rfl) (fN rfl (nl rfl) (fN rfl (EvN.fafpS 16 Try.underlying151 rfl (by kernel_rfl) rfl rfl (row2:=ZVa.c s.values)) (fN rfl (EvN.fafpS 3 Try.underlying111 rfl (by kernel_rfl) rfl rfl (row2:=Z3b.c s.values.mem)) (jD h fun g8 h=>fN rfl (EvN.ixafp Try.underlying108 ty5 rfl rfl g8) (fN rfl (lf1 (fun z0=>Y (Z3b.get s.values.mem z0)) g8 ty5 rfl rfl rfl rfl) (fN rfl (fa fs151 rfl) (fN rfl (fa fs111 rfl) (fN rfl (EvN.ixahp Try.underlying109 ty108 rfl rfl g2) ?_))))))))))))))
   refine jD h fun g9 h=>fN rfl (EvN.ixahp Try.underlying108 ty5 rfl rfl g9) (fV 0 [] rfl rfl (fun G hG=>sr2 (fun z0 z1=>(ZSq.c (⟨(⟨s.values.p,(Z3b.set s.values.pc t ((Z3b.get s.values.pc t)+(1:Int))),(⟨((Z33.set s.values.reg z0 (Z3b.set (Z33.get s.values.reg z0) z1 (Z3b.get s.values.mem v1.1.Loc))).x0),((Z33.set s.values.reg z0 (Z3b.set (Z33.get s.values.reg z0) z1 (Z3b.get s.values.mem v1.1.Loc))).x1),((Z33.set s.values.reg z0 (Z3b.set (Z33.get s.values.reg z0) z1 (Z3b.get s.values.mem v1.1.Loc))).x2)⟩:Z33),s.values.mem⟩:ZVa)⟩:ZSq))) g2 g9 ty5 rfl rfl (hG.a0 rfl) ⟨rfl,rfl,rfl,rfl,rfl,rfl,rfl,rfl,rfl⟩) (TF.nil ?_))
   obtain rfl:=osj h
   exact ⟨(),trivial,kw rfl rfl⟩
  ·refine T.skip ?_
   obtain rfl:=osj h
   exact ⟨(),trivial,kw rfl rfl⟩
theorem F_impl_follow__impl_seq_P (s:ZSq) (moves:List Int) {q:(Option ZSq)×Bool} (h:F_impl_follow__impl_seq s moves=some q):PCall Try.prog 132 [.ifc 149 (.fp (ZSq.c s) 0),eL cI moves] (.tup [ifO 149 ZSq.c q.1,Bo q.2]):=by
 refine pM Try.func132 rfl (by kernel_rfl) rfl (T.sr (oN as' (oN as' (TO.nil ?_))))
 obtain ⟨Ks1,es1,ws1,h,ks1⟩:=sumL h
 refine T.join (S:=ZSq) (G:=Unit) (fun s1=>Ks1 s1=some q) (fun s1 gh=>True) (fun s1 gh=>[(0,.ifc 149 (.fp (ZSq.c s1) 0))]) (fun s1 gh=>[]) (fun s1 gh h hg => ?_) ?_
 ·clear ks1
  subst es1
  refine T.sr (oN mv (oN as' (oN as' (TO.nil (T.ret ?_)))))
  obtain rfl:=osj h
  repeat (first|refine retS ?_|refine retB ?_)
  exact Fin.ret (vs:=[.ifc 149 (.fp (ZSq.c s1) 0),Bo true]) (.cons (.tmp rfl) (.cons (.tmp rfl) .nil)) (.tupL (.cons (.of_isF 9 _ rfl) (.cons (.of_isF 9 _ rfl) .nil)))
 ·refine T.sr (oN mv (oN (EvN.lenL sl23 rfl) (oN mv (TO.nil (T.block ?_)))))
  refine T.lU h (fun s4=>[(10,I s4.1),(9,I (moves.length:Int)),(8,eL cI moves),(0,.ifc 149 (.fp (ZSq.c s4.2) 0))]) (fun s4=>[]) (kw rfl rfl) (fun s4 ws4 h => ?_)
  refine T.sr (oN (EvN.ilt rfl rfl) (TO.nil (T.seq ?_)))
  refine T.ifH rfl h (fun q6 h => ?_) (fun q6 h => ?_)
  ·refine T.skip (T.seq (T.block (T.sr (jD h fun g7 h=>oN (EvN.ixL sl23 rfl rfl g7 (fun _=>rfl)) (oN (lf (I (moves.getD s4.1.toNat default)) ty3 rfl) (oN as' (TO.nil (T.seq (T.sr (oN mv (jB h fun v8 cv8 h=>oN (EvN.invS 16 rfl rfl (MethT.of (off:=0) (by kernel_rfl)) rfl rfl (F_impl_seq_moves_P s4.2 cv8) rfl) (oN mv (oC h (fun _=>F_slices_Contains_int_int_P _ _) rfl rfl rfl rfl fun v9 _ h => ?_)))))))))))))
   refine oN (EvN.not rfl) (TO.nil ?_)
   refine T.ifH rfl h (fun q10 h => ?_) (fun q10 h => ?_)
   ·refine T.sr (oN as' (oN as' (TO.nil (T.ret (lX h fun h => ?_)))))
    obtain rfl:=osj h
    replace h:=congrArg some (show _=_ from ks1)
    obtain rfl:=osj h
    repeat (first|refine retS ?_|refine retB ?_)
    exact Fin.ret (vs:=[.v .nilIface,Bo false]) (.cons (.tmp rfl) (.cons (.tmp rfl) .nil)) (.tupL (.cons (.of_isF 9 _ rfl) (.cons (.of_isF 9 _ rfl) .nil)))
   ·refine T.skip (T.region (oN mv (oN mv (jB h fun v11 cv11 h=>oN (EvN.invS 16 rfl rfl (MethT.of (off:=0) (by kernel_rfl)) rfl rfl (F_impl_seq_after_P s4.2 (moves.getD s4.1.toNat default) cv11) rfl) (oN as' (TO.nil (T.region (jW h fun g12 h=>oN (EvN.add rfl rfl g12) (oN mv (TO.nil ?_))))))))))
    exact lE h (kw rfl rfl)
  ·refine T.exit (lX h fun h => ?_)
   obtain rfl:=osj h
   exact ⟨s4.2,(),ks1,trivial,kw rfl rfl⟩
theorem F_impl_values_allDone_P (v:ZVa) {q:Bool} (h:F_impl_values_allDone v=some q):PCall Try.prog 211 [.fp (ZVa.c v) 0] (Bo q):=by
 refine pM Try.func211 rfl (by kernel_rfl) rfl (T.sr (oN as' (TO.nil ?_)))
 obtain ⟨Ks1,es1,ws1,h,ks1⟩:=sumL h
 refine T.join (S:=Unit) (G:=Unit) (fun s1=>Ks1 s1=some q) (fun s1 gh=>True) (fun s1 gh=>[]) (fun s1 gh=>[]) (fun s1 gh h hg => ?_) ?_
 ·clear ks1
  subst es1
  refine T.sr (oN as' (TO.nil (T.ret ?_)))
  obtain rfl:=osj h
  exact finR rfl rfl rfl
 ·refine T.sr (oN mv (oN (nl rfl) (oN (fa fs111 rfl) (oN (lf (eL (cL ZIn.c) v.p) ty27 rfl) (oN (EvN.lenL sl27 rfl) (oN mv (TO.nil (T.block ?_))))))))
  refine T.lU h (fun s4=>[(11,I s4),(10,I (v.p.length:Int)),(0,.fp (ZVa.c v) 0)]) (fun s4=>[]) (kw rfl rfl) (fun s4 ws4 h => ?_)
  refine T.sr (oN (EvN.ilt rfl rfl) (TO.nil (T.seq ?_)))
  refine T.ifH rfl h (fun q6 h => ?_) (fun q6 h => ?_)
  ·refine T.skip (T.seq (T.block (T.sr (oN mv (oN as' (TO.nil (T.sr (oN mv (oN mv (oC h (fun _=>F_impl_values_next_P _ _) rfl rfl rfl rfl fun v7 _ h=>oN mv (oN (EvN.ext (.agg (ZIn.c v7.1)) rfl rfl) (oN (EvN.ext (Bo v7.2) rfl rfl) (oA (EvA.al zs56 rfl rfl) (oV (sr (ZIn.c v7.1) ty56 rfl rfl rfl rfl) ?_))))))))))))))
   refine oN as' (TO.nil (T.sr (oN mv (TO.nil ?_))))
   refine T.ifH rfl h (fun q8 h => ?_) (fun q8 h => ?_)
   ·refine T.sr (oN as' (TO.nil (T.ret (lX h fun h => ?_))))
    obtain rfl:=osj h
    replace h:=congrArg some (show _=_ from ks1)
    obtain rfl:=osj h
    exact finR rfl rfl rfl
   ·refine T.skip (T.region (jW h fun g9 h=>oN (EvN.add rfl rfl g9) (oN mv (TO.nil ?_))))
    exact lE h (cutS rfl .nil (stl_cons (.fz (.of_isF 9 _ rfl)) (stl_cons (.fz (.of_isF 9 _ rfl)) (stl_cons (.fz (.of_isF 9 _ rfl)) stl_nil))))
  ·refine T.exit (lX h fun h => ?_)
   obtain rfl:=osj h
   exact ⟨(),(),ks1,trivial,kw rfl rfl⟩
theorem F_impl_seq_done_P (s:ZSq) {q:Bool} (h:F_impl_seq_done s=some q):PCall Try.prog 212 [.fp (ZSq.c s) 0] (Bo q):=by
 refine pM Try.func212 rfl (by kernel_rfl) rfl (T.sr (oN as' (TO.nil (T.sr (oN mv (oN (nl rfl) (oN (EvN.fafpS 16 Try.underlying151 rfl (by kernel_rfl) rfl rfl (row2:=ZVa.c s.values)) (oC h (fun _=>F_impl_values_allDone_P _) rfl rfl rfl rfl fun v1 _ h=>oN as' (TO.nil (T.ret ?_))))))))))
 obtain rfl:=osj h
 exact finR rfl rfl rfl
theorem F_impl_values_outcome_P (v:ZVa) {q:(List Int)} (h:F_impl_values_outcome v=some q):PCall Try.prog 100 [.fp (ZVa.c v) 0] (eL cI q):=by
 refine pM Try.func100 rfl (by kernel_rfl) rfl (T.sr (oN as' (TO.nil (T.seq (T.reserve (T.region (oN (EvN.asg (hS true 0 0 1 (([]:List Int).length)) rfl) (TO.nil ?_))))))))
 refine T.jF (G:=(Bool×Nat)) h (fun s1 gh=>(gh.1=true->s1=[])) (fun s1 gh=>[(3,hS gh.1 0 gh.2 1 s1.length),(0,.fp (ZVa.c v) 0)]) (fun s1 gh=>[bE gh.1 gh.2 1 3 (s1.map cI)]) (fun s1 gh h n36 => ?_) (fun s1 h => ?_)
 ·obtain ⟨b35,u34⟩:=gh
  refine T.jF (G:=(Bool×Nat)) h (fun s37 gh=>(gh.1=true->s37=[])) (fun s37 gh=>[(3,hS gh.1 0 gh.2 1 s37.length)]) (fun s37 gh=>[bE gh.1 gh.2 1 3 (s37.map cI)]) (fun s37 gh h n55 => ?_) (fun s37 h => ?_)
  ·obtain ⟨b54,u53⟩:=gh
   refine T.sr (oN mv (oN (EvN.asg (hS b54 0 u53 1 s37.length) rfl) (TO.nil (T.ret ?_))))
   obtain rfl:=osj h
   repeat (first|refine retS ?_|refine retB ?_)
   exact Fin.ret (vs:=[hS b54 0 u53 1 s37.length]) (.cons (.tmp rfl) .nil) (Fz.own (g:=b54) (ver:=u53) (l:=s37) rfl rfl rfl n55 (fun _=>rfl))
  ·refine T.sr (oN mv (oN (nl rfl) (oN (EvN.fafpS 3 Try.underlying111 rfl (by kernel_rfl) rfl rfl (row2:=Z3b.c v.mem)) (oN (lf (.agg (Z3b.c v.mem)) ty108 rfl) (oN mv (TO.nil (T.block ?_)))))))
   refine T.loop (S:=(List Int)×Int) (G:=(Bool×Nat)) (F_impl_values_outcome_L44 v) (fun s43 gh=>(gh.1=true->s43.1=[])) (fun s43 gh=>[(37,I s43.2),(36,.agg (Z3b.c v.mem)),(3,hS gh.1 0 gh.2 1 s43.1.length)]) (fun s43 gh=>[bE gh.1 gh.2 1 3 (s43.1.map cI)]) (s0:=(s1,(0:Int))) (b35,u34) h n36 (kw rfl rfl) (fun s43 gh ws43 h n47 => ?_)
   obtain ⟨b46,u45⟩:=gh
   refine T.sr (oN (EvN.ilt rfl rfl) (TO.nil (T.seq ?_)))
   refine T.ifH rfl h (fun q48 h => ?_) (fun q48 h => ?_)
   ·refine T.skip (T.seq (T.block (T.sr (jD h fun g49 h=>oN (EvN.ixag (Y (Z3b.get v.mem s43.2)) Try.underlying108 ty5 rfl rfl g49 (sel3 (P:=fun (z:Int)=>partV false 1 (Z3b.c v.mem) (z.toNat*1)=some (Y (Z3b.get v.mem z))) g49 rfl rfl rfl)) (oN as' (TO.nil (T.region (oN mv (oN mv (jW h fun g50 h=>oN (EvN.iconv ty5.und Try.underlying3 rfl g50) (oN (EvN.mkF (c:=cI) ([(Z3b.get v.mem s43.2)]:List Int) [[I (Z3b.get v.mem s43.2)]] sl23 rfl rfl rfl (fun _=>rfl) (fun _=>rfl) rfl) (jL h fun g51 h=>oA (EvA.app1 (g:=b46) (l:=s43.1) (Z3b.get v.mem s43.2) sl23 (by kernel_rfl) rfl rfl rfl n47 (SrcOk.fz (l:=([(Z3b.get v.mem s43.2)]:List Int)) rfl (fun _=>rfl)) g51) ?_))))))))))))
    refine oN (EvN.asg (hS false 0 (u45+1) 1 ((s43.1++[(Z3b.get v.mem s43.2)]).length)) rfl) (TO.nil (T.region (jW h fun g52 h=>oN (EvN.add rfl rfl g52) (oN mv (TO.nil ?_)))))
    obtain rfl:=osj h
    exact ⟨((s43.1++[(Z3b.get v.mem s43.2)]),(s43.2+(1:Int))),(false,u45+1),rfl,nofun,kw rfl rfl⟩
   ·refine T.exit (lX h fun h => ?_)
    obtain rfl:=osj h
    exact ⟨(b46,u45),n47,kw rfl rfl⟩
 ·refine T.sr (oN mv (oN (nl rfl) (oN (fa fs111 rfl) (oN (lf (eL (cL ZIn.c) v.p) ty27 rfl) (oN (EvN.lenL sl27 rfl) (oN mv (TO.nil (T.block ?_))))))))
  refine T.loop (S:=(List Int)×Int) (G:=(Bool×Nat)) (F_impl_values_outcome_L8 v) (fun s7 gh=>(gh.1=true->s7.1=[])) (fun s7 gh=>[(14,I s7.2),(13,I (v.p.length:Int)),(3,hS gh.1 0 gh.2 1 s7.1.length),(0,.fp (ZVa.c v) 0)]) (fun s7 gh=>[bE gh.1 gh.2 1 3 (s7.1.map cI)]) (s0:=(([]:List Int),(0:Int))) (true,0) h (fun _=>rfl) (kw rfl rfl) (fun s7 gh ws7 h n11 => ?_)
  obtain ⟨b10,u9⟩:=gh
  refine T.sr (oN (EvN.ilt rfl rfl) (TO.nil (T.seq ?_)))
  refine T.ifH rfl h (fun q12 h => ?_) (fun q12 h => ?_)
  ·refine T.skip ?_
   refine T.jF (G:=(Bool×Nat)) h (fun s13 gh=>(gh.1=true->s13=[])) (fun s13 gh=>[(14,I s7.2),(13,I (v.p.length:Int)),(3,hS gh.1 0 gh.2 1 s13.length),(0,.fp (ZVa.c v) 0)]) (fun s13 gh=>[bE gh.1 gh.2 1 3 (s13.map cI)]) (fun s13 gh h n32 => ?_) (fun s13 h => ?_)
   ·obtain ⟨b31,u30⟩:=gh
    refine T.region (jW h fun g33 h=>oN (EvN.add rfl rfl g33) (oN mv (TO.nil ?_)))
    obtain rfl:=osj h
    exact ⟨(s13,(s7.2+(1:Int))),(b31,u30),rfl,n32,kw rfl rfl⟩
   ·refine T.block (T.sr (oN mv (oN as' (TO.nil (T.sr (oN mv (oN mv (oN (nl rfl) (oN (EvN.fafpS 9 Try.underlying111 rfl (by kernel_rfl) rfl rfl (row2:=Z33.c v.reg)) (jD h fun g14 h=>oN (EvN.ixafp Try.underlying109 ty108 rfl rfl g14) (oN (lf1 (fun z0 => .agg (Z3b.c (Z33.get v.reg z0))) g14 ty108 rfl rfl rfl rfl) (oN mv (TO.nil (T.block ?_))))))))))))))
    refine T.loop (S:=(List Int)×Int) (G:=(Bool×Nat)) (F_impl_values_outcome_L21 v s7) (fun s20 gh=>(gh.1=true->s20.1=[])) (fun s20 gh=>[(23,I s20.2),(22,.agg (Z3b.c (Z33.get v.reg s7.2))),(14,I s7.2),(13,I (v.p.length:Int)),(3,hS gh.1 0 gh.2 1 s20.1.length),(0,.fp (ZVa.c v) 0)]) (fun s20 gh=>[bE gh.1 gh.2 1 3 (s20.1.map cI)]) (s0:=(s7.1,(0:Int))) (b10,u9) h n11 (kw rfl rfl) (fun s20 gh ws20 h n24 => ?_)
    obtain ⟨b23,u22⟩:=gh
    refine T.sr (oN (EvN.ilt rfl rfl) (TO.nil (T.seq ?_)))
    refine T.ifH rfl h (fun q25 h => ?_) (fun q25 h => ?_)
    ·refine T.skip (T.seq (T.block (T.sr (jD h fun g26 h=>oN (EvN.ixag (Y (Z3b.get (Z33.get v.reg s7.2) s20.2)) Try.underlying108 ty5 rfl rfl g26 (sel3 (P:=fun (z:Int)=>partV false 1 (Z3b.c (Z33.get v.reg s7.2)) (z.toNat*1)=some (Y (Z3b.get (Z33.get v.reg s7.2) z))) g26 rfl rfl rfl)) (oN as' (TO.nil (T.region (oN mv (oN mv (jW h fun g27 h=>oN (EvN.iconv ty5.und Try.underlying3 rfl g27) (oN (EvN.mkF (c:=cI) ([(Z3b.get (Z33.get v.reg s7.2) s20.2)]:List Int) [[I (Z3b.get (Z33.get v.reg s7.2) s20.2)]] sl23 rfl rfl rfl (fun _=>rfl) (fun _=>rfl) rfl) (jL h fun g28 h=>oA (EvA.app1 (g:=b23) (l:=s20.1) (Z3b.get (Z33.get v.reg s7.2) s20.2) sl23 (by kernel_rfl) rfl rfl rfl n24 (SrcOk.fz (l:=([(Z3b.get (Z33.get v.reg s7.2) s20.2)]:List Int)) rfl (fun _=>rfl)) g28) ?_))))))))))))
     refine oN (EvN.asg (hS false 0 (u22+1) 1 ((s20.1++[(Z3b.get (Z33.get v.reg s7.2) s20.2)]).length)) rfl) (TO.nil (T.region (jW h fun g29 h=>oN (EvN.add rfl rfl g29) (oN mv (TO.nil ?_)))))
     obtain rfl:=osj h
     exact ⟨((s20.1++[(Z3b.get (Z33.get v.reg s7.2) s20.2)]),(s20.2+(1:Int))),(false,u22+1),rfl,nofun,kw rfl rfl⟩
    ·refine T.exit (lX h fun h => ?_)
     obtain rfl:=osj h
     exact ⟨(b23,u22),n24,kw rfl rfl⟩
  ·refine T.exit (lX h fun h => ?_)
   obtain rfl:=osj h
   exact ⟨(b10,u9),n11,kw rfl rfl⟩
theorem F_impl_finished__impl_seq_P (s:ZSq) (moves:List Int) {q:(List Int)×Bool} (h:F_impl_finished__impl_seq s moves=some q):PCall Try.prog 77 [.ifc 149 (.fp (ZSq.c s) 0),eL cI moves] (.tup [eL cI q.1,Bo q.2]):=by
 refine pM Try.func77 rfl (by kernel_rfl) rfl (T.sr (oN as' (oN as' (TO.nil (T.sr (oN mv (oN mv (oC h (fun _=>F_impl_follow__impl_seq_P _ _) rfl rfl rfl rfl fun v1 _ h=>oN mv (oN (EvN.ext (ifO 149 ZSq.c v1.1) rfl rfl) (oN (EvN.ext (Bo v1.2) rfl rfl) (oN as' (oN as' (TO.nil (T.seq ?_))))))))))))))
 refine T.sr (oN mv (oN (EvN.not rfl) (oN mv ?_)))
 refine TO.jB h 4 (fun s2=>[(20,Bo s2),(6,ifO 149 ZSq.c v1.1)]) (fun s2=>[]) (fun s2 q3 h js2 => ?_) (fun s2 q3 h js2 => ?_) (fun s2 h => ?_)
 ·refine gS rfl q3 (gS rfl q3 (gS rfl q3 (oN (EvN.pickT rfl q3 (Bo true) rfl) ?_)))
  obtain rfl:=osj h
  exact js2 _ _ (kw rfl rfl)
 ·refine gN rfl q3 mv (jL h fun g4 h=>jB h fun v5 cv5 h=>gN rfl q3 (EvN.invS 16 rfl (ifO_some g4) (MethT.of (off:=0) (by kernel_rfl)) rfl rfl (F_impl_seq_done_P (v1.1.getD default) cv5) rfl) (gN rfl q3 (EvN.not rfl) (oN (EvN.pickF rfl q3 (Bo (!v5)) rfl) ?_)))
  obtain rfl:=osj h
  exact js2 _ _ (kw rfl rfl)
 ·refine TO.nil ?_
  refine T.ifH rfl h (fun q6 h => ?_) (fun q6 h => ?_)
  ·refine T.sr (oN as' (oN as' (TO.nil (T.ret ?_))))
   obtain rfl:=osj h
   repeat (first|refine retS ?_|refine retB ?_)
   exact Fin.ret (vs:=[.nil,Bo false]) (.cons (.tmp rfl) (.cons (.tmp rfl) .nil)) (.tupL (.cons .nil0 (.cons (.of_isF 9 _ rfl) .nil)))
  ·refine T.skip (T.sr (oN mv (jL h fun g7 h=>jB h fun v8 cv8 h=>oN (EvN.invS 16 rfl (ifO_some g7) (MethT.of (off:=0) (by kernel_rfl)) rfl rfl (F_impl_values_outcome_P ((v1.1.getD default).values) cv8) rfl) (oN as' (oN as' (TO.nil (T.ret ?_)))))))
   obtain rfl:=osj h
   repeat (first|refine retS ?_|refine retB ?_)
   exact Fin.ret (vs:=[eL cI v8,Bo true]) (.cons (.tmp rfl) (.cons (.tmp rfl) .nil)) (.tupL (.cons (.of_isF 9 _ rfl) (.cons (.of_isF 9 _ rfl) .nil)))
theorem F_impl_RunSchedule_P (p:List (List ZIn)) (schedule:List Int) {q:(List Int)×Bool} (h:F_impl_RunSchedule p schedule=some q):PCall Try.prog 40 [eL (cL ZIn.c) p,eL cI schedule] (.tup [eL cI q.1,Bo q.2]):=by
 refine pM Try.func40 rfl (by kernel_rfl) rfl (T.sr (oN as' (oN as' (TO.nil (T.seq (T.sr (oN mv (oC h (fun _=>F_impl_ProgramValid_P _) rfl rfl rfl rfl fun v1 _ h=>oN (EvN.not rfl) (TO.nil ?_)))))))))
 refine T.ifH rfl h (fun q2 h => ?_) (fun q2 h => ?_)
 ·refine T.sr (oN as' (oN as' (TO.nil (T.ret ?_))))
  obtain rfl:=osj h
  repeat (first|refine retS ?_|refine retB ?_)
  exact Fin.ret (vs:=[.nil,Bo false]) (.cons (.tmp rfl) (.cons (.tmp rfl) .nil)) (.tupL (.cons .nil0 (.cons (.of_isF 9 _ rfl) .nil)))
 ·refine T.skip (T.sr (oN mv (oC h (fun _=>F_impl_newSeq_P _) rfl rfl rfl rfl fun v3 _ h=>oN mv (oC h (fun _=>F_impl_finished__impl_seq_P _ _) rfl rfl rfl rfl fun v4 _ h=>oN (EvN.ext (eL cI v4.1) rfl rfl) (oN (EvN.ext (Bo v4.2) rfl rfl) (oN as' (oN as' (TO.nil (T.ret ?_)))))))))
  obtain rfl:=osj h
  repeat (first|refine retS ?_|refine retB ?_)
  exact Fin.ret (vs:=[eL cI v4.1,Bo v4.2]) (.cons (.tmp rfl) (.cons (.tmp rfl) .nil)) (.tupL (.cons (.of_isF 9 _ rfl) (.cons (.of_isF 9 _ rfl) .nil)))
theorem F_impl_events_P (p:List (List ZIn)) {q:(List ZEv)} (h:F_impl_events p=some q):PCall Try.prog 91 [eL (cL ZIn.c) p] (eL ZEv.c q):=by
 refine pM Try.func91 rfl (by kernel_rfl) rfl (T.sr (oN as' (TO.nil (T.seq (T.reserve (T.region (oN (EvN.asg (hS true 0 0 5 (([]:List ZEv).length)) rfl) (TO.nil ?_))))))))
 refine T.jF (G:=(Bool×Nat)) h (fun s1 gh=>(gh.1=true->s1=[])) (fun s1 gh=>[(3,hS gh.1 0 gh.2 5 s1.length),(0,eL (cL ZIn.c) p)]) (fun s1 gh=>[bE gh.1 gh.2 5 101 (s1.map ZEv.c)]) (fun s1 gh h n17 => ?_) (fun s1 h => ?_)
 ·obtain ⟨b16,u15⟩:=gh
  refine T.jF (G:=(Bool×Nat)) h (fun s18 gh=>(gh.1=true->s18=[])) (fun s18 gh=>[(3,hS gh.1 0 gh.2 5 s18.length)]) (fun s18 gh=>[bE gh.1 gh.2 5 101 (s18.map ZEv.c)]) (fun s18 gh h n59 => ?_) (fun s18 h => ?_)
  ·obtain ⟨b58,u57⟩:=gh
   refine T.sr (oN mv (oN (EvN.asg (hS b58 0 u57 5 s18.length) rfl) (TO.nil (T.ret ?_))))
   obtain rfl:=osj h
   repeat (first|refine retS ?_|refine retB ?_)
   exact Fin.ret (vs:=[hS b58 0 u57 5 s18.length]) (.cons (.tmp rfl) .nil) (Fz.own (g:=b58) (ver:=u57) (l:=s18) rfl rfl rfl n59 ZEv.isF)
  ·refine T.sr (oN mv (oN (EvN.lenL sl27 rfl) (oN mv (TO.nil (T.block ?_)))))
   refine T.loop (S:=(List ZEv)×Int) (G:=(Bool×Nat)) (F_impl_events_L25 p) (fun s24 gh=>(gh.1=true->s24.1=[])) (fun s24 gh=>[(21,I s24.2),(20,I (p.length:Int)),(19,eL (cL ZIn.c) p),(3,hS gh.1 0 gh.2 5 s24.1.length)]) (fun s24 gh=>[bE gh.1 gh.2 5 101 (s24.1.map ZEv.c)]) (s0:=(s1,(0:Int))) (b16,u15) h n17 (kw rfl rfl) (fun s24 gh ws24 h n28 => ?_)
   obtain ⟨b27,u26⟩:=gh
   refine T.sr (oN (EvN.ilt rfl rfl) (TO.nil (T.seq ?_)))
   refine T.ifH rfl h (fun q29 h => ?_) (fun q29 h => ?_)
   ·refine T.skip ?_
    refine T.jF (G:=(Bool×Nat)) h (fun s30 gh=>(gh.1=true->s30=[])) (fun s30 gh=>[(21,I s24.2),(20,I (p.length:Int)),(19,eL (cL ZIn.c) p),(3,hS gh.1 0 gh.2 5 s30.length)]) (fun s30 gh=>[bE gh.1 gh.2 5 101 (s30.map ZEv.c)]) (fun s30 gh h n55 => ?_) (fun s30 h => ?_)
    ·obtain ⟨b54,u53⟩:=gh
     refine T.region (jW h fun g56 h=>oN (EvN.add rfl rfl g56) (oN mv (TO.nil ?_)))
     obtain rfl:=osj h
     exact ⟨(s30,(s24.2+(1:Int))),(b54,u53),rfl,n55,kw rfl rfl⟩
    ·refine T.block (T.sr (oN mv (jD h fun g31 h=>oN (EvN.ixL sl27 rfl rfl g31 (fun _=>rfl)) (oN (lf (eL ZIn.c (p.getD s24.2.toNat default)) ty57 rfl) (oN as' (oN as' (TO.nil (T.sr (oN mv (oN (EvN.lenL sl57 rfl) (oN mv (TO.nil (T.block ?_)))))))))))))
     refine T.loop (S:=(List ZEv)×Int) (G:=(Bool×Nat)) (F_impl_events_L38 p s24) (fun s37 gh=>(gh.1=true->s37.1=[])) (fun s37 gh=>[(28,I s37.2),(27,I ((p.getD s24.2.toNat default).length:Int)),(26,eL ZIn.c (p.getD s24.2.toNat default)),(5,I s24.2),(21,I s24.2),(20,I (p.length:Int)),(19,eL (cL ZIn.c) p),(3,hS gh.1 0 gh.2 5 s37.1.length)]) (fun s37 gh=>[bE gh.1 gh.2 5 101 (s37.1.map ZEv.c)]) (s0:=(s24.1,(0:Int))) (b27,u26) h n28 (kw rfl rfl) (fun s37 gh ws37 h n41 => ?_)
     obtain ⟨b40,u39⟩:=gh
     refine T.sr (oN (EvN.ilt rfl rfl) (TO.nil (T.seq ?_)))
     refine T.ifH rfl h (fun q42 h => ?_) (fun q42 h => ?_)
     ·refine T.skip ?_
      refine T.jF (G:=(Bool×Nat)) h (fun s43 gh=>(gh.1=true->s43=[])) (fun s43 gh=>[(3,hS gh.1 0 gh.2 5 s43.length),(28,I s37.2),(27,I ((p.getD s24.2.toNat default).length:Int)),(26,eL ZIn.c (p.getD s24.2.toNat default)),(5,I s24.2),(21,I s24.2),(20,I (p.length:Int)),(19,eL (cL ZIn.c) p)]) (fun s43 gh=>[bE gh.1 gh.2 5 101 (s43.map ZEv.c)]) (fun s43 gh h n51 => ?_) (fun s43 h => ?_)
      ·obtain ⟨b50,u49⟩:=gh
       refine T.region (jW h fun g52 h=>oN (EvN.add rfl rfl g52) (oN mv (TO.nil ?_)))
       obtain rfl:=osj h
       exact ⟨(s43,(s37.2+(1:Int))),(b50,u49),rfl,n51,kw rfl rfl⟩
      ·refine T.block (T.sr (oN mv (jD h fun g44 h=>oN (EvN.ixL sl57 rfl rfl g44 (fun _=>rfl)) (oN (lf (.agg (ZIn.c ((p.getD s24.2.toNat default).getD s37.2.toNat default))) ty56 rfl) (oA (EvA.al zs56 rfl rfl) (oN as' (oV (sr (ZIn.c ((p.getD s24.2.toNat default).getD s37.2.toNat default)) ty56 rfl rfl rfl rfl) (TO.nil (T.sr (oN (fa fs56 rfl) (oA (lh (I (((p.getD s24.2.toNat default).getD s37.2.toNat default).Op)) ty3 rfl rfl rfl) (oN (EvN.ine rfl rfl) (TO.nil ?_)))))))))))))
       refine T.ifH rfl h (fun q45 h => ?_) (fun q45 h => ?_)
       ·refine T.drawF (fun i=>[([],false),([],false),([],false),([],false),([1],false),([1],false),([],false),([1],false),([],false),([],false),([],false),([0],true),([],false)].getD i ([],false)) (by kernel_rfl) (by kernel_rfl) (fN rfl mv (fN rfl mv (fN rfl mv (fN rfl (fa fs56 rfl) (fR [1] rfl (fun G hG=>EvA.loadhp (I (((p.getD s24.2.toNat default).getD s37.2.toNat default).Loc)) ty3 rfl (hG.a0 rfl) rfl rfl rfl rfl) (fR [1] rfl (fun G hG=>EvA.loadhp (.agg (ZIn.c ((p.getD s24.2.toNat default).getD s37.2.toNat default))) ty56 rfl (hG.a0 rfl) rfl rfl rfl rfl) (fC h (fun _=>F_impl_Instr_reads_P _) rfl rfl rfl rfl rfl fun v46 _ h=>fR [1] rfl (fun G hG=>EvA.loadhp (.agg (ZIn.c ((p.getD s24.2.toNat default).getD s37.2.toNat default))) ty56 rfl (hG.a0 rfl) rfl rfl rfl rfl) (fC h (fun _=>F_impl_Instr_writes_P _) rfl rfl rfl rfl rfl fun v47 _ h=>fN rfl (EvN.build [I s24.2,I s37.2,I (((p.getD s24.2.toNat default).getD s37.2.toNat default).Loc),Bo v46,Bo v47] Try.underlying101 zs101 fs101 rfl rfl) (fN rfl (EvN.mkF (c:=ZEv.c) ([(⟨s24.2,s37.2,((p.getD s24.2.toNat default).getD s37.2.toNat default).Loc,v46,v47⟩:ZEv)]:List ZEv) [[I s24.2,I s37.2,I (((p.getD s24.2.toNat default).getD s37.2.toNat default).Loc),Bo v46,Bo v47]] sl98 rfl rfl rfl (fun _=>rfl) ZEv.isF rfl) (jL h fun g48 h=>fW 0 [] rfl rfl (fun G hG=>EvA.app1 (g:=b40) (l:=s37.1) (⟨s24.2,s37.2,((p.getD s24.2.toNat default).getD s37.2.toNat default).Loc,v46,v47⟩:ZEv) sl98 (by kernel_rfl) rfl rfl (hG.a0 rfl) n41 (SrcOk.fz (l:=([(⟨s24.2,s37.2,((p.getD s24.2.toNat default).getD s37.2.toNat default).Loc,v46,v47⟩:ZEv)]:List ZEv)) rfl (fun _=>rfl)) g48) (fN rfl (EvN.asg (hS false 0 (u39+1) 5 ((s37.1++[(⟨s24.2,s37.2,((p.getD s24.2.toNat default).getD s37.2.toNat default).Loc,v46,v47⟩:ZEv)]).length)) rfl) (TF.nil ?_))))))))))))
        obtain rfl:=osj h
        exact ⟨(false,u39+1),nofun,cutS rfl (.cons (.list (g:=false) (ver:=u39+1) (l:=(s37.1++[(⟨s24.2,s37.2,((p.getD s24.2.toNat default).getD s37.2.toNat default).Loc,v46,v47⟩:ZEv)])) ZEv.isF) .nil) (stl_cons (.hS (g:=false) (b:=0) (ver:=u39+1) (s:=5) (n:=(s37.1++[(⟨s24.2,s37.2,((p.getD s24.2.toNat default).getD s37.2.toNat default).Loc,v46,v47⟩:ZEv)]).length) rfl) (stl_cons (.fz (.of_isF 9 _ rfl)) (stl_cons (.fz (.of_isF 9 _ rfl)) (stl_cons (.fz (.of_isF 9 _ rfl)) (stl_cons (.fz (.of_isF 9 _ rfl)) (stl_cons (.fz (.of_isF 9 _ rfl)) (stl_cons (.fz (.of_isF 9 _ rfl)) (stl_cons (.fz (.of_isF 9 _ rfl)) stl_nil))))))))⟩
       ·refine T.skip ?_
        obtain rfl:=osj h
        exact ⟨(b40,u39),n41,cutS rfl (.cons (.list (g:=b40) (ver:=u39) (l:=s37.1) ZEv.isF) .nil) (stl_cons (.hS (g:=b40) (b:=0) (ver:=u39) (s:=5) (n:=s37.1.length) rfl) (stl_cons (.fz (.of_isF 9 _ rfl)) (stl_cons (.fz (.of_isF 9 _ rfl)) (stl_cons (.fz (.of_isF 9 _ rfl)) (stl_cons (.fz (.of_isF 9 _ rfl)) (stl_cons (.fz (.of_isF 9 _ rfl)) (stl_cons (.fz (.of_isF 9 _ rfl)) (stl_cons (.fz (.of_isF 9 _ rfl)) stl_nil))))))))⟩
     ·refine T.exit (lX h fun h => ?_)
      obtain rfl:=osj h
      exact ⟨(b40,u39),n41,kw rfl rfl⟩
   ·refine T.exit (lX h fun h => ?_)
    obtain rfl:=osj h
    exact ⟨(b27,u26),n28,kw rfl rfl⟩
 ·refine T.sr (oN mv (TO.nil (T.block ?_)))
  refine T.loop (S:=(List ZEv)×Int) (G:=(Bool×Nat)) F_impl_events_L8 (fun s7 gh=>(gh.1=true->s7.1=[])) (fun s7 gh=>[(9,I s7.2),(3,hS gh.1 0 gh.2 5 s7.1.length),(0,eL (cL ZIn.c) p)]) (fun s7 gh=>[bE gh.1 gh.2 5 101 (s7.1.map ZEv.c)]) (s0:=(([]:List ZEv),(0:Int))) (true,0) h (fun _=>rfl) (kw rfl rfl) (fun s7 gh ws7 h n11 => ?_)
  let d0:=(⟨(-1:Int),s7.2,s7.2,false,true⟩:ZEv)
  obtain ⟨b10,u9⟩:=gh
  refine T.sr (oN (EvN.ilt rfl rfl) (TO.nil (T.seq ?_)))
  refine T.ifH rfl h (fun q12 h => ?_) (fun q12 h => ?_)
  ·refine T.skip (T.seq (T.block (T.sr (oN mv (oN as' (TO.nil (T.region (oN mv (oN mv (oN mv (oN (EvN.build [I (-1:Int),I s7.2,I s7.2,Bo false,Bo true] Try.underlying101 zs101 fs101 rfl rfl) (oN (EvN.mkF (c:=ZEv.c) ([d0]:List ZEv) [[I (-1:Int),I s7.2,I s7.2,Bo false,Bo true]] sl98 rfl rfl rfl (fun _=>rfl) ZEv.isF rfl) (jL h fun g13 h=>oA (EvA.app1 (g:=b10) (l:=s7.1) d0 sl98 (by kernel_rfl) rfl rfl rfl n11 (SrcOk.fz (l:=([d0]:List ZEv)) rfl (fun _=>rfl)) g13) (oN (EvN.asg (hS false 0 (u9+1) 5 ((s7.1++[d0]).length)) rfl) ?_))))))))))))))
   refine TO.nil (T.region (jW h fun g14 h=>oN (EvN.add rfl rfl g14) (oN mv (TO.nil ?_))))
   obtain rfl:=osj h
   exact ⟨((s7.1++[d0]),(s7.2+(1:Int))),(false,u9+1),rfl,nofun,kw rfl rfl⟩
  ·refine T.exit (lX h fun h => ?_)
   obtain rfl:=osj h
   exact ⟨(b10,u9),n11,kw rfl rfl⟩
theorem F_math_bits_Mul64_P (x:Int) (y:Int) {q:Int×Int} (h:F_math_bits_Mul64 x y=some q):PCall Try.prog 180 [.v (.int .u64 x),.v (.int .u64 y)] (.tup [.v (.int .u64 q.1),.v (.int .u64 q.2)]):=by
 refine pM Try.func180 rfl (by kernel_rfl) rfl (T.sr (oN as' (oN as' (TO.nil (T.sr (oN mv (oN (EvN.band rfl rfl) (oN as' (TO.nil (T.sr (oN mv (jD h fun g1 h=>oN (EvN.shr rfl rfl g1) (oN as' (TO.nil ?_))))))))))))))
 refine T.sr (oN mv (oN (EvN.band rfl rfl) (oN as' (TO.nil (T.sr (oN mv (oN (EvN.shr rfl rfl g1) (oN as' (TO.nil (T.sr (oN mv (oN mv (jW h fun g2 h=>oN (EvN.mul rfl rfl g2) (oN as' ?_))))))))))))))
 refine TO.nil (T.sr (oN mv (oN mv (jW h fun g3 h=>oN (EvN.mul rfl rfl g3) (oN mv (oN (EvN.shr rfl rfl g1) (jW h fun g4 h=>oN (EvN.add rfl rfl g4) (oN as' (TO.nil (T.seq (T.clean (H0:=[]) (e0:=envOf [(11,.v (.int .u64 (((bShr .u64 x (32:Int))*(bAnd .u64 y (4294967295:Int)))+(bShr .u64 ((bAnd .u64 x (4294967295:Int))*(bAnd .u64 y (4294967295:Int))) (32:Int))))),(9,.v (.int .u64 (bShr .u64 y (32:Int)))),(7,.v (.int .u64 (bShr .u64 x (32:Int)))),(6,.v (.int .u64 (bAnd .u64 x (4294967295:Int)))),(0,.v (.int .u64 x)),(1,.v (.int .u64 y))]) rfl (wkC rfl (wkC rfl (wkC rfl (wkC rfl (wkC rfl (wkC rfl wkN)))))) (T.region (oN mv ?_)))))))))))))
 refine oN (EvN.band rfl rfl) (oN as' (TO.nil (T.sr (oN mv (oN (EvN.shr rfl rfl g1) (oN as' (TO.nil (T.sr (oN mv (oN mv (oN mv (jW h fun g5 h=>oN (EvN.mul rfl rfl g5) (jW h fun g6 h=>oN (EvN.add rfl rfl g6) ?_)))))))))))))
 refine oN as' (TO.nil (T.sr (oN mv (oN mv (jW h fun g7 h=>oN (EvN.mul rfl rfl g7) (oN mv (jW h fun g8 h=>oN (EvN.add rfl rfl g8) (oN mv (oN (EvN.shr rfl rfl g1) (jW h fun g9 h=>oN (EvN.add rfl rfl g9) (oN as' (TO.nil ?_))))))))))))
 refine T.seq (T.clean (H0:=[]) (e0:=envOf [(4,.v (.int .u64 ((((bShr .u64 x (32:Int))*(bShr .u64 y (32:Int)))+(bShr .u64 (((bShr .u64 x (32:Int))*(bAnd .u64 y (4294967295:Int)))+(bShr .u64 ((bAnd .u64 x (4294967295:Int))*(bAnd .u64 y (4294967295:Int))) (32:Int))) (32:Int)))+(bShr .u64 ((bAnd .u64 (((bShr .u64 x (32:Int))*(bAnd .u64 y (4294967295:Int)))+(bShr .u64 ((bAnd .u64 x (4294967295:Int))*(bAnd .u64 y (4294967295:Int))) (32:Int))) (4294967295:Int))+((bAnd .u64 x (4294967295:Int))*(bShr .u64 y (32:Int)))) (32:Int))))),(0,.v (.int .u64 x)),(1,.v (.int .u64 y))]) rfl (wkC rfl (wkC rfl (wkC rfl wkN))) (T.region (oN mv (oN mv (jW h fun g10 h=>oN (EvN.mul rfl rfl g10) (oN as' (TO.nil (T.ret ?_))))))))
 obtain rfl:=osj h
 repeat (first|refine retS ?_|refine retB ?_)
 exact Fin.ret (vs:=[.v (.int .u64 ((((bShr .u64 x (32:Int))*(bShr .u64 y (32:Int)))+(bShr .u64 (((bShr .u64 x (32:Int))*(bAnd .u64 y (4294967295:Int)))+(bShr .u64 ((bAnd .u64 x (4294967295:Int))*(bAnd .u64 y (4294967295:Int))) (32:Int))) (32:Int)))+(bShr .u64 ((bAnd .u64 (((bShr .u64 x (32:Int))*(bAnd .u64 y (4294967295:Int)))+(bShr .u64 ((bAnd .u64 x (4294967295:Int))*(bAnd .u64 y (4294967295:Int))) (32:Int))) (4294967295:Int))+((bAnd .u64 x (4294967295:Int))*(bShr .u64 y (32:Int)))) (32:Int)))),.v (.int .u64 (x*y))]) (.cons (.tmp rfl) (.cons (.tmp rfl) .nil)) (.tupL (.cons (.of_isF 9 _ rfl) (.cons (.of_isF 9 _ rfl) .nil)))
theorem F_math_bits_Mul_P (x:Int) (y:Int) {q:Int×Int} (h:F_math_bits_Mul x y=some q):PCall Try.prog 155 [.v (.int .u64 x),.v (.int .u64 y)] (.tup [.v (.int .u64 q.1),.v (.int .u64 q.2)]):=by
 refine pM Try.func155 rfl (by kernel_rfl) rfl (T.sr (oN as' (oN as' (TO.nil (T.seq ?_)))))
 refine T.cond rfl (fun q=>absurd (q.symm.trans rfl) (by decide)) (fun _ => ?_)
 refine T.skip (T.sr (oN mv (oN mv (oC h (fun _=>F_math_bits_Mul64_P _ _) rfl rfl rfl rfl fun v1 _ h=>oN mv (oN (EvN.ext (.v (.int .u64 v1.1)) rfl rfl) (oN (EvN.ext (.v (.int .u64 v1.2)) rfl rfl) (oN as' (oN as' (TO.nil (T.sr (oN mv (oN mv (oN as' (oN as' ?_))))))))))))))
 refine TO.nil (T.ret ?_)
 obtain rfl:=osj h
 repeat (first|refine retS ?_|refine retB ?_)
 exact Fin.ret (vs:=[.v (.int .u64 v1.1),.v (.int .u64 v1.2)]) (.cons (.tmp rfl) (.cons (.tmp rfl) .nil)) (.tupL (.cons (.of_isF 9 _ rfl) (.cons (.of_isF 9 _ rfl) .nil)))
theorem F_slices_Repeat_int_int_OP (x:List Int) (count:Int) {q:(List Int)} (h:F_slices_Repeat_int_int x count=some q):BCall Try.prog 121 [eL cI x,I count] [] (OwnR 1 3 (fun x=>x) q.length (q.map cI) 0 []):=by
 refine BCall.mkO Try.func121 rfl (by kernel_rfl) rfl (by kernel_rfl) (e0:=envOf [(0,eL cI x),(1,I count)]) (wkC rfl (wkC rfl wkN)) ren_id (rowsM (fun _=>rfl)) (T.sr (oN as' (TO.nil ?_)))
 refine T.jU h (fun s1=>[(0,eL cI x),(1,I count)]) (fun s1=>[]) (fun s1 h => ?_) (fun s1 h => ?_)
 ·refine T.sr (oN mv (oN (EvN.lenL sl23 rfl) (jW h fun g3 h=>oN (EvN.iconv ty3.und Try.underlying168 rfl g3) (oN mv (jW h fun g4 h=>oN (EvN.iconv ty3.und Try.underlying168 rfl g4) (oC h (fun _=>F_math_bits_Mul_P _ _) rfl rfl rfl rfl fun v5 _ h=>oN mv (oN (EvN.ext (.v (.int .u64 v5.1)) rfl rfl) (oN (EvN.ext (.v (.int .u64 v5.2)) rfl rfl) (oN as' (oN as' (TO.nil ?_)))))))))))
  refine T.jU h (fun s6=>[(6,.v (.int .u64 v5.2)),(0,eL cI x)]) (fun s6=>[]) (fun s6 h => ?_) (fun s6 h => ?_)
  ·refine T.sr (oN mv (jW h fun g10 h=>oN (EvN.iconv ty168.und Try.underlying3 rfl g10) (jD h fun g11 h=>oA (EvA.mkN (c:=cI) (default:Int) sl23 rfl rfl g11 rfl rfl rfl) (oN (EvN.asg (hS false 0 0 1 ((List.replicate v5.2.toNat (default:Int)).length)) rfl) (TO.nil (T.sr (oN mv (oN mv (oA (EvA.copyO (l:=(List.replicate v5.2.toNat (default:Int))) x sl23 rfl rfl (show 0+(List.replicate v5.2.toNat (default:Int)).length<=(List.replicate v5.2.toNat (default:Int)).length by simp) (SrcN.el rfl (fun _=>rfl))) (oN as' (TO.nil ?_)))))))))))
   refine T.jF (G:=Nat) h (fun s12 gh=>True) (fun s12 gh=>[(7,hS false 0 gh 1 s12.length)]) (fun s12 gh=>[bE false gh 1 3 (s12.map cI)]) (fun s12 u23 h hg => ?_) (fun s12 h => ?_)
   ·refine T.sr (oN mv (oN (EvN.asg (hS false 0 u23 1 s12.length) rfl) (TO.nil (T.ret ?_))))
    obtain rfl:=osj h
    repeat (first|refine retS ?_|refine retB ?_)
    exact Fin.ret (vs:=[hS false 0 u23 1 s12.length]) (.cons (.tmp rfl) .nil) ⟨0,false,u23,nofun,rfl,ownB rfl⟩
   ·refine T.block ?_
    refine T.loop (S:=(List Int)×Int) (G:=Nat) F_slices_Repeat_int_int_L17 (fun s16 gh=>True) (fun s16 gh=>[(8,I s16.2),(7,hS false 0 gh 1 s16.1.length)]) (fun s16 gh=>[bE false gh 1 3 (s16.1.map cI)]) (s0:=((cpy (List.replicate v5.2.toNat (default:Int)) 0 x ((List.replicate v5.2.toNat (default:Int)).length)),((min x.length ((List.replicate v5.2.toNat (default:Int)).length):Nat):Int))) 0 h trivial (cutW rfl (wkC rfl (wkC (congrArg (hS false 0 0 1) (by simp [cpy_length]:(List.replicate v5.2.toNat (default:Int)).length=(cpy (List.replicate v5.2.toNat (default:Int)) 0 x ((List.replicate v5.2.toNat (default:Int)).length)).length)) wkN))) (fun s16 u18 ws16 h hg => ?_)
    refine T.seq (T.sr (oN mv (oN mv (oN (EvN.lenO (g:=false) sl23 rfl nofun) (oN (EvN.ilt rfl rfl) (TO.nil ?_))))))
    refine T.ifH rfl h (fun q19 h => ?_) (fun q19 h => ?_)
    ·refine T.skip (T.block (T.drawF (fun i=>[([],false),([],false),([],false),([],false),([],false),([],false),([],false),([0],true),([],false),([],false)].getD i ([],false)) (by kernel_rfl) (by kernel_rfl) (fN rfl mv (fN rfl mv (fN rfl mv (jD h fun g20 h=>fN rfl (EvN.slhs Try.underlying23 ty3 (l:=s16.2) (h:=(s16.1.length:Int)) rfl (.yes rfl) .no g20) (fN rfl mv (fN rfl mv (jD h fun g21 h=>fN rfl (EvN.slhs Try.underlying23 ty3 (l:=(0:Int)) (h:=s16.2) rfl .no (.yes rfl) g21) (fW 0 [] rfl rfl (fun G hG=>EvA.copyO (l:=s16.1) ((s16.1.drop (0+(0:Int).toNat)).take (s16.2.toNat-(0:Int).toNat)) sl23 rfl (hG.a0 rfl) (osl_le (l:=s16.1) g20 rfl) (SrcN.ow (l:=s16.1) (0+(0:Int).toNat) (s16.2.toNat-(0:Int).toNat) rfl (hG.a0 rfl) (osl_le (l:=s16.1) g21 rfl))) (jW h fun g22 h=>fN rfl (EvN.add rfl rfl g22) (fN rfl as' ?_))))))))))))
     refine TF.nil ?_
     obtain rfl:=osj h
     exact ⟨((cpy s16.1 (0+s16.2.toNat) ((s16.1.drop (0+(0:Int).toNat)).take (s16.2.toNat-(0:Int).toNat)) ((s16.1.length:Int).toNat-s16.2.toNat)),(s16.2+((min ((s16.1.drop (0+(0:Int).toNat)).take (s16.2.toNat-(0:Int).toNat)).length ((s16.1.length:Int).toNat-s16.2.toNat):Nat):Int))),u18,rfl,trivial,cutW rfl (wkC rfl (wkC (congrArg (hS false 0 u18 1) (by simp [cpy_length]:s16.1.length=(cpy s16.1 (0+s16.2.toNat) ((s16.1.drop (0+(0:Int).toNat)).take (s16.2.toNat-(0:Int).toNat)) ((s16.1.length:Int).toNat-s16.2.toNat)).length)) wkN))⟩
    ·refine T.exit (lX h fun h => ?_)
     obtain rfl:=osj h
     exact ⟨u18,trivial,kw rfl rfl⟩
  ·refine T.sr (oN mv (oN (EvN.igt rfl rfl) (oN mv ?_)))
   refine TO.jB h 3 (fun s7=>[(26,Bo s7),(6,.v (.int .u64 v5.2)),(0,eL cI x)]) (fun s7=>[]) (fun s7 q8 h js7 => ?_) (fun s7 q8 h js7 => ?_) (fun s7 h => ?_)
   ·refine gS rfl q8 (gS rfl q8 (oN (EvN.pickT rfl q8 (Bo true) rfl) ?_))
    obtain rfl:=osj h
    exact js7 _ _ (kw rfl rfl)
   ·refine gN rfl q8 mv (gN rfl q8 (EvN.igt rfl rfl) (oN (EvN.pickF rfl q8 (Bo (decide ((9223372036854775807:Int)<v5.2))) rfl) ?_))
    obtain rfl:=osj h
    exact js7 _ _ (kw rfl rfl)
   ·refine TO.nil ?_
    refine T.ifH rfl h (fun q9 h => ?_) (fun q9 h => ?_)
    ·cases h
    ·refine T.skip ?_
     exact ⟨(),trivial,kw rfl rfl⟩
 ·refine T.sr (oN mv (oN (EvN.ilt rfl rfl) (TO.nil ?_)))
  refine T.ifH rfl h (fun q2 h => ?_) (fun q2 h => ?_)
  ·cases h
  ·refine T.skip ?_
   exact ⟨(),trivial,kw rfl rfl⟩
theorem F_impl_numbers_P (p:List (List ZIn)) {q:(List (List Int))} (h:F_impl_numbers p=some q):PCall Try.prog 114 [eL (cL ZIn.c) p] (eL (cL cI) q):=by
 refine pM Try.func114 rfl (by kernel_rfl) rfl (T.sr (oN as' (TO.nil (T.sr (oN mv (oN (EvN.lenL sl27 rfl) (jD h fun g1 h=>oA (EvA.mkZ sl37 rfl rfl g1 rfl rfl) (TO.reserveN (p.length:Int).toNat (TO.clean (H0:=(bE false 0 1 23 (nrs 1 (fun i=>(true,i,0)) 1 (List.replicate (p.length:Int).toNat ([]:List Int)))::(List.replicate (p.length:Int).toNat none))) (e0:=envOf [(11,hS false 0 0 1 ((p.length:Int).toNat)),(0,eL (cL ZIn.c) p)]) (congrArg (fun r=>[bE false 0 1 23 r]++List.replicate (p.length:Int).toNat none) (nrs_nil (α:=Int) 1 1 (p.length:Int).toNat).symm) (wkC rfl (wkC rfl wkN)) (oN (EvN.asg (hS false 0 0 1 ((p.length:Int).toNat)) rfl) (TO.nil (T.sr (oN as' (TO.nil ?_))))))))))))))
 refine T.jF (G:=(NG×AH×Nat)) h (fun s2 gh=>NN gh.2.1 gh.1 1 3 cI s2) (fun s2 gh=>[(3,hS false 0 gh.2.2 1 s2.length)]) (fun s2 gh=>(bE false gh.2.2 1 23 (nrs 1 gh.1 1 s2)::gh.2.1)) (fun s2 gh h hN70 => ?_) (fun s2 h => ?_)
 ·obtain ⟨y68,kk69,u67⟩:=gh
  refine T.sr (oN mv (oN (EvN.asg (hS false 0 u67 1 s2.length) rfl) (TO.nil (T.ret ?_))))
  obtain rfl:=osj h
  repeat (first|refine retS ?_|refine retB ?_)
  exact Fin.ret (vs:=[hS false 0 u67 1 s2.length]) (.cons (.tmp rfl) .nil) (NN.fz hN70 (S:=[bE false u67 1 23 (nrs 1 y68 1 s2)]) (ver:=u67) rfl rfl (fun _=>rfl))
 ·refine T.sr (oN mv (oN (EvN.lenL sl27 rfl) (oN mv (TO.nil (T.block ?_)))))
  refine T.loop (S:=(List (List Int))×Int×Int) (G:=(NG×AH×Nat)) (F_impl_numbers_L14 p) (fun s13 gh=>NN gh.2.1 gh.1 1 3 cI s13.1) (fun s13 gh=>[(14,I s13.2.1),(13,I (p.length:Int)),(12,eL (cL ZIn.c) p),(4,I s13.2.2),(3,hS false 0 gh.2.2 1 s13.1.length)]) (fun s13 gh=>(bE false gh.2.2 1 23 (nrs 1 gh.1 1 s13.1)::gh.2.1)) (s0:=((List.replicate (p.length:Int).toNat ([]:List Int)),(0:Int),(3:Int))) ((fun i=>(true,i,0)),(List.replicate (p.length:Int).toNat none),0) h (NN.rep (p.length:Int).toNat) (cutW rfl (wkC rfl (wkC rfl (wkC rfl (wkC rfl (wkC (congrArg (hS false 0 0 1) (by simp:(p.length:Int).toNat=(List.replicate (p.length:Int).toNat ([]:List Int)).length)) wkN)))))) (fun s13 gh ws13 h hN18 => ?_)
  obtain ⟨y16,kk17,u15⟩:=gh
  refine T.sr (oN (EvN.ilt rfl rfl) (TO.nil (T.seq ?_)))
  refine T.ifH rfl h (fun q19 h => ?_) (fun q19 h => ?_)
  ·refine T.skip ?_
   refine T.jF (G:=(NG×AH×Nat)) h (fun s20 gh=>NN gh.2.1 gh.1 1 3 cI s20.1) (fun s20 gh=>[(14,I s13.2.1),(13,I (p.length:Int)),(12,eL (cL ZIn.c) p),(4,I s20.2),(3,hS false 0 gh.2.2 1 s20.1.length)]) (fun s20 gh=>(bE false gh.2.2 1 23 (nrs 1 gh.1 1 s20.1)::gh.2.1)) (fun s20 gh h hN65 => ?_) (fun s20 h => ?_)
   ·obtain ⟨y63,kk64,u62⟩:=gh
    refine T.region (jW h fun g66 h=>oN (EvN.add rfl rfl g66) (oN mv (TO.nil ?_)))
    obtain rfl:=osj h
    exact ⟨(s20.1,(s13.2.1+(1:Int)),s20.2),(y63,kk64,u62),rfl,hN65,kw rfl rfl⟩
   ·refine T.block (T.sr (oN mv (jD h fun g21 h=>oN (EvN.ixL sl27 rfl rfl g21 (fun _=>rfl)) (oN (lf (eL ZIn.c (p.getD s13.2.1.toNat default)) ty57 rfl) (oN as' (oN as' (TO.nil (T.sr (oN mv (oN (EvN.lenL sl57 rfl) (oN mv (TO.nil (T.block ?_)))))))))))))
    refine T.loop (S:=(List (List Int))×Int×Int) (G:=(NG×AH×Nat)) (F_impl_numbers_L33 p s13) (fun s32 gh=>NN gh.2.1 gh.1 1 3 cI s32.1) (fun s32 gh=>[(21,I s32.2.1),(20,I ((p.getD s13.2.1.toNat default).length:Int)),(19,eL ZIn.c (p.getD s13.2.1.toNat default)),(5,I s13.2.1),(14,I s13.2.1),(13,I (p.length:Int)),(12,eL (cL ZIn.c) p),(4,I s32.2.2),(3,hS false 0 gh.2.2 1 s32.1.length)]) (fun s32 gh=>(bE false gh.2.2 1 23 (nrs 1 gh.1 1 s32.1)::gh.2.1)) (s0:=(s13.1,(0:Int),s13.2.2)) (y16,kk17,u15) h hN18 (kw rfl rfl) (fun s32 gh ws32 h hN37 => ?_)
    obtain ⟨y35,kk36,u34⟩:=gh
    refine T.sr (oN (EvN.ilt rfl rfl) (TO.nil (T.seq ?_)))
    refine T.ifH rfl h (fun q38 h => ?_) (fun q38 h => ?_)
    ·refine T.skip ?_
     refine T.jF (G:=(NG×AH×Nat)) h (fun s39 gh=>NN gh.2.1 gh.1 1 3 cI s39.1) (fun s39 gh=>[(21,I s32.2.1),(20,I ((p.getD s13.2.1.toNat default).length:Int)),(19,eL ZIn.c (p.getD s13.2.1.toNat default)),(5,I s13.2.1),(14,I s13.2.1),(13,I (p.length:Int)),(12,eL (cL ZIn.c) p),(4,I s39.2),(3,hS false 0 gh.2.2 1 s39.1.length)]) (fun s39 gh=>(bE false gh.2.2 1 23 (nrs 1 gh.1 1 s39.1)::gh.2.1)) (fun s39 gh h hN60 => ?_) (fun s39 h => ?_)
     ·obtain ⟨y58,kk59,u57⟩:=gh
      refine T.region (jW h fun g61 h=>oN (EvN.add rfl rfl g61) (oN mv (TO.nil ?_)))
      obtain rfl:=osj h
      exact ⟨(s39.1,(s32.2.1+(1:Int)),s39.2),(y58,kk59,u57),rfl,hN60,kw rfl rfl⟩
     ·refine T.block (T.sr (jD h fun g40 h=>oN (EvN.ixL sl57 rfl rfl g40 (fun _=>rfl)) (oN (lf (.agg (ZIn.c ((p.getD s13.2.1.toNat default).getD s32.2.1.toNat default))) ty56 rfl) (oA (EvA.al zs56 rfl rfl) (TO.reid (e0:=envOf [(8,.hp 1 0 4 0 0),(24,.agg (ZIn.c ((p.getD s13.2.1.toNat default).getD s32.2.1.toNat default))),(21,I s32.2.1),(20,I ((p.getD s13.2.1.toNat default).length:Int)),(19,eL ZIn.c (p.getD s13.2.1.toNat default)),(5,I s13.2.1),(14,I s13.2.1),(13,I (p.length:Int)),(12,eL (cL ZIn.c) p),(4,I s32.2.2),(3,hS false 0 u34 1 s32.1.length)]) (Reid.rot (m:=1) (S:=[bE false u34 1 23 (nrs 1 y35 1 s32.1)]) (S':=[bE false u34 1 23 (nrs 2 y35 1 s32.1)]) (K:=kk36) (x:=some ⟨0,4,56,[[I (0:Int),I (0:Int),I (0:Int),I (0:Int)]]⟩) (x':=some ⟨0,4,56,[[I (0:Int),I (0:Int),I (0:Int),I (0:Int)]]⟩) rfl rfl rfl (.nest (hN37.renK rfl) .nil) hN37.kf (.some (.rowL (.cons (ren_isF 9 _ rfl) (.cons (ren_isF 9 _ rfl) (.cons (ren_isF 9 _ rfl) (.cons (ren_isF 9 _ rfl) .nil))))) .nil)) (renE_cons (a0:=.hp (kk36.length+1) 0 4 0 0) rfl (.hp Rot.new) (renE_F rfl rfl (renE_F rfl rfl (renE_F rfl rfl (renE_F rfl rfl (renE_F rfl rfl (renE_F rfl rfl (renE_F rfl rfl (renE_F rfl rfl (renE_F rfl rfl (renE_cons (a0:=hS false 0 u34 1 s32.1.length) rfl (ren_hSg (Rot.low rfl)) renE_nil))))))))))) (oV (sr (ZIn.c ((p.getD s13.2.1.toNat default).getD s32.2.1.toNat default)) ty56 rfl rfl rfl rfl) (TO.nil (T.sr (oN (fa fs56 rfl) (oA (lh (I (((p.getD s13.2.1.toNat default).getD s32.2.1.toNat default).Op)) ty3 rfl rfl rfl) (oN (EvN.ieq rfl rfl) (TO.nil ?_))))))))))))
      refine T.ifH rfl h (fun q41 h => ?_) (fun q41 h => ?_)
      ·refine T.region (oN mv (oN mv (oN mv (oN mv (jD h fun g42 h=>oN (EvN.ixO (g:=false) sl37 rfl rfl nofun g42) ?_)))))
       have n47:=hN37.nil_ (toNat_lt' rfl g42)
       have hX46:=hN37.opened (toNat_lt' rfl g42)
       refine TO.reid (e0:=envOf [(32,.hp 0 u34 1 s13.2.1.toNat 0),(29,I s13.2.1),(28,hS false 0 u34 1 s32.1.length),(21,I s32.2.1),(20,I ((p.getD s13.2.1.toNat default).length:Int)),(19,eL ZIn.c (p.getD s13.2.1.toNat default)),(5,I s13.2.1),(14,I s13.2.1),(13,I (p.length:Int)),(12,eL (cL ZIn.c) p),(4,I s32.2.2),(3,hS false 0 u34 1 s32.1.length)]) (Reid.open (m:=2) (S:=[bE false u34 1 23 (nrs 2 y35 1 s32.1),some ⟨0,4,56,[(ZIn.c ((p.getD s13.2.1.toNat default).getD s32.2.1.toNat default))]⟩]) (S':=[bE false u34 1 23 (nxs 3 y35 1 s32.1 s13.2.1.toNat (y35 s13.2.1.toNat).1 2 ((y35 s13.2.1.toNat).2.2) ((s32.1.getD s13.2.1.toNat []).length)),some ⟨0,4,56,[(ZIn.c ((p.getD s13.2.1.toNat default).getD s32.2.1.toNat default))]⟩]) (K:=kk36) (x:=bE (y35 s13.2.1.toNat).1 (y35 s13.2.1.toNat).2.2 1 3 ((s32.1.getD s13.2.1.toNat []).map cI)) rfl (hN37.at_ (toNat_lt' rfl g42)) rfl (.nest (hN37.renOpn (toNat_lt' rfl g42)) (.some (.rowL (.cons (ren_isF 9 _ rfl) (.cons (ren_isF 9 _ rfl) (.cons (ren_isF 9 _ rfl) (.cons (ren_isF 9 _ rfl) .nil))))) .nil)) hN37.kf) (renE_cons (a0:=.hp 0 u34 1 s13.2.1.toNat 0) rfl (.hp (Opn.low rfl)) (renE_F rfl rfl (renE_cons (a0:=hS false 0 u34 1 s32.1.length) rfl (ren_hSg (Opn.low rfl)) (renE_F rfl rfl (renE_F rfl rfl (renE_F rfl rfl (renE_F rfl rfl (renE_F rfl rfl (renE_F rfl rfl (renE_F rfl rfl (renE_F rfl rfl (renE_cons (a0:=hS false 0 u34 1 s32.1.length) rfl (ren_hSg (Opn.low rfl)) renE_nil)))))))))))) ?_
       generalize (y35 s13.2.1.toNat).1=b43 at n47 ⊢
       generalize (y35 s13.2.1.toNat).2.2=u44
       generalize kk36.set (y35 s13.2.1.toNat).2.1 none=kk45 at hX46 ⊢
       refine oA (EvA.loadhp (hS b43 2 u44 1 ((s32.1.getD s13.2.1.toNat []).length)) ty23 rfl rfl rfl rfl (nxs_get (toNat_lt' rfl g42)) rfl) (oN (EvN.mkF (c:=cI) ([(-1:Int)]:List Int) [[I (-1:Int)]] sl23 rfl rfl rfl (fun _=>rfl) (fun _=>rfl) rfl) (jL h fun g48 h=>oA (EvA.app1 (g:=b43) (l:=(s32.1.getD s13.2.1.toNat [])) (-1:Int) sl23 (by kernel_rfl) rfl rfl rfl n47 (SrcOk.fz (l:=([(-1:Int)]:List Int)) rfl (fun _=>rfl)) g48) (oN (EvN.ixO (g:=false) sl37 rfl rfl nofun g42) (oV (EvA.st (cs:=[hS false 2 (u44+1) 1 (((s32.1.getD s13.2.1.toNat [])++[(-1:Int)]).length)]) ⟨u34,1,23,(nxs 3 y35 1 s32.1 s13.2.1.toNat false 2 (u44+1) (((s32.1.getD s13.2.1.toNat [])++[(-1:Int)]).length))⟩ ty23 rfl rfl rfl rfl rfl (nxs_get hX46.hi) rfl rfl (congrArg (ABlk.mk u34 1 23) nxs_set)) (TO.nil ?_)))))
       obtain rfl:=osj h
       exact ⟨((up 1 ((up 1 y35).put s13.2.1.toNat (false,0,u44+1))),(some ⟨0,4,56,[(ZIn.c ((p.getD s13.2.1.toNat default).getD s32.2.1.toNat default))]⟩::(bE false (u44+1) 1 3 (((s32.1.getD s13.2.1.toNat [])++[(-1:Int)]).map cI)::kk45)),u34),((hX46.close (g:=false) (v:=u44+1) (r:=((s32.1.getD s13.2.1.toNat [])++[(-1:Int)])) nofun (fun _=>rfl)).push (fun _ hb=>osi hb ▸ rowsF_row rfl)),cutW (congrArg (fun r_:List (List AV)=>(bE false u34 1 23 r_::some ⟨0,4,56,[(ZIn.c ((p.getD s13.2.1.toNat default).getD s32.2.1.toNat default))]⟩::bE false (u44+1) 1 3 (((s32.1.getD s13.2.1.toNat [])++[(-1:Int)]).map cI)::kk45:AH)) (show (nxs 3 y35 1 s32.1 s13.2.1.toNat false 2 (u44+1) (((s32.1.getD s13.2.1.toNat [])++[(-1:Int)]).length))=nrs 1 (up 1 ((up 1 y35).put s13.2.1.toNat (false,0,u44+1))) 1 (s32.1.set s13.2.1.toNat ((s32.1.getD s13.2.1.toNat [])++[(-1:Int)])) from nxs_close (m:=2) (gh:=y35) (r:=((s32.1.getD s13.2.1.toNat [])++[(-1:Int)])) hX46.hi).symm) (wkC rfl (wkC rfl (wkC rfl (wkC rfl (wkC rfl (wkC rfl (wkC rfl (wkC rfl (wkC (congrArg (hS false 0 u34 1) (by simp:s32.1.length=(s32.1.set s13.2.1.toNat ((s32.1.getD s13.2.1.toNat [])++[(-1:Int)])).length)) wkN)))))))))⟩
      ·refine T.sr (oN mv (oN mv (oN mv (oN mv (jD h fun g49 h=>oN (EvN.ixO (g:=false) sl37 rfl rfl nofun g49) ?_)))))
       have n54:=hN37.nil_ (toNat_lt' rfl g49)
       have hX53:=hN37.opened (toNat_lt' rfl g49)
       refine TO.reid (e0:=envOf [(41,.hp 0 u34 1 s13.2.1.toNat 0),(38,I s13.2.1),(37,hS false 0 u34 1 s32.1.length),(21,I s32.2.1),(20,I ((p.getD s13.2.1.toNat default).length:Int)),(19,eL ZIn.c (p.getD s13.2.1.toNat default)),(5,I s13.2.1),(14,I s13.2.1),(13,I (p.length:Int)),(12,eL (cL ZIn.c) p),(4,I s32.2.2),(3,hS false 0 u34 1 s32.1.length)]) (Reid.open (m:=2) (S:=[bE false u34 1 23 (nrs 2 y35 1 s32.1),some ⟨0,4,56,[(ZIn.c ((p.getD s13.2.1.toNat default).getD s32.2.1.toNat default))]⟩]) (S':=[bE false u34 1 23 (nxs 3 y35 1 s32.1 s13.2.1.toNat (y35 s13.2.1.toNat).1 2 ((y35 s13.2.1.toNat).2.2) ((s32.1.getD s13.2.1.toNat []).length)),some ⟨0,4,56,[(ZIn.c ((p.getD s13.2.1.toNat default).getD s32.2.1.toNat default))]⟩]) (K:=kk36) (x:=bE (y35 s13.2.1.toNat).1 (y35 s13.2.1.toNat).2.2 1 3 ((s32.1.getD s13.2.1.toNat []).map cI)) rfl (hN37.at_ (toNat_lt' rfl g49)) rfl (.nest (hN37.renOpn (toNat_lt' rfl g49)) (.some (.rowL (.cons (ren_isF 9 _ rfl) (.cons (ren_isF 9 _ rfl) (.cons (ren_isF 9 _ rfl) (.cons (ren_isF 9 _ rfl) .nil))))) .nil)) hN37.kf) (renE_cons (a0:=.hp 0 u34 1 s13.2.1.toNat 0) rfl (.hp (Opn.low rfl)) (renE_F rfl rfl (renE_cons (a0:=hS false 0 u34 1 s32.1.length) rfl (ren_hSg (Opn.low rfl)) (renE_F rfl rfl (renE_F rfl rfl (renE_F rfl rfl (renE_F rfl rfl (renE_F rfl rfl (renE_F rfl rfl (renE_F rfl rfl (renE_F rfl rfl (renE_cons (a0:=hS false 0 u34 1 s32.1.length) rfl (ren_hSg (Opn.low rfl)) renE_nil)))))))))))) ?_
       generalize (y35 s13.2.1.toNat).1=b50 at n54 ⊢
       generalize (y35 s13.2.1.toNat).2.2=u51
       generalize kk36.set (y35 s13.2.1.toNat).2.1 none=kk52 at hX53 ⊢
       refine oA (EvA.loadhp (hS b50 2 u51 1 ((s32.1.getD s13.2.1.toNat []).length)) ty23 rfl rfl rfl rfl (nxs_get (toNat_lt' rfl g49)) rfl) (oN mv (oN (EvN.mkF (c:=cI) ([s32.2.2]:List Int) [[I s32.2.2]] sl23 rfl rfl rfl (fun _=>rfl) (fun _=>rfl) rfl) (jL h fun g55 h=>oA (EvA.app1 (g:=b50) (l:=(s32.1.getD s13.2.1.toNat [])) s32.2.2 sl23 (by kernel_rfl) rfl rfl rfl n54 (SrcOk.fz (l:=([s32.2.2]:List Int)) rfl (fun _=>rfl)) g55) (oN (EvN.ixO (g:=false) sl37 rfl rfl nofun g49) (oV (EvA.st (cs:=[hS false 2 (u51+1) 1 (((s32.1.getD s13.2.1.toNat [])++[s32.2.2]).length)]) ⟨u34,1,23,(nxs 3 y35 1 s32.1 s13.2.1.toNat false 2 (u51+1) (((s32.1.getD s13.2.1.toNat [])++[s32.2.2]).length))⟩ ty23 rfl rfl rfl rfl rfl (nxs_get hX53.hi) rfl rfl (congrArg (ABlk.mk u34 1 23) nxs_set)) (TO.nil (T.region (oN mv (jW h fun g56 h=>oN (EvN.add rfl rfl g56) (oN as' (TO.nil ?_)))))))))))
       obtain rfl:=osj h
       exact ⟨((up 1 ((up 1 y35).put s13.2.1.toNat (false,0,u51+1))),(some ⟨0,4,56,[(ZIn.c ((p.getD s13.2.1.toNat default).getD s32.2.1.toNat default))]⟩::(bE false (u51+1) 1 3 (((s32.1.getD s13.2.1.toNat [])++[s32.2.2]).map cI)::kk52)),u34),((hX53.close (g:=false) (v:=u51+1) (r:=((s32.1.getD s13.2.1.toNat [])++[s32.2.2])) nofun (fun _=>rfl)).push (fun _ hb=>osi hb ▸ rowsF_row rfl)),cutW (congrArg (fun r_:List (List AV)=>(bE false u34 1 23 r_::some ⟨0,4,56,[(ZIn.c ((p.getD s13.2.1.toNat default).getD s32.2.1.toNat default))]⟩::bE false (u51+1) 1 3 (((s32.1.getD s13.2.1.toNat [])++[s32.2.2]).map cI)::kk52:AH)) (show (nxs 3 y35 1 s32.1 s13.2.1.toNat false 2 (u51+1) (((s32.1.getD s13.2.1.toNat [])++[s32.2.2]).length))=nrs 1 (up 1 ((up 1 y35).put s13.2.1.toNat (false,0,u51+1))) 1 (s32.1.set s13.2.1.toNat ((s32.1.getD s13.2.1.toNat [])++[s32.2.2])) from nxs_close (m:=2) (gh:=y35) (r:=((s32.1.getD s13.2.1.toNat [])++[s32.2.2])) hX53.hi).symm) (wkC rfl (wkC rfl (wkC rfl (wkC rfl (wkC rfl (wkC rfl (wkC rfl (wkC rfl (wkC (congrArg (hS false 0 u34 1) (by simp:s32.1.length=(s32.1.set s13.2.1.toNat ((s32.1.getD s13.2.1.toNat [])++[s32.2.2])).length)) wkN)))))))))⟩
    ·refine T.exit (lX h fun h => ?_)
     obtain rfl:=osj h
     exact ⟨(y35,kk36,u34),hN37,kw rfl rfl⟩
  ·refine T.exit (lX h fun h => ?_)
   obtain rfl:=osj h
   exact ⟨(y16,kk17,u15),hN18,kw rfl rfl⟩
end Go.Proofs.Ytlmjnhnpahicmaa
