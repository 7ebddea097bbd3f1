/-
 The program's code computes the functions over plain values; printed by lift.py. No conditions.
-/
import Derived.Test.YtlmjnhnpahicmaaS26d
import Derived.Test.YtlmjnhnpahicmaaSf
import Derived.Test.YtlmjnhnpahicmaaL15
import Derived.Test.YtlmjnhnpahicmaaGH
import Derived.Test.YtlmjnhnpahicmaaBrV
namespace Go.Proofs.Ytlmjnhnpahicmaa
open Go.RowKit
set_option maxRecDepth 100000
theorem F_laws_toInstr_P (a : Xlaws_Instr) {q : ZIn} (h : F_laws_toInstr a = some q) : PCall Try.prog 86 [.agg (Xlaws_Instr.c a)] (.agg (ZIn.c q)) := by
 refine PCall.mkT Try.func86 rfl (by kernel_rfl) rfl (by kernel_rfl) (e0:=envOf [(0,.agg (Xlaws_Instr.c a))]) (wkC rfl wkN) (T.seq (T.region (oN (EvN.bxF [I a.Op,I a.Loc,I a.Reg,I a.Val] rfl rfl rfl) (oA (EvA.al zs56 rfl rfl) (TO.nil (T.seq (T.region ?_)))))))
 refine oA (EvA.al zs56 rfl rfl) (TO.nil (T.seq (T.region (oN (EvN.fafp Try.underlying93 rfl (by kernel_rfl) rfl) (oN (EvN.loadfp (I a.Op) ty3 rfl rfl) (oN (EvN.fahp Try.underlying56 rfl (by kernel_rfl) rfl) (oV (EvA.st (cs:=[I a.Op]) ⟨0,4,56,[[I a.Op,I (0 : Int),I (0 : Int),I (0 : Int)]]⟩ ty3 rfl rfl rfl rfl rfl rfl rfl rfl rfl) ?_)))))))
 refine TO.nil (T.seq (T.region (oN (EvN.fafp Try.underlying93 rfl (by kernel_rfl) rfl) (oN (EvN.loadfp (I a.Loc) ty3 rfl rfl) (oN (EvN.fahp Try.underlying56 rfl (by kernel_rfl) rfl) (oV (EvA.st (cs:=[I a.Loc]) ⟨0,4,56,[[I a.Op,I a.Loc,I (0 : Int),I (0 : Int)]]⟩ ty3 rfl rfl rfl rfl rfl rfl rfl rfl rfl) (TO.nil ?_)))))))
 refine T.seq (T.clean (H0:=[some ⟨0,4,56,[[I (0 : Int),I (0 : Int),I (0 : Int),I (0 : Int)]]⟩,some ⟨0,4,56,[[I a.Op,I a.Loc,I (0 : Int),I (0 : Int)]]⟩]) (e0:=envOf [(3,.hp 1 0 4 0 0),(2,.hp 0 0 4 0 0),(1,.fp (Xlaws_Instr.c a) 0)]) rfl (wkC rfl (wkC rfl (wkC rfl wkN))) (T.region (oN (EvN.fafp Try.underlying93 rfl (by kernel_rfl) rfl) (oN (EvN.loadfp (I a.Reg) ty3 rfl rfl) (oN (EvN.fahp Try.underlying56 rfl (by kernel_rfl) rfl) (oV (EvA.st (cs:=[I a.Reg]) ⟨0,4,56,[[I a.Op,I a.Loc,I a.Reg,I (0 : Int)]]⟩ ty3 rfl rfl rfl rfl rfl rfl rfl rfl rfl) (TO.nil ?_)))))))
 refine T.seq (T.region (oN (EvN.fafp Try.underlying93 rfl (by kernel_rfl) rfl) (oN (EvN.loadfp (I a.Val) ty3 rfl rfl) (oN (EvN.fahp Try.underlying56 rfl (by kernel_rfl) rfl) (oV (EvA.st (cs:=[I a.Val]) ⟨0,4,56,[[I a.Op,I a.Loc,I a.Reg,I a.Val]]⟩ ty3 rfl rfl rfl rfl rfl rfl rfl rfl rfl) (TO.nil (T.seq ?_)))))))
 refine T.clean (H0:=[some ⟨0,4,56,[[I (0 : Int),I (0 : Int),I (0 : Int),I (0 : Int)]]⟩,some ⟨0,4,56,[[I a.Op,I a.Loc,I a.Reg,I a.Val]]⟩]) (e0:=envOf [(3,.hp 1 0 4 0 0),(2,.hp 0 0 4 0 0)]) rfl (wkC rfl (wkC rfl wkN)) (T.region (oA (EvA.loadhp (.agg [I a.Op,I a.Loc,I a.Reg,I a.Val]) ty56 rfl rfl rfl rfl rfl rfl) (oV (EvA.st (cs:=[I a.Op,I a.Loc,I a.Reg,I a.Val]) ⟨0,4,56,[[I a.Op,I a.Loc,I a.Reg,I a.Val]]⟩ ty56 rfl rfl rfl rfl rfl rfl rfl rfl rfl) (TO.nil (T.ret ?_)))))
 obtain rfl := osi h
 repeat (first|refine retS ?_|refine retB ?_)
 exact Fin.ret (vs:=[.agg [I a.Op,I a.Loc,I a.Reg,I a.Val]]) (.cons (.cell (.agg [I a.Op,I a.Loc,I a.Reg,I a.Val]) ty56 rfl rfl rfl rfl rfl rfl) .nil) (.of_isF 9 _ rfl)
theorem F_laws_toInstrS_P (a : List Xlaws_Instr) {q : (List ZIn)} (h : F_laws_toInstrS a = some q) : PCall Try.prog 46 [eL Xlaws_Instr.c a] (eL ZIn.c q) := by
 refine PCall.mkT Try.func46 rfl (by kernel_rfl) rfl (by kernel_rfl) (e0:=envOf [(0,eL Xlaws_Instr.c a)]) (wkC rfl wkN) (T.seq (T.region (oN (EvN.asg (.nil) rfl) (TO.nil (T.seq (T.region (oN (EvN.mv (eL Xlaws_Instr.c a) rfl) ?_)))))))
 refine oN (EvN.lenL sl64 rfl) ?_
 obtain ⟨g1,h⟩ := gdD h
 refine oA (EvA.mkN (c:=ZIn.c) (default : ZIn) sl57 rfl rfl g1 rfl rfl rfl) (oN (EvN.asg (hS false 0 0 4 ((List.replicate (a.length : Int).toNat (default : ZIn)).length)) rfl) (TO.nil ?_))
 obtain ⟨s2,h,ks2⟩ := bindL h
 refine T.joinF (G:=Nat) (fun gh => True) (fun gh => [(3,hS false 0 gh 4 s2.length)]) (fun gh => [bE false gh 4 56 (s2.map ZIn.c)]) (fun u14 hg => ?_) ?_
 ·clear h
  have h := ks2
  clear ks2
  refine T.seq (T.region (oN (EvN.mv (hS false 0 u14 4 s2.length) rfl) (oN (EvN.asg (hS false 0 u14 4 s2.length) rfl) (TO.nil (T.ret ?_)))))
  obtain rfl := osi h
  repeat (first|refine retS ?_|refine retB ?_)
  exact Fin.ret (vs:=[hS false 0 u14 4 s2.length]) (.cons (.tmp rfl) .nil) (Fz.own (g:=false) (ver:=u14) (l:=s2) rfl rfl rfl nofun ZIn.isF)
 ·clear ks2
  refine T.seq (T.region (oN (EvN.asg (I (0 : Int)) rfl) (TO.nil (T.block ?_))))
  refine T.loop (S:=(List ZIn) × Int) (G:=Nat) (F_laws_toInstrS_L7 a) (fun s6 gh => True) (fun s6 gh => [(4,I s6.2),(3,hS false 0 gh 4 s6.1.length),(0,eL Xlaws_Instr.c a)]) (fun s6 gh => [bE false gh 4 56 (s6.1.map ZIn.c)]) (s0:=((List.replicate (a.length : Int).toNat (default : ZIn)),(0 : Int))) 0 h trivial (cutW rfl (wkC rfl (wkC rfl (wkC rfl wkN)))) (fun s6 u8 ws6 h hg => ?_)
  refine T.seq (T.seq (T.region (oN (EvN.mv (I s6.2) rfl) (oN (EvN.mv (eL Xlaws_Instr.c a) rfl) (oN (EvN.lenL sl64 rfl) (oN (EvN.ilt rfl rfl) (TO.nil ?_)))))))
  refine T.cond rfl (fun q9 => ?_) (fun q9 => ?_)
  ·replace h := condT q9 h
   refine T.skip (T.seq (T.block (T.region (oN (EvN.mv (hS false 0 u8 4 s6.1.length) rfl) (oN (EvN.mv (I s6.2) rfl) (oN (EvN.mv (eL Xlaws_Instr.c a) rfl) (oN (EvN.mv (I s6.2) rfl) ?_)))))))
   obtain ⟨g10,h⟩ := gdD h
   refine oN (EvN.ixL sl64 rfl rfl g10 (fun _ => rfl)) (oN (EvN.loadfp (.agg (Xlaws_Instr.c (a.getD s6.2.toNat default))) ty93 rfl rfl) ?_)
   obtain ⟨v11,cv11,h⟩ := bindL h
   refine oN (EvN.call rfl rfl rfl (F_laws_toInstr_P (a.getD s6.2.toNat default) cv11) rfl) ?_
   obtain ⟨g12,h⟩ := gdD h
   refine oN (EvN.ixO (g:=false) sl57 rfl rfl nofun g12) (oV (EvA.stO (g:=false) (l:=s6.1) (cs:=[I v11.Op,I v11.Loc,I v11.Reg,I v11.Val]) v11 ty56 rfl rfl rfl nofun (toNat_lt' rfl g12) rfl rfl rfl) (TO.nil (T.clean (H0:=[bE false u8 4 56 ((s6.1.set s6.2.toNat v11).map ZIn.c)]) (e0:=envOf [(4,I s6.2),(3,hS false 0 u8 4 s6.1.length),(0,eL Xlaws_Instr.c a)]) rfl (wkC rfl (wkC rfl (wkC rfl wkN))) (T.region (oN (EvN.mv (I s6.2) rfl) ?_)))))
   obtain ⟨g13,h⟩ := gdW h
   refine oN (EvN.add rfl rfl g13) (oN (EvN.asg (I (s6.2 + (1 : Int))) rfl) (TO.nil ?_))
   obtain rfl := osi h
   exact ⟨((s6.1.set s6.2.toNat v11),(s6.2 + (1 : Int))),u8,rfl,trivial,cutW rfl (wkC rfl (wkC (congrArg (hS false 0 u8 4) (by simp : s6.1.length = (s6.1.set s6.2.toNat v11).length)) (wkC rfl wkN)))⟩
  ·replace h := condF q9 h
   refine T.exit ?_
   refine ⟨_,(osi h).symm,fun h => ?_⟩
   replace h := congrArg some h
   obtain rfl := osi h
   exact ⟨u8,trivial,cutW rfl (wkC rfl wkN)⟩
theorem F_spec_l3Start_P (p : List (List ZIn)) (buffers : Int) {q : ZSt} (h : F_spec_l3Start p buffers = some q) : PCall Try.prog 116 [eL (cL ZIn.c) p,I buffers] (.agg (ZSt.c q)) := by
 refine PCall.mkT Try.func116 rfl (by kernel_rfl) rfl (by kernel_rfl) (e0:=envOf [(0,eL (cL ZIn.c) p),(1,I buffers)]) (wkC rfl (wkC rfl wkN)) ?_
 let d0 := ((p.length : Int) * (3 : Int))
 refine T.seq (T.region (oA (EvA.al zs129 rfl rfl) (TO.nil (T.seq (T.reserve (T.drawF (fun i => [([],false),([],false),([],false),([],false),([],false),([],false),([],false),([],false),([],false),([1],true),([1],true)].getD i ([],false)) (by kernel_rfl) (by kernel_rfl) (fN rfl (EvN.mv (eL (cL ZIn.c) p) rfl) ?_)))))))
 refine fN rfl (EvN.lenL sl27 rfl) ?_
 obtain ⟨g1,h⟩ := gdD h
 refine fN rfl (EvN.msF (c:=cI) (default : Int) sl23 rfl rfl g1 rfl rfl (fun _ => rfl)) (fN rfl (EvN.mv (eL (cL ZIn.c) p) rfl) (fN rfl (EvN.lenL sl27 rfl) ?_))
 obtain ⟨g2,h⟩ := gdW h
 refine fN rfl (EvN.mul rfl rfl g2) ?_
 obtain ⟨g3,h⟩ := gdD h
 refine fN rfl (EvN.msF (c:=cI) (default : Int) sl23 rfl rfl g3 rfl rfl (fun _ => rfl)) ?_
 obtain ⟨g4,h⟩ := gdD h
 refine fN rfl (EvN.msF (c:=cI) (default : Int) sl23 rfl rfl g4 rfl rfl (fun _ => rfl)) (fN rfl (EvN.build [eL cI (List.replicate (p.length : Int).toNat (default : Int)),eL cI (List.replicate d0.toNat (default : Int)),eL cI (List.replicate (3 : Int).toNat (default : Int)),.nil] Try.underlying129 zs129 fs129 rfl rfl) (fW 1 [] rfl rfl (fun G hG => EvA.alR 1 zs129 rfl rfl (hG.a0 rfl)) (fV 1 [] rfl rfl (fun G hG => EvA.st (cs:=[eL cI (List.replicate (p.length : Int).toNat (default : Int)),eL cI (List.replicate d0.toNat (default : Int)),eL cI (List.replicate (3 : Int).toNat (default : Int)),.nil]) ⟨0,4,129,[[eL cI (List.replicate (p.length : Int).toNat (default : Int)),eL cI (List.replicate d0.toNat (default : Int)),eL cI (List.replicate (3 : Int).toNat (default : Int)),.nil]]⟩ ty129 rfl rfl (hG.a0 rfl) rfl rfl rfl rfl rfl rfl) (TF.nil (T.seq (T.clean (H0:=[some ⟨0,4,129,[[.nil,.nil,.nil,.nil]]⟩,some ⟨0,4,129,[[eL cI (List.replicate (p.length : Int).toNat (default : Int)),eL cI (List.replicate d0.toNat (default : Int)),eL cI (List.replicate (3 : Int).toNat (default : Int)),.nil]]⟩]) (e0:=envOf [(5,.hp 1 0 4 0 0),(4,.hp 0 0 4 0 0),(1,I buffers)]) rfl (wkC rfl (wkC rfl (wkC rfl wkN))) (T.region ?_)))))))
 refine oN (EvN.mv (I buffers) rfl) ?_
 obtain ⟨g5,h⟩ := gdD h
 refine oN (EvN.msZ (f:=cI) sl37 rfl rfl g5 rfl) (oN (EvN.fahp Try.underlying129 rfl (by kernel_rfl) rfl) (oV (EvA.st (cs:=[eL (cL cI) (List.replicate buffers.toNat ([] : List Int))]) ⟨0,4,129,[[eL cI (List.replicate (p.length : Int).toNat (default : Int)),eL cI (List.replicate d0.toNat (default : Int)),eL cI (List.replicate (3 : Int).toNat (default : Int)),eL (cL cI) (List.replicate buffers.toNat ([] : List Int))]]⟩ ty37 rfl rfl rfl rfl rfl rfl rfl rfl rfl) (TO.nil (T.seq (T.region (oA (EvA.loadhp (.agg [eL cI (List.replicate (p.length : Int).toNat (default : Int)),eL cI (List.replicate d0.toNat (default : Int)),eL cI (List.replicate (3 : Int).toNat (default : Int)),eL (cL cI) (List.replicate buffers.toNat ([] : List Int))]) ty129 rfl rfl rfl rfl rfl rfl) (oV (EvA.st (cs:=[eL cI (List.replicate (p.length : Int).toNat (default : Int)),eL cI (List.replicate d0.toNat (default : Int)),eL cI (List.replicate (3 : Int).toNat (default : Int)),eL (cL cI) (List.replicate buffers.toNat ([] : List Int))]) ⟨0,4,129,[[eL cI (List.replicate (p.length : Int).toNat (default : Int)),eL cI (List.replicate d0.toNat (default : Int)),eL cI (List.replicate (3 : Int).toNat (default : Int)),eL (cL cI) (List.replicate buffers.toNat ([] : List Int))]]⟩ ty129 rfl rfl rfl rfl rfl rfl rfl rfl rfl) ?_)))))))
 refine TO.nil (T.ret ?_)
 obtain rfl := osi h
 repeat (first|refine retS ?_|refine retB ?_)
 exact Fin.ret (vs:=[.agg [eL cI (List.replicate (p.length : Int).toNat (default : Int)),eL cI (List.replicate d0.toNat (default : Int)),eL cI (List.replicate (3 : Int).toNat (default : Int)),eL (cL cI) (List.replicate buffers.toNat ([] : List Int))]]) (.cons (.cell (.agg [eL cI (List.replicate (p.length : Int).toNat (default : Int)),eL cI (List.replicate d0.toNat (default : Int)),eL cI (List.replicate (3 : Int).toNat (default : Int)),eL (cL cI) (List.replicate buffers.toNat ([] : List Int))]) ty129 rfl rfl rfl rfl rfl rfl) .nil) (.of_isF 9 _ rfl)
theorem F_spec_l3Copy_OS (s : ZSt) {q : ZSt} (h : F_spec_l3Copy s = some q) : ACall Try.prog 152 [.agg (ZSt.c s)] [] (.agg [hS false 0 (0 + 1) 1 q.at_.length,hS false 1 (0 + 1) 1 q.regs.length,hS false 2 (0 + 1) 1 q.mem.length,.nil]) [bE false (0 + 1) 1 3 (q.at_.map cI),bE false (0 + 1) 1 3 (q.regs.map cI),bE false (0 + 1) 1 3 (q.mem.map cI)] := by
 refine ACall.mkOS Try.func152 rfl (by kernel_rfl) rfl (by kernel_rfl) (e0:=envOf [(0,.agg (ZSt.c s))]) (wkC rfl wkN) (T.seq (T.region (oN (EvN.bxF [eL cI s.at_,eL cI s.regs,eL cI s.mem,eL (cL cI) s.buf] rfl rfl rfl) (oA (EvA.al zs129 rfl rfl) (TO.nil (T.seq (T.reserve ?_)))))))
 refine T.reserve (T.reserve (T.reserve (T.drawF (fun i => [([1],true),([],false),([],false),([1],true),([2],true),([],false),([],false),([2],true),([3],true),([],false),([],false),([3],true),([],false),([4],true),([4],true)].getD i ([],false)) (by kernel_rfl) (by kernel_rfl) (fW 1 [] rfl rfl (fun G hG => EvA.mkOR (c:=cI) 1 ([] : List Int) [] sl23 rfl rfl rfl (fun _ => rfl) (fun _ => rfl) rfl (hG.a0 rfl)) (fN rfl (EvN.fafp Try.underlying129 rfl (by kernel_rfl) rfl) (fN rfl (EvN.loadfp (eL cI s.at_) ty23 rfl rfl) ?_))))))
 obtain ⟨g1,h⟩ := gdL h
 refine fW 1 [] rfl rfl (fun G hG => EvA.appF (l:=([] : List Int)) s.at_ sl23 (by kernel_rfl) rfl rfl (hG.a0 rfl) (SrcOk.fz (l:=s.at_) rfl (fun _ => rfl)) g1) (fW 2 [] rfl rfl (fun G hG => EvA.mkOR (c:=cI) 2 ([] : List Int) [] sl23 rfl rfl rfl (fun _ => rfl) (fun _ => rfl) rfl (hG.a0 rfl)) (fN rfl (EvN.fafp Try.underlying129 rfl (by kernel_rfl) rfl) (fN rfl (EvN.loadfp (eL cI s.regs) ty23 rfl rfl) ?_)))
 obtain ⟨g2,h⟩ := gdL h
 refine fW 2 [] rfl rfl (fun G hG => EvA.appF (l:=([] : List Int)) s.regs sl23 (by kernel_rfl) rfl rfl (hG.a0 rfl) (SrcOk.fz (l:=s.regs) rfl (fun _ => rfl)) g2) (fW 3 [] rfl rfl (fun G hG => EvA.mkOR (c:=cI) 3 ([] : List Int) [] sl23 rfl rfl rfl (fun _ => rfl) (fun _ => rfl) rfl (hG.a0 rfl)) (fN rfl (EvN.fafp Try.underlying129 rfl (by kernel_rfl) rfl) (fN rfl (EvN.loadfp (eL cI s.mem) ty23 rfl rfl) ?_)))
 obtain ⟨g3,h⟩ := gdL h
 refine fW 3 [] rfl rfl (fun G hG => EvA.appF (l:=([] : List Int)) s.mem sl23 (by kernel_rfl) rfl rfl (hG.a0 rfl) (SrcOk.fz (l:=s.mem) rfl (fun _ => rfl)) g3) (fN rfl (EvN.build [hS false 1 (0 + 1) 1 ((([] : List Int) ++ s.at_).length),hS false 2 (0 + 1) 1 ((([] : List Int) ++ s.regs).length),hS false 3 (0 + 1) 1 ((([] : List Int) ++ s.mem).length),.nil] Try.underlying129 zs129 fs129 rfl rfl) (fW 4 [] rfl rfl (fun G hG => EvA.alR 4 zs129 rfl rfl (hG.a0 rfl)) (fV 4 [] rfl rfl (fun G hG => EvA.st (cs:=[hS false 1 (0 + 1) 1 ((([] : List Int) ++ s.at_).length),hS false 2 (0 + 1) 1 ((([] : List Int) ++ s.regs).length),hS false 3 (0 + 1) 1 ((([] : List Int) ++ s.mem).length),.nil]) ⟨0,4,129,[[hS false 1 (0 + 1) 1 ((([] : List Int) ++ s.at_).length),hS false 2 (0 + 1) 1 ((([] : List Int) ++ s.regs).length),hS false 3 (0 + 1) 1 ((([] : List Int) ++ s.mem).length),.nil]]⟩ ty129 rfl rfl (hG.a0 rfl) rfl rfl rfl rfl rfl rfl) (TF.nil ?_))))
 obtain ⟨s4,h,ks4⟩ := bindL h
 refine T.joinF (G:=Unit) (fun gh => True) (fun gh => [(3,.hp 4 0 4 0 0),(2,.hp 0 0 4 0 0)]) (fun gh => [some ⟨0,4,129,[[.nil,.nil,.nil,.nil]]⟩,bE false (0 + 1) 1 3 ((([] : List Int) ++ s.at_).map cI),bE false (0 + 1) 1 3 ((([] : List Int) ++ s.regs).map cI),bE false (0 + 1) 1 3 ((([] : List Int) ++ s.mem).map cI),some ⟨0,4,129,[[hS false 1 (0 + 1) 1 ((([] : List Int) ++ s.at_).length),hS false 2 (0 + 1) 1 ((([] : List Int) ++ s.regs).length),hS false 3 (0 + 1) 1 ((([] : List Int) ++ s.mem).length),.nil]]⟩]) (fun gh hg => ?_) ?_
 ·clear h
  have h := ks4
  clear ks4
  refine T.seq (T.region (oA (EvA.loadhp (.agg [hS false 1 (0 + 1) 1 ((([] : List Int) ++ s.at_).length),hS false 2 (0 + 1) 1 ((([] : List Int) ++ s.regs).length),hS false 3 (0 + 1) 1 ((([] : List Int) ++ s.mem).length),.nil]) ty129 rfl rfl rfl rfl rfl rfl) (oV (EvA.st (cs:=[hS false 1 (0 + 1) 1 ((([] : List Int) ++ s.at_).length),hS false 2 (0 + 1) 1 ((([] : List Int) ++ s.regs).length),hS false 3 (0 + 1) 1 ((([] : List Int) ++ s.mem).length),.nil]) ⟨0,4,129,[[hS false 1 (0 + 1) 1 ((([] : List Int) ++ s.at_).length),hS false 2 (0 + 1) 1 ((([] : List Int) ++ s.regs).length),hS false 3 (0 + 1) 1 ((([] : List Int) ++ s.mem).length),.nil]]⟩ ty129 rfl rfl rfl rfl rfl rfl rfl rfl rfl) (TO.nil (T.ret ?_)))))
  obtain rfl := osi h
  repeat (first|refine retS ?_|refine retB ?_)
  exact Fin.ret (vs:=[.agg [hS false 1 (0 + 1) 1 ((([] : List Int) ++ s.at_).length),hS false 2 (0 + 1) 1 ((([] : List Int) ++ s.regs).length),hS false 3 (0 + 1) 1 ((([] : List Int) ++ s.mem).length),.nil]]) (.cons (.cell (.agg [hS false 1 (0 + 1) 1 ((([] : List Int) ++ s.at_).length),hS false 2 (0 + 1) 1 ((([] : List Int) ++ s.regs).length),hS false 3 (0 + 1) 1 ((([] : List Int) ++ s.mem).length),.nil]) ty129 rfl rfl rfl rfl rfl rfl) .nil) ⟨[1,2,3],OSQ.mk (by decide) (.cons rfl (rowsF_list (fun _ => rfl)) (.cons rfl (rowsF_list (fun _ => rfl)) (.cons rfl (rowsF_list (fun _ => rfl)) .nil))) (Ren.aggL (.cons (ren_pl rfl) (.cons (ren_pl rfl) (.cons (ren_pl rfl) (.cons (.pF rfl) .nil)))))⟩
 ·clear ks4
  refine T.seq (T.clean (H0:=[some ⟨0,4,129,[[.nil,.nil,.nil,.nil]]⟩,bE false (0 + 1) 1 3 ((([] : List Int) ++ s.at_).map cI),bE false (0 + 1) 1 3 ((([] : List Int) ++ s.regs).map cI),bE false (0 + 1) 1 3 ((([] : List Int) ++ s.mem).map cI),some ⟨0,4,129,[[hS false 1 (0 + 1) 1 ((([] : List Int) ++ s.at_).length),hS false 2 (0 + 1) 1 ((([] : List Int) ++ s.regs).length),hS false 3 (0 + 1) 1 ((([] : List Int) ++ s.mem).length),.nil]]⟩]) (e0:=envOf [(3,.hp 4 0 4 0 0),(2,.hp 0 0 4 0 0),(1,.fp (ZSt.c s) 0)]) rfl (wkC rfl (wkC rfl (wkC rfl wkN))) (T.region (oN (EvN.asg (I (0 : Int)) rfl) (TO.nil (T.block ?_)))))
  refine T.loop (S:=Unit) (G:=Unit) (F_spec_l3Copy_L7 s) (fun s6 gh => True) (fun s6 gh => [(4,I (0 : Int)),(3,.hp 4 0 4 0 0),(2,.hp 0 0 4 0 0),(1,.fp (ZSt.c s) 0)]) (fun s6 gh => [some ⟨0,4,129,[[.nil,.nil,.nil,.nil]]⟩,bE false (0 + 1) 1 3 ((([] : List Int) ++ s.at_).map cI),bE false (0 + 1) 1 3 ((([] : List Int) ++ s.regs).map cI),bE false (0 + 1) 1 3 ((([] : List Int) ++ s.mem).map cI),some ⟨0,4,129,[[hS false 1 (0 + 1) 1 ((([] : List Int) ++ s.at_).length),hS false 2 (0 + 1) 1 ((([] : List Int) ++ s.regs).length),hS false 3 (0 + 1) 1 ((([] : List Int) ++ s.mem).length),.nil]]⟩]) (s0:=()) () h trivial (cutW rfl (wkC rfl (wkC rfl (wkC rfl (wkC rfl wkN))))) (fun s6 gh ws6 h hg => ?_)
  refine T.seq (T.seq (T.region (oN (EvN.mv (I (0 : Int)) rfl) (oN (EvN.fafp Try.underlying129 rfl (by kernel_rfl) rfl) (oN (EvN.loadfp (eL (cL cI) s.buf) ty37 rfl rfl) (oN (EvN.lenL sl37 rfl) (oN (EvN.ilt rfl rfl) ?_)))))))
  refine TO.nil ?_
  refine T.cond rfl (fun q8 => ?_) (fun q8 => ?_)
  ·replace h := condT q8 h
   cases h
  ·replace h := condF q8 h
   refine T.exit ?_
   refine ⟨_,(osi h).symm,fun h => ?_⟩
   replace h := congrArg some h
   obtain rfl := osi h
   exact ⟨(),trivial,cutW rfl (wkC rfl (wkC rfl wkN))⟩
theorem F_spec_l1Reads_P (x : ZIn) {q : Bool} (h : F_spec_l1Reads x = some q) : PCall Try.prog 144 [.agg (ZIn.c x)] (Bo q) := by
 refine PCall.mkT Try.func144 rfl (by kernel_rfl) rfl (by kernel_rfl) (e0:=envOf [(0,.agg (ZIn.c x))]) (wkC rfl wkN) (T.seq (T.region (oN (EvN.bxF [I x.Op,I x.Loc,I x.Reg,I x.Val] rfl rfl rfl) (oN (EvN.asg (Bo false) rfl) (TO.nil (T.seq (T.region ?_)))))))
 refine oN (EvN.fafp Try.underlying56 rfl (by kernel_rfl) rfl) (oN (EvN.loadfp (I x.Op) ty3 rfl rfl) (oN (EvN.ieq rfl rfl) (oN (EvN.mv (Bo (x.Op == (1 : Int))) rfl) ?_)))
 obtain ⟨s1,h,ks1⟩ := bindL h
 refine TO.joinF (G:=Unit) 4 (fun _ => True) (fun _ => [(10,Bo s1)]) (fun _ => []) ?_ (fun js1 => ?_)
 rotate_left
 ·clear ks1
  rcases bifL h with ⟨q2,h⟩ | ⟨q2,h⟩
  ·refine gS rfl q2 (gS rfl q2 (gS rfl q2 (oN (EvN.pickT rfl q2 (Bo true) rfl) ?_)))
   obtain rfl := osi h
   exact js1 _ _ ⟨(),trivial,cutW rfl (wkC rfl wkN)⟩
  ·refine gN rfl q2 (EvN.fafp Try.underlying56 rfl (by kernel_rfl) rfl) (gN rfl q2 (EvN.loadfp (I x.Op) ty3 rfl rfl) (gN rfl q2 (EvN.ieq rfl rfl) (oN (EvN.pickF rfl q2 (Bo (x.Op == (5 : Int))) rfl) ?_)))
   obtain rfl := osi h
   exact js1 _ _ ⟨(),trivial,cutW rfl (wkC rfl wkN)⟩
 ·intro _ _
  replace h := ks1
  clear ks1
  refine oN (EvN.asg (Bo s1) rfl) (TO.nil (T.ret ?_))
  obtain rfl := osi h
  repeat (first|refine retS ?_|refine retB ?_)
  exact Fin.ret (vs:=[Bo s1]) (.cons (.tmp rfl) .nil) (.of_isF 9 _ rfl)
theorem F_spec_l3Reg_P (t : Int) (reg : Int) {q : Int} (h : F_spec_l3Reg t reg = some q) : PCall Try.prog 153 [I t,I reg] (I q) := by
 refine PCall.mkT Try.func153 rfl (by kernel_rfl) rfl (by kernel_rfl) (e0:=envOf [(0,I t),(1,I reg)]) (wkC rfl (wkC rfl wkN)) (T.seq (T.region (oN (EvN.asg (I (0 : Int)) rfl) (TO.nil (T.seq (T.region (oN (EvN.mv (I t) rfl) ?_)))))))
 obtain ⟨g1,h⟩ := gdW h
 refine oN (EvN.mul rfl rfl g1) (oN (EvN.mv (I reg) rfl) ?_)
 obtain ⟨g2,h⟩ := gdW h
 refine oN (EvN.add rfl rfl g2) (oN (EvN.asg (I ((t * (3 : Int)) + reg)) rfl) (TO.nil (T.ret ?_)))
 obtain rfl := osi h
 repeat (first|refine retS ?_|refine retB ?_)
 exact Fin.ret (vs:=[I ((t * (3 : Int)) + reg)]) (.cons (.tmp rfl) .nil) (.of_isF 9 _ rfl)
theorem F_spec_l1Writes_P (x : ZIn) {q : Bool} (h : F_spec_l1Writes x = some q) : PCall Try.prog 145 [.agg (ZIn.c x)] (Bo q) := by
 refine PCall.mkT Try.func145 rfl (by kernel_rfl) rfl (by kernel_rfl) (e0:=envOf [(0,.agg (ZIn.c x))]) (wkC rfl wkN) (T.seq (T.region (oN (EvN.bxF [I x.Op,I x.Loc,I x.Reg,I x.Val] rfl rfl rfl) (oN (EvN.asg (Bo false) rfl) (TO.nil (T.seq (T.region ?_)))))))
 refine oN (EvN.fafp Try.underlying56 rfl (by kernel_rfl) rfl) (oN (EvN.loadfp (I x.Op) ty3 rfl rfl) (oN (EvN.ieq rfl rfl) (oN (EvN.mv (Bo (x.Op == (2 : Int))) rfl) ?_)))
 obtain ⟨s1,h,ks1⟩ := bindL h
 refine TO.joinF (G:=Unit) 4 (fun _ => True) (fun _ => [(10,Bo s1),(1,.fp (ZIn.c x) 0)]) (fun _ => []) ?_ (fun js1 => ?_)
 rotate_left
 ·clear ks1
  rcases bifL h with ⟨q2,h⟩ | ⟨q2,h⟩
  ·refine gS rfl q2 (gS rfl q2 (gS rfl q2 (oN (EvN.pickT rfl q2 (Bo true) rfl) ?_)))
   obtain rfl := osi h
   exact js1 _ _ ⟨(),trivial,cutW rfl (wkC rfl (wkC rfl wkN))⟩
  ·refine gN rfl q2 (EvN.fafp Try.underlying56 rfl (by kernel_rfl) rfl) (gN rfl q2 (EvN.loadfp (I x.Op) ty3 rfl rfl) (gN rfl q2 (EvN.ieq rfl rfl) (oN (EvN.pickF rfl q2 (Bo (x.Op == (3 : Int))) rfl) ?_)))
   obtain rfl := osi h
   exact js1 _ _ ⟨(),trivial,cutW rfl (wkC rfl (wkC rfl wkN))⟩
 ·intro _ _
  replace h := ks1
  clear ks1
  refine oN (EvN.mv (Bo s1) rfl) ?_
  obtain ⟨s3,h,ks3⟩ := bindL h
  refine TO.joinF (G:=Unit) 4 (fun _ => True) (fun _ => [(15,Bo s3)]) (fun _ => []) ?_ (fun js3 => ?_)
  rotate_left
  ·clear ks3
   rcases bifL h with ⟨q4,h⟩ | ⟨q4,h⟩
   ·refine gS rfl q4 (gS rfl q4 (gS rfl q4 (oN (EvN.pickT rfl q4 (Bo true) rfl) ?_)))
    obtain rfl := osi h
    exact js3 _ _ ⟨(),trivial,cutW rfl (wkC rfl wkN)⟩
   ·refine gN rfl q4 (EvN.fafp Try.underlying56 rfl (by kernel_rfl) rfl) (gN rfl q4 (EvN.loadfp (I x.Op) ty3 rfl rfl) (gN rfl q4 (EvN.ieq rfl rfl) (oN (EvN.pickF rfl q4 (Bo (x.Op == (5 : Int))) rfl) ?_)))
    obtain rfl := osi h
    exact js3 _ _ ⟨(),trivial,cutW rfl (wkC rfl wkN)⟩
  ·intro _ _
   replace h := ks3
   clear ks3
   refine oN (EvN.asg (Bo s3) rfl) (TO.nil (T.ret ?_))
   obtain rfl := osi h
   repeat (first|refine retS ?_|refine retB ?_)
   exact Fin.ret (vs:=[Bo s3]) (.cons (.tmp rfl) .nil) (.of_isF 9 _ rfl)
theorem F_spec_l3Value_P (s : ZSt) (t : Int) (x : ZIn) {q : Int} (h : F_spec_l3Value s t x = some q) : PCall Try.prog 154 [.agg (ZSt.c s),I t,.agg (ZIn.c x)] (I q) := by
 refine PCall.mkT Try.func154 rfl (by kernel_rfl) rfl (by kernel_rfl) (e0:=envOf [(0,.agg (ZSt.c s)),(1,I t),(2,.agg (ZIn.c x))]) (wkC rfl (wkC rfl (wkC rfl wkN))) (T.seq (T.region (oN (EvN.bxF [eL cI s.at_,eL cI s.regs,eL cI s.mem,eL (cL cI) s.buf] rfl rfl rfl) (oN (EvN.bxF [I x.Op,I x.Loc,I x.Reg,I x.Val] rfl rfl rfl) (oN (EvN.asg (I (0 : Int)) rfl) (TO.nil (T.seq ?_)))))))
 refine T.seq (T.region (oN (EvN.fafp Try.underlying56 rfl (by kernel_rfl) rfl) (oN (EvN.loadfp (I x.Op) ty3 rfl rfl) (oN (EvN.ieq rfl rfl) (TO.nil ?_)))))
 refine T.cond rfl (fun q1 => ?_) (fun q1 => ?_)
 ·replace h := condT q1 h
  refine T.seq (T.clean (H0:=[]) (e0:=envOf [(5,.fp (ZIn.c x) 0),(3,.fp (ZSt.c s) 0),(1,I t)]) rfl (wkC rfl (wkC rfl (wkC rfl wkN))) (T.drawF (fun _ => ([],false)) (by kernel_rfl) (by kernel_rfl) (fN rfl (EvN.fafp Try.underlying129 rfl (by kernel_rfl) rfl) (fN rfl (EvN.loadfp (eL cI s.regs) ty23 rfl rfl) (fN rfl (EvN.mv (I t) rfl) (fN rfl (EvN.fafp Try.underlying56 rfl (by kernel_rfl) rfl) (fN rfl (EvN.loadfp (I x.Reg) ty3 rfl rfl) ?_)))))))
  obtain ⟨v2,cv2,h⟩ := bindL h
  refine fN rfl (EvN.call rfl rfl rfl (F_spec_l3Reg_P t x.Reg cv2) rfl) ?_
  obtain ⟨g3,h⟩ := gdD h
  refine fN rfl (EvN.ixL sl23 rfl rfl g3 (fun _ => rfl)) (fN rfl (EvN.loadfp (I (s.regs.getD v2.toNat default)) ty3 rfl rfl) (fN rfl (EvN.asg (I (s.regs.getD v2.toNat default)) rfl) (TF.nil (T.ret ?_))))
  obtain rfl := osi h
  repeat (first|refine retS ?_|refine retB ?_)
  exact Fin.ret (vs:=[I (s.regs.getD v2.toNat default)]) (.cons (.tmp rfl) .nil) (.of_isF 9 _ rfl)
 ·replace h := condF q1 h
  refine T.skip (T.seq (T.clean (H0:=[]) (e0:=envOf [(5,.fp (ZIn.c x) 0)]) rfl (wkC rfl wkN) (T.region (oN (EvN.fafp Try.underlying56 rfl (by kernel_rfl) rfl) (oN (EvN.loadfp (I x.Val) ty3 rfl rfl) (oN (EvN.asg (I x.Val) rfl) (TO.nil ?_)))))))
  refine T.ret ?_
  obtain rfl := osi h
  repeat (first|refine retS ?_|refine retB ?_)
  exact Fin.ret (vs:=[I x.Val]) (.cons (.tmp rfl) .nil) (.of_isF 9 _ rfl)
theorem F_spec_l3Do_P (p : List (List ZIn)) (s : ZSt) (t : Int) {q : ZSt} (h : F_spec_l3Do p s t = some q) : PCall Try.prog 117 [eL (cL ZIn.c) p,.agg (ZSt.c s),I t] (.agg (ZSt.c q)) := by
 refine PCall.mkT Try.func117 rfl (by kernel_rfl) rfl (by kernel_rfl) (e0:=envOf [(0,eL (cL ZIn.c) p),(1,.agg (ZSt.c s)),(2,I t)]) (wkC rfl (wkC rfl (wkC rfl wkN))) ?_
 let d0 := ((s.at_.getD t.toNat default) + (1 : Int))
 refine T.seq (T.region (oN (EvN.bxF [eL cI s.at_,eL cI s.regs,eL cI s.mem,eL (cL cI) s.buf] rfl rfl rfl) (oA (EvA.al zs129 rfl rfl) (TO.nil (T.seq (T.region (oN (EvN.loadfp (.agg (ZSt.c s)) ty129 rfl rfl) ?_)))))))
 obtain ⟨v1,cv1,h⟩ := bindL h
 refine oA (EvA.call rfl rfl rfl ((F_spec_l3Copy_OS s cv1).freshL rfl (RowsF.spec (.cons (rowsF_list (fun _ => rfl)) (.cons (rowsF_list (fun _ => rfl)) (.cons (rowsF_list (fun _ => rfl)) .nil)))) 1 rfl (Ren.aggL (.cons (ren_sh rfl) (.cons (ren_sh rfl) (.cons (ren_sh rfl) (.cons (.pF rfl) .nil))))))) (oA (EvA.al zs129 rfl rfl) (oV (EvA.st (cs:=[hS false 1 (0 + 1) 1 v1.at_.length,hS false 2 (0 + 1) 1 v1.regs.length,hS false 3 (0 + 1) 1 v1.mem.length,.nil]) ⟨0,4,129,[[hS false 1 (0 + 1) 1 v1.at_.length,hS false 2 (0 + 1) 1 v1.regs.length,hS false 3 (0 + 1) 1 v1.mem.length,.nil]]⟩ ty129 rfl rfl rfl rfl rfl rfl rfl rfl rfl) (TO.nil (T.seq (T.reserve (T.drawF (fun i => [([],false),([],false),([],false),([],false),([],false),([],false),([],false),([],false),([],false),([],false),([],false),([5],true),([5],true)].getD i ([],false)) (by kernel_rfl) (by kernel_rfl) (fN rfl (EvN.mv (eL (cL ZIn.c) p) rfl) ?_)))))))
 refine fN rfl (EvN.mv (I t) rfl) ?_
 obtain ⟨g2,h⟩ := gdD h
 refine fN rfl (EvN.ixL sl27 rfl rfl g2 (fun _ => rfl)) (fN rfl (EvN.loadfp (eL ZIn.c (p.getD t.toNat default)) ty57 rfl rfl) (fN rfl (EvN.fafp Try.underlying129 rfl (by kernel_rfl) rfl) (fN rfl (EvN.loadfp (eL cI s.at_) ty23 rfl rfl) (fN rfl (EvN.mv (I t) rfl) ?_))))
 obtain ⟨g3,h⟩ := gdD h
 refine fN rfl (EvN.ixL sl23 rfl rfl g3 (fun _ => rfl)) (fN rfl (EvN.loadfp (I (s.at_.getD t.toNat default)) ty3 rfl rfl) ?_)
 obtain ⟨g4,h⟩ := gdD h
 refine fN rfl (EvN.ixL sl57 rfl rfl g4 (fun _ => rfl)) (fN rfl (EvN.loadfp (.agg (ZIn.c ((p.getD t.toNat default).getD (s.at_.getD t.toNat default).toNat default))) ty56 rfl rfl) (fW 5 [] rfl rfl (fun G hG => EvA.alR 5 zs56 rfl rfl (hG.a0 rfl)) (fV 5 [] rfl rfl (fun G hG => EvA.st (cs:=[I (((p.getD t.toNat default).getD (s.at_.getD t.toNat default).toNat default).Op),I (((p.getD t.toNat default).getD (s.at_.getD t.toNat default).toNat default).Loc),I (((p.getD t.toNat default).getD (s.at_.getD t.toNat default).toNat default).Reg),I (((p.getD t.toNat default).getD (s.at_.getD t.toNat default).toNat default).Val)]) ⟨0,4,56,[[I (((p.getD t.toNat default).getD (s.at_.getD t.toNat default).toNat default).Op),I (((p.getD t.toNat default).getD (s.at_.getD t.toNat default).toNat default).Loc),I (((p.getD t.toNat default).getD (s.at_.getD t.toNat default).toNat default).Reg),I (((p.getD t.toNat default).getD (s.at_.getD t.toNat default).toNat default).Val)]]⟩ ty56 rfl rfl (hG.a0 rfl) rfl rfl rfl rfl rfl rfl) (TF.nil (T.seq (T.clean (H0:=[some ⟨0,4,129,[[.nil,.nil,.nil,.nil]]⟩,bE false (0 + 1) 1 3 (v1.at_.map cI),bE false (0 + 1) 1 3 (v1.regs.map cI),bE false (0 + 1) 1 3 (v1.mem.map cI),some ⟨0,4,129,[[hS false 1 (0 + 1) 1 v1.at_.length,hS false 2 (0 + 1) 1 v1.regs.length,hS false 3 (0 + 1) 1 v1.mem.length,.nil]]⟩,some ⟨0,4,56,[[I (((p.getD t.toNat default).getD (s.at_.getD t.toNat default).toNat default).Op),I (((p.getD t.toNat default).getD (s.at_.getD t.toNat default).toNat default).Loc),I (((p.getD t.toNat default).getD (s.at_.getD t.toNat default).toNat default).Reg),I (((p.getD t.toNat default).getD (s.at_.getD t.toNat default).toNat default).Val)]]⟩]) (e0:=envOf [(8,.hp 5 0 4 0 0),(7,.hp 4 0 4 0 0),(6,.hp 0 0 4 0 0),(4,.fp (ZSt.c s) 0),(2,I t)]) rfl (wkC rfl (wkC rfl (wkC rfl (wkC rfl (wkC rfl wkN))))) (T.drawF (fun i => [([],false),([4],false),([],false),([],false),([],false),([],false),([],false),([],false),([],false),([],false),([1],true)].getD i ([],false)) (by kernel_rfl) (by kernel_rfl) ?_)))))))
 refine fN rfl (EvN.fahp Try.underlying129 rfl (by kernel_rfl) rfl) (fR [4] rfl (fun G hG => EvA.loadhp (hS false 1 (0 + 1) 1 v1.at_.length) ty23 rfl (hG.a0 rfl) rfl rfl rfl rfl) (fN rfl (EvN.mv (I t) rfl) (fN rfl (EvN.fafp Try.underlying129 rfl (by kernel_rfl) rfl) (fN rfl (EvN.loadfp (eL cI s.at_) ty23 rfl rfl) (fN rfl (EvN.mv (I t) rfl) (fN rfl (EvN.ixL sl23 rfl rfl g3 (fun _ => rfl)) (fN rfl (EvN.loadfp (I (s.at_.getD t.toNat default)) ty3 rfl rfl) ?_)))))))
 obtain ⟨g5,h⟩ := gdW h
 refine fN rfl (EvN.add rfl rfl g5) ?_
 obtain ⟨g6,h⟩ := gdD h
 refine fN rfl (EvN.ixO (g:=false) sl23 rfl rfl nofun g6) (fV 1 [] rfl rfl (fun G hG => EvA.stO (g:=false) (l:=v1.at_) (cs:=[I d0]) d0 ty3 rfl rfl (hG.a0 rfl) nofun (toNat_lt' rfl g6) rfl rfl rfl) (TF.nil ?_))
 obtain ⟨s7,h,ks7⟩ := bindL h
 refine T.joinF (G:=Nat) (fun gh => True) (fun gh => [(8,.hp 5 0 4 0 0),(7,.hp 4 0 4 0 0),(6,.hp 0 0 4 0 0),(4,.fp (ZSt.c s) 0),(2,I t)]) (fun gh => [some ⟨0,4,129,[[.nil,.nil,.nil,.nil]]⟩,bE false (0 + 1) 1 3 ((v1.at_.set t.toNat d0).map cI),bE false gh 1 3 (s7.map cI),bE false (0 + 1) 1 3 (v1.mem.map cI),some ⟨0,4,129,[[hS false 1 (0 + 1) 1 ((v1.at_.set t.toNat d0).length),hS false 2 gh 1 s7.length,hS false 3 (0 + 1) 1 v1.mem.length,.nil]]⟩,some ⟨0,4,56,[[I (((p.getD t.toNat default).getD (s.at_.getD t.toNat default).toNat default).Op),I (((p.getD t.toNat default).getD (s.at_.getD t.toNat default).toNat default).Loc),I (((p.getD t.toNat default).getD (s.at_.getD t.toNat default).toNat default).Reg),I (((p.getD t.toNat default).getD (s.at_.getD t.toNat default).toNat default).Val)]]⟩]) (fun u13 hg => ?_) ?_
 ·clear h
  have h := ks7
  clear ks7
  obtain ⟨s14,h,ks14⟩ := bindL h
  refine T.joinF (G:=Nat) (fun gh => True) (fun gh => [(7,.hp 4 0 4 0 0),(6,.hp 0 0 4 0 0)]) (fun gh => [some ⟨0,4,129,[[.nil,.nil,.nil,.nil]]⟩,bE false (0 + 1) 1 3 ((v1.at_.set t.toNat d0).map cI),bE false u13 1 3 (s7.map cI),bE false gh 1 3 (s14.map cI),some ⟨0,4,129,[[hS false 1 (0 + 1) 1 ((v1.at_.set t.toNat d0).length),hS false 2 u13 1 s7.length,hS false 3 gh 1 s14.length,.nil]]⟩,some ⟨0,4,56,[[I (((p.getD t.toNat default).getD (s.at_.getD t.toNat default).toNat default).Op),I (((p.getD t.toNat default).getD (s.at_.getD t.toNat default).toNat default).Loc),I (((p.getD t.toNat default).getD (s.at_.getD t.toNat default).toNat default).Reg),I (((p.getD t.toNat default).getD (s.at_.getD t.toNat default).toNat default).Val)]]⟩]) (fun u19 hg => ?_) ?_
  ·clear h
   have h := ks14
   clear ks14
   refine T.seq (T.region (oA (EvA.loadhp (.agg [hS false 1 (0 + 1) 1 ((v1.at_.set t.toNat d0).length),hS false 2 u13 1 s7.length,hS false 3 u19 1 s14.length,.nil]) ty129 rfl rfl rfl rfl rfl rfl) (oV (EvA.st (cs:=[hS false 1 (0 + 1) 1 ((v1.at_.set t.toNat d0).length),hS false 2 u13 1 s7.length,hS false 3 u19 1 s14.length,.nil]) ⟨0,4,129,[[hS false 1 (0 + 1) 1 ((v1.at_.set t.toNat d0).length),hS false 2 u13 1 s7.length,hS false 3 u19 1 s14.length,.nil]]⟩ ty129 rfl rfl rfl rfl rfl rfl rfl rfl rfl) (TO.nil (T.ret ?_)))))
   obtain rfl := osi h
   repeat (first|refine retS ?_|refine retB ?_)
   exact Fin.ret (vs:=[.agg [hS false 1 (0 + 1) 1 ((v1.at_.set t.toNat d0).length),hS false 2 u13 1 s7.length,hS false 3 u19 1 s14.length,.nil]]) (.cons (.cell (.agg [hS false 1 (0 + 1) 1 ((v1.at_.set t.toNat d0).length),hS false 2 u13 1 s7.length,hS false 3 u19 1 s14.length,.nil]) ty129 rfl rfl rfl rfl rfl rfl) .nil) (Fz.aggL (.cons (Fz.own (g:=false) (ver:=0 + 1) (l:=(v1.at_.set t.toNat d0)) rfl rfl rfl nofun (fun _ => rfl)) (.cons (Fz.own (g:=false) (ver:=u13) (l:=s7) rfl rfl rfl nofun (fun _ => rfl)) (.cons (Fz.own (g:=false) (ver:=u19) (l:=s14) rfl rfl rfl nofun (fun _ => rfl)) (.cons (.nil0) .nil)))))
  ·clear ks14
   refine T.seq (T.region (oA (EvA.loadhp (.agg [I (((p.getD t.toNat default).getD (s.at_.getD t.toNat default).toNat default).Op),I (((p.getD t.toNat default).getD (s.at_.getD t.toNat default).toNat default).Loc),I (((p.getD t.toNat default).getD (s.at_.getD t.toNat default).toNat default).Reg),I (((p.getD t.toNat default).getD (s.at_.getD t.toNat default).toNat default).Val)]) ty56 rfl rfl rfl rfl rfl rfl) ?_))
   obtain ⟨v15,cv15,h⟩ := bindL h
   refine oN (EvN.call rfl rfl rfl (F_spec_l1Writes_P (⟨((p.getD t.toNat default).getD (s.at_.getD t.toNat default).toNat default).Op,((p.getD t.toNat default).getD (s.at_.getD t.toNat default).toNat default).Loc,((p.getD t.toNat default).getD (s.at_.getD t.toNat default).toNat default).Reg,((p.getD t.toNat default).getD (s.at_.getD t.toNat default).toNat default).Val⟩ : ZIn) cv15) rfl) (TO.nil ?_)
   refine T.cond rfl (fun q16 => ?_) (fun q16 => ?_)
   ·replace h := condT q16 h
    refine T.drawF (fun i => [([],false),([4],false),([],false),([5],false),([],false),([],false),([5],false),([],false),([],false),([3],true)].getD i ([],false)) (by kernel_rfl) (by kernel_rfl) (fN rfl (EvN.fahp Try.underlying129 rfl (by kernel_rfl) rfl) (fR [4] rfl (fun G hG => EvA.loadhp (hS false 3 (0 + 1) 1 v1.mem.length) ty23 rfl (hG.a0 rfl) rfl rfl rfl rfl) (fN rfl (EvN.fahp Try.underlying56 rfl (by kernel_rfl) rfl) (fR [5] rfl (fun G hG => EvA.loadhp (I (((p.getD t.toNat default).getD (s.at_.getD t.toNat default).toNat default).Loc)) ty3 rfl (hG.a0 rfl) rfl rfl rfl rfl) (fN rfl (EvN.loadfp (.agg (ZSt.c s)) ty129 rfl rfl) (fN rfl (EvN.mv (I t) rfl) (fR [5] rfl (fun G hG => EvA.loadhp (.agg [I (((p.getD t.toNat default).getD (s.at_.getD t.toNat default).toNat default).Op),I (((p.getD t.toNat default).getD (s.at_.getD t.toNat default).toNat default).Loc),I (((p.getD t.toNat default).getD (s.at_.getD t.toNat default).toNat default).Reg),I (((p.getD t.toNat default).getD (s.at_.getD t.toNat default).toNat default).Val)]) ty56 rfl (hG.a0 rfl) rfl rfl rfl rfl) ?_)))))))
    obtain ⟨v17,cv17,h⟩ := bindL h
    refine fN rfl (EvN.call rfl rfl rfl (F_spec_l3Value_P s t (⟨((p.getD t.toNat default).getD (s.at_.getD t.toNat default).toNat default).Op,((p.getD t.toNat default).getD (s.at_.getD t.toNat default).toNat default).Loc,((p.getD t.toNat default).getD (s.at_.getD t.toNat default).toNat default).Reg,((p.getD t.toNat default).getD (s.at_.getD t.toNat default).toNat default).Val⟩ : ZIn) cv17) rfl) ?_
    obtain ⟨g18,h⟩ := gdD h
    refine fN rfl (EvN.ixO (g:=false) sl23 rfl rfl nofun g18) (fV 3 [] rfl rfl (fun G hG => EvA.stO (g:=false) (l:=v1.mem) (cs:=[I v17]) v17 ty3 rfl rfl (hG.a0 rfl) nofun (toNat_lt' rfl g18) rfl rfl rfl) (TF.nil ?_))
    obtain rfl := osi h
    exact ⟨0 + 1,trivial,cutW (by simp only [List.length_set] <;> rfl) (wkC rfl (wkC rfl wkN))⟩
   ·replace h := condF q16 h
    refine T.skip ?_
    obtain rfl := osi h
    exact ⟨0 + 1,trivial,cutW rfl (wkC rfl (wkC rfl wkN))⟩
 ·clear ks7
  refine T.seq (T.clean (H0:=[some ⟨0,4,129,[[.nil,.nil,.nil,.nil]]⟩,bE false (0 + 1) 1 3 ((v1.at_.set t.toNat d0).map cI),bE false (0 + 1) 1 3 (v1.regs.map cI),bE false (0 + 1) 1 3 (v1.mem.map cI),some ⟨0,4,129,[[hS false 1 (0 + 1) 1 v1.at_.length,hS false 2 (0 + 1) 1 v1.regs.length,hS false 3 (0 + 1) 1 v1.mem.length,.nil]]⟩,some ⟨0,4,56,[[I (((p.getD t.toNat default).getD (s.at_.getD t.toNat default).toNat default).Op),I (((p.getD t.toNat default).getD (s.at_.getD t.toNat default).toNat default).Loc),I (((p.getD t.toNat default).getD (s.at_.getD t.toNat default).toNat default).Reg),I (((p.getD t.toNat default).getD (s.at_.getD t.toNat default).toNat default).Val)]]⟩]) (e0:=envOf [(8,.hp 5 0 4 0 0),(7,.hp 4 0 4 0 0),(6,.hp 0 0 4 0 0),(4,.fp (ZSt.c s) 0),(2,I t)]) rfl (wkC rfl (wkC rfl (wkC rfl (wkC rfl (wkC rfl wkN))))) (T.region (oA (EvA.loadhp (.agg [I (((p.getD t.toNat default).getD (s.at_.getD t.toNat default).toNat default).Op),I (((p.getD t.toNat default).getD (s.at_.getD t.toNat default).toNat default).Loc),I (((p.getD t.toNat default).getD (s.at_.getD t.toNat default).toNat default).Reg),I (((p.getD t.toNat default).getD (s.at_.getD t.toNat default).toNat default).Val)]) ty56 rfl rfl rfl rfl rfl rfl) ?_)))
  obtain ⟨v8,cv8,h⟩ := bindL h
  refine oN (EvN.call rfl rfl rfl (F_spec_l1Reads_P (⟨((p.getD t.toNat default).getD (s.at_.getD t.toNat default).toNat default).Op,((p.getD t.toNat default).getD (s.at_.getD t.toNat default).toNat default).Loc,((p.getD t.toNat default).getD (s.at_.getD t.toNat default).toNat default).Reg,((p.getD t.toNat default).getD (s.at_.getD t.toNat default).toNat default).Val⟩ : ZIn) cv8) rfl) (TO.nil ?_)
  refine T.cond rfl (fun q9 => ?_) (fun q9 => ?_)
  ·replace h := condT q9 h
   refine T.drawF (fun i => [([],false),([4],false),([],false),([],false),([5],false),([],false),([],false),([],false),([],false),([5],false),([],false),([],false),([],false),([2],true)].getD i ([],false)) (by kernel_rfl) (by kernel_rfl) (fN rfl (EvN.fahp Try.underlying129 rfl (by kernel_rfl) rfl) (fR [4] rfl (fun G hG => EvA.loadhp (hS false 2 (0 + 1) 1 v1.regs.length) ty23 rfl (hG.a0 rfl) rfl rfl rfl rfl) (fN rfl (EvN.mv (I t) rfl) (fN rfl (EvN.fahp Try.underlying56 rfl (by kernel_rfl) rfl) (fR [5] rfl (fun G hG => EvA.loadhp (I (((p.getD t.toNat default).getD (s.at_.getD t.toNat default).toNat default).Reg)) ty3 rfl (hG.a0 rfl) rfl rfl rfl rfl) ?_)))))
   obtain ⟨v10,cv10,h⟩ := bindL h
   refine fN rfl (EvN.call rfl rfl rfl (F_spec_l3Reg_P t (((p.getD t.toNat default).getD (s.at_.getD t.toNat default).toNat default).Reg) cv10) rfl) (fN rfl (EvN.fafp Try.underlying129 rfl (by kernel_rfl) rfl) (fN rfl (EvN.loadfp (eL cI s.mem) ty23 rfl rfl) (fN rfl (EvN.fahp Try.underlying56 rfl (by kernel_rfl) rfl) (fR [5] rfl (fun G hG => EvA.loadhp (I (((p.getD t.toNat default).getD (s.at_.getD t.toNat default).toNat default).Loc)) ty3 rfl (hG.a0 rfl) rfl rfl rfl rfl) ?_))))
   obtain ⟨g11,h⟩ := gdD h
   refine fN rfl (EvN.ixL sl23 rfl rfl g11 (fun _ => rfl)) (fN rfl (EvN.loadfp (I (s.mem.getD (((p.getD t.toNat default).getD (s.at_.getD t.toNat default).toNat default).Loc).toNat default)) ty3 rfl rfl) ?_)
   obtain ⟨g12,h⟩ := gdD h
   refine fN rfl (EvN.ixO (g:=false) sl23 rfl rfl nofun g12) (fV 2 [] rfl rfl (fun G hG => EvA.stO (g:=false) (l:=v1.regs) (cs:=[I (s.mem.getD (((p.getD t.toNat default).getD (s.at_.getD t.toNat default).toNat default).Loc).toNat default)]) (s.mem.getD (((p.getD t.toNat default).getD (s.at_.getD t.toNat default).toNat default).Loc).toNat default) ty3 rfl rfl (hG.a0 rfl) nofun (toNat_lt' rfl g12) rfl rfl rfl) (TF.nil ?_))
   obtain rfl := osi h
   exact ⟨0 + 1,trivial,cutW (by simp only [List.length_set] <;> rfl) (wkC rfl (wkC rfl (wkC rfl (wkC rfl (wkC rfl wkN)))))⟩
  ·replace h := condF q9 h
   refine T.skip ?_
   obtain rfl := osi h
   exact ⟨0 + 1,trivial,cutW (by simp only [List.length_set] <;> rfl) (wkC rfl (wkC rfl (wkC rfl (wkC rfl (wkC rfl wkN)))))⟩
theorem F_spec_l3Done_P (p : List (List ZIn)) (s : ZSt) {q : Bool} (h : F_spec_l3Done p s = some q) : PCall Try.prog 118 [eL (cL ZIn.c) p,.agg (ZSt.c s)] (Bo q) := by
 refine PCall.mkT Try.func118 rfl (by kernel_rfl) rfl (by kernel_rfl) (e0:=envOf [(0,eL (cL ZIn.c) p),(1,.agg (ZSt.c s))]) (wkC rfl (wkC rfl wkN)) (T.seq (T.region (oN (EvN.bxF [eL cI s.at_,eL cI s.regs,eL cI s.mem,eL (cL cI) s.buf] rfl rfl rfl) (oN (EvN.asg (Bo false) rfl) (TO.nil ?_)))))
 obtain ⟨Ks1,es1,ws1,h,ks1⟩ := sumL h
 refine T.join (S:=Unit) (G:=Unit) (fun s1 => Ks1 s1 = some q) (fun s1 gh => True) (fun s1 gh => []) (fun s1 gh => []) (fun s1 gh h hg => ?_) ?_
 ·clear ks1
  subst es1
  refine T.seq (T.region (oN (EvN.asg (Bo true) rfl) (TO.nil (T.ret ?_))))
  obtain rfl := osi h
  repeat (first|refine retS ?_|refine retB ?_)
  exact Fin.ret (vs:=[Bo true]) (.cons (.tmp rfl) .nil) (.of_isF 9 _ rfl)
 ·refine T.seq (T.region (oN (EvN.asg (I (0 : Int)) rfl) (TO.nil (T.block ?_))))
  refine T.loop (S:=Int) (G:=Unit) (F_spec_l3Done_L5 p s) (fun s4 gh => True) (fun s4 gh => [(5,I s4),(3,.fp (ZSt.c s) 0),(0,eL (cL ZIn.c) p)]) (fun s4 gh => []) (s0:=(0 : Int)) () h trivial (cutW rfl (wkC rfl (wkC rfl (wkC rfl wkN)))) (fun s4 gh ws4 h hg => ?_)
  refine T.seq (T.seq (T.region (oN (EvN.mv (I s4) rfl) (oN (EvN.mv (eL (cL ZIn.c) p) rfl) (oN (EvN.lenL sl27 rfl) (oN (EvN.ilt rfl rfl) (TO.nil ?_)))))))
  refine T.cond rfl (fun q6 => ?_) (fun q6 => ?_)
  ·replace h := condT q6 h
   refine T.skip (T.seq (T.block (T.seq (T.drawF (fun _ => ([],false)) (by kernel_rfl) (by kernel_rfl) (fN rfl (EvN.fafp Try.underlying129 rfl (by kernel_rfl) rfl) (fN rfl (EvN.loadfp (eL cI s.at_) ty23 rfl rfl) (fN rfl (EvN.mv (I s4) rfl) ?_)))))))
   obtain ⟨g7,h⟩ := gdD h
   refine fN rfl (EvN.ixL sl23 rfl rfl g7 (fun _ => rfl)) (fN rfl (EvN.loadfp (I (s.at_.getD s4.toNat default)) ty3 rfl rfl) (fN rfl (EvN.mv (eL (cL ZIn.c) p) rfl) (fN rfl (EvN.mv (I s4) rfl) ?_)))
   obtain ⟨g8,h⟩ := gdD h
   refine fN rfl (EvN.ixL sl27 rfl rfl g8 (fun _ => rfl)) (fN rfl (EvN.loadfp (eL ZIn.c (p.getD s4.toNat default)) ty57 rfl rfl) (fN rfl (EvN.lenL sl57 rfl) (fN rfl (EvN.ilt rfl rfl) (TF.nil ?_))))
   refine T.cond rfl (fun q9 => ?_) (fun q9 => ?_)
   ·replace h := condT q9 h
    refine T.seq (T.clean (H0:=[]) (e0:=envOf []) rfl wkN (T.region (oN (EvN.asg (Bo false) rfl) (TO.nil (T.ret ?_)))))
    refine ⟨_,(osi h).symm,fun h => ?_⟩
    replace h := congrArg some h
    obtain rfl := osi h
    replace h := congrArg some (show _ = _ from ks1)
    obtain rfl := osi h
    repeat (first|refine retS ?_|refine retB ?_)
    exact Fin.ret (vs:=[Bo false]) (.cons (.tmp rfl) .nil) (.of_isF 9 _ rfl)
   ·replace h := condF q9 h
    refine T.skip (T.clean (H0:=[]) (e0:=envOf [(5,I s4),(3,.fp (ZSt.c s) 0),(0,eL (cL ZIn.c) p)]) rfl (wkC rfl (wkC rfl (wkC rfl wkN))) (T.region (oN (EvN.mv (I s4) rfl) ?_)))
    obtain ⟨g10,h⟩ := gdW h
    refine oN (EvN.add rfl rfl g10) (oN (EvN.asg (I (s4 + (1 : Int))) rfl) (TO.nil ?_))
    obtain rfl := osi h
    exact ⟨(s4 + (1 : Int)),(),rfl,trivial,cutW rfl (wkC rfl (wkC rfl (wkC rfl wkN)))⟩
  ·replace h := condF q6 h
   refine T.exit ?_
   refine ⟨_,(osi h).symm,fun h => ?_⟩
   replace h := congrArg some h
   obtain rfl := osi h
   exact ⟨(),(),ks1,trivial,cutW rfl wkN⟩
theorem F_spec_l3Outcome_P (s : ZSt) {q : (List Int)} (h : F_spec_l3Outcome s = some q) : PCall Try.prog 119 [.agg (ZSt.c s)] (eL cI q) := by
 refine PCall.mkT Try.func119 rfl (by kernel_rfl) rfl (by kernel_rfl) (e0:=envOf [(0,.agg (ZSt.c s))]) (wkC rfl wkN) (T.seq (T.region (oN (EvN.bxF [eL cI s.at_,eL cI s.regs,eL cI s.mem,eL (cL cI) s.buf] rfl rfl rfl) (oN (EvN.asg (.nil) rfl) (TO.nil (T.seq (T.reserve ?_)))))))
 refine T.drawH (fun i => [([0],true),([],false),([],false),([0],true),([],false),([],false),([0],true),([],false)].getD i ([],false)) (by kernel_rfl) (by kernel_rfl) (fW 0 [] rfl rfl (fun G hG => EvA.mkOR (c:=cI) 0 ([] : List Int) [] sl23 rfl rfl rfl (fun _ => rfl) (fun _ => rfl) rfl (hG.a0 rfl)) (fN rfl (EvN.fafp Try.underlying129 rfl (by kernel_rfl) rfl) (fN rfl (EvN.loadfp (eL cI s.regs) ty23 rfl rfl) ?_)))
 obtain ⟨g1,h⟩ := gdL h
 refine fW 0 [] rfl rfl (fun G hG => EvA.appF (l:=([] : List Int)) s.regs sl23 (by kernel_rfl) rfl rfl (hG.a0 rfl) (SrcOk.fz (l:=s.regs) rfl (fun _ => rfl)) g1) (fN rfl (EvN.fafp Try.underlying129 rfl (by kernel_rfl) rfl) (fN rfl (EvN.loadfp (eL cI s.mem) ty23 rfl rfl) ?_))
 obtain ⟨g2,h⟩ := gdL h
 refine fW 0 [] rfl rfl (fun G hG => EvA.appF (l:=(([] : List Int) ++ s.regs)) s.mem sl23 (by kernel_rfl) rfl rfl (hG.a0 rfl) (SrcOk.fz (l:=s.mem) rfl (fun _ => rfl)) g2) (fN rfl (EvN.asg (hS false 0 ((0 + 1) + 1) 1 (((([] : List Int) ++ s.regs) ++ s.mem).length)) rfl) (TF.nil (T.ret ?_)))
 obtain rfl := osi h
 repeat (first|refine retS ?_|refine retB ?_)
 exact Fin.ret (vs:=[hS false 0 ((0 + 1) + 1) 1 (((([] : List Int) ++ s.regs) ++ s.mem).length)]) (.cons (.tmp rfl) .nil) (Fz.own (g:=false) (ver:=(0 + 1) + 1) (l:=((([] : List Int) ++ s.regs) ++ s.mem)) rfl rfl rfl nofun (fun _ => rfl))
theorem F_spec_RunSchedule_P (p : List (List ZIn)) (schedule : List Int) {q : (List Int) × Bool} (h : F_spec_RunSchedule p schedule = some q) : PCall Try.prog 67 [eL (cL ZIn.c) p,eL cI schedule] (.tup [eL cI q.1,Bo q.2]) := by
 refine PCall.mkT Try.func67 rfl (by kernel_rfl) rfl (by kernel_rfl) (e0:=envOf [(0,eL (cL ZIn.c) p),(1,eL cI schedule)]) (wkC rfl (wkC rfl wkN)) (T.seq (T.region (oN (EvN.asg (.nil) rfl) (oN (EvN.asg (Bo false) rfl) (TO.nil (T.seq (T.seq ?_)))))))
 refine T.region (oN (EvN.mv (eL (cL ZIn.c) p) rfl) ?_)
 obtain ⟨v1,cv1,h⟩ := bindL h
 refine oN (EvN.call rfl rfl rfl (F_spec_ProgramValid_P p cv1) rfl) (oN (EvN.not rfl) (TO.nil ?_))
 refine T.cond rfl (fun q2 => ?_) (fun q2 => ?_)
 ·replace h := condT q2 h
  refine T.seq (T.clean (H0:=[]) (e0:=envOf []) rfl wkN (T.region (oN (EvN.mkF (c:=cI) ([] : List Int) [] sl23 rfl rfl rfl (fun _ => rfl) (fun _ => rfl) rfl) (oN (EvN.asg (eL cI ([] : List Int)) rfl) (oN (EvN.asg (Bo false) rfl) (TO.nil (T.ret ?_)))))))
  obtain rfl := osi h
  repeat (first|refine retS ?_|refine retB ?_)
  exact Fin.ret (vs:=[eL cI ([] : List Int),Bo false]) (.cons (.tmp rfl) (.cons (.tmp rfl) .nil)) (.tupL (.cons (.of_isF 9 _ rfl) (.cons (.of_isF 9 _ rfl) .nil)))
 ·replace h := condF q2 h
  refine T.skip (T.seq (T.region (oN (EvN.mv (eL (cL ZIn.c) p) rfl) ?_)))
  obtain ⟨v3,cv3,h⟩ := bindL h
  refine oN (EvN.call rfl rfl rfl (F_spec_l3Start_P p (0 : Int) cv3) rfl) (oA (EvA.al zs129 rfl rfl) (oV (EvA.st (cs:=[eL cI v3.at_,eL cI v3.regs,eL cI v3.mem,eL (cL cI) v3.buf]) ⟨0,4,129,[[eL cI v3.at_,eL cI v3.regs,eL cI v3.mem,eL (cL cI) v3.buf]]⟩ ty129 rfl rfl rfl rfl rfl rfl rfl rfl rfl) (TO.nil ?_)))
  obtain ⟨Ks4,es4,ws4,h,ks4⟩ := sumL h
  refine T.join (S:=(List Int) × (List Int) × (List Int) × (List (List Int))) (G:=Unit) (fun s4 => Ks4 s4 = some q) (fun s4 gh => True) (fun s4 gh => [(6,.hp 0 0 4 0 0),(0,eL (cL ZIn.c) p)]) (fun s4 gh => [some ⟨0,4,129,[[eL cI s4.1,eL cI s4.2.1,eL cI s4.2.2.1,eL (cL cI) s4.2.2.2]]⟩]) (fun s4 gh h hg => ?_) ?_
  ·clear ks4
   subst es4
   refine T.seq (T.seq (T.region (oN (EvN.mv (eL (cL ZIn.c) p) rfl) (oA (EvA.loadhp (.agg [eL cI s4.1,eL cI s4.2.1,eL cI s4.2.2.1,eL (cL cI) s4.2.2.2]) ty129 rfl rfl rfl rfl rfl rfl) ?_))))
   obtain ⟨v21,cv21,h⟩ := bindL h
   refine oN (EvN.call rfl rfl rfl (F_spec_l3Done_P p (⟨s4.1,s4.2.1,s4.2.2.1,s4.2.2.2⟩ : ZSt) cv21) rfl) (oN (EvN.not rfl) (TO.nil ?_))
   refine T.cond rfl (fun q22 => ?_) (fun q22 => ?_)
   ·replace h := condT q22 h
    refine T.seq (T.clean (H0:=[some ⟨0,4,129,[[eL cI s4.1,eL cI s4.2.1,eL cI s4.2.2.1,eL (cL cI) s4.2.2.2]]⟩]) (e0:=envOf []) rfl wkN (T.region (oN (EvN.mkF (c:=cI) ([] : List Int) [] sl23 rfl rfl rfl (fun _ => rfl) (fun _ => rfl) rfl) (oN (EvN.asg (eL cI ([] : List Int)) rfl) (oN (EvN.asg (Bo false) rfl) (TO.nil (T.ret ?_)))))))
    obtain rfl := osi h
    repeat (first|refine retS ?_|refine retB ?_)
    exact Fin.ret (vs:=[eL cI ([] : List Int),Bo false]) (.cons (.tmp rfl) (.cons (.tmp rfl) .nil)) (.tupL (.cons (.of_isF 9 _ rfl) (.cons (.of_isF 9 _ rfl) .nil)))
   ·replace h := condF q22 h
    refine T.skip (T.seq (T.region (oA (EvA.loadhp (.agg [eL cI s4.1,eL cI s4.2.1,eL cI s4.2.2.1,eL (cL cI) s4.2.2.2]) ty129 rfl rfl rfl rfl rfl rfl) ?_)))
    obtain ⟨v23,cv23,h⟩ := bindL h
    refine oN (EvN.call rfl rfl rfl (F_spec_l3Outcome_P (⟨s4.1,s4.2.1,s4.2.2.1,s4.2.2.2⟩ : ZSt) cv23) rfl) (oN (EvN.asg (eL cI v23) rfl) (oN (EvN.asg (Bo true) rfl) (TO.nil (T.ret ?_))))
    obtain rfl := osi h
    repeat (first|refine retS ?_|refine retB ?_)
    exact Fin.ret (vs:=[eL cI v23,Bo true]) (.cons (.tmp rfl) (.cons (.tmp rfl) .nil)) (.tupL (.cons (.of_isF 9 _ rfl) (.cons (.of_isF 9 _ rfl) .nil)))
  ·refine T.seq (T.clean (H0:=[some ⟨0,4,129,[[eL cI v3.at_,eL cI v3.regs,eL cI v3.mem,eL (cL cI) v3.buf]]⟩]) (e0:=envOf [(6,.hp 0 0 4 0 0),(0,eL (cL ZIn.c) p),(1,eL cI schedule)]) rfl (wkC rfl (wkC rfl (wkC rfl wkN))) (T.region (oN (EvN.asg (I (0 : Int)) rfl) (TO.nil (T.block ?_)))))
   refine T.loop (S:=(List Int) × (List Int) × (List Int) × (List (List Int)) × Int) (G:=Unit) (F_spec_RunSchedule_L8 p schedule) (fun s7 gh => True) (fun s7 gh => [(7,I s7.2.2.2.2),(6,.hp 0 0 4 0 0),(0,eL (cL ZIn.c) p),(1,eL cI schedule)]) (fun s7 gh => [some ⟨0,4,129,[[eL cI s7.1,eL cI s7.2.1,eL cI s7.2.2.1,eL (cL cI) s7.2.2.2.1]]⟩]) (s0:=(v3.at_,v3.regs,v3.mem,v3.buf,(0 : Int))) () h trivial (cutW rfl (wkC rfl (wkC rfl (wkC rfl (wkC rfl wkN))))) (fun s7 gh ws7 h hg => ?_)
   let d0 := schedule.getD s7.2.2.2.2.toNat default
   refine T.seq (T.seq (T.region (oN (EvN.mv (I s7.2.2.2.2) rfl) (oN (EvN.mv (eL cI schedule) rfl) (oN (EvN.lenL sl23 rfl) (oN (EvN.ilt rfl rfl) (TO.nil ?_)))))))
   refine T.cond rfl (fun q9 => ?_) (fun q9 => ?_)
   ·replace h := condT q9 h
    refine T.skip ?_
    obtain ⟨Ks10,es10,ws10,h,ks10⟩ := sumL h
    refine T.join (S:=(List Int) × (List Int) × (List Int) × (List (List Int))) (G:=Unit) (fun s10 => Ks10 s10 = some ws7) (fun s10 gh => True) (fun s10 gh => [(7,I s7.2.2.2.2),(6,.hp 0 0 4 0 0),(0,eL (cL ZIn.c) p),(1,eL cI schedule)]) (fun s10 gh => [some ⟨0,4,129,[[eL cI s10.1,eL cI s10.2.1,eL cI s10.2.2.1,eL (cL cI) s10.2.2.2]]⟩]) (fun s10 gh h hg => ?_) ?_
    ·clear ks10
     subst es10
     refine T.region (oN (EvN.mv (I s7.2.2.2.2) rfl) ?_)
     obtain ⟨g20,h⟩ := gdW h
     refine oN (EvN.add rfl rfl g20) (oN (EvN.asg (I (s7.2.2.2.2 + (1 : Int))) rfl) (TO.nil ?_))
     obtain rfl := osi h
     exact ⟨(s10.1,s10.2.1,s10.2.2.1,s10.2.2.2,(s7.2.2.2.2 + (1 : Int))),(),rfl,trivial,cutW rfl (wkC rfl (wkC rfl (wkC rfl (wkC rfl wkN))))⟩
    ·refine T.block (T.seq (T.region (oN (EvN.mv (eL cI schedule) rfl) (oN (EvN.mv (I s7.2.2.2.2) rfl) ?_))))
     obtain ⟨g11,h⟩ := gdD h
     refine oN (EvN.ixL sl23 rfl rfl g11 (fun _ => rfl)) (oN (EvN.loadfp (I d0) ty3 rfl rfl) (oN (EvN.asg (I d0) rfl) (TO.nil ?_)))
     obtain ⟨Ks12,es12,ws12,h,ks12⟩ := sumL h
     refine T.join (S:=Unit) (G:=Unit) (fun s12 => Ks12 s12 = some ws10) (fun s12 gh => True) (fun s12 gh => [(8,I d0),(7,I s7.2.2.2.2),(6,.hp 0 0 4 0 0),(0,eL (cL ZIn.c) p),(1,eL cI schedule)]) (fun s12 gh => [some ⟨0,4,129,[[eL cI s7.1,eL cI s7.2.1,eL cI s7.2.2.1,eL (cL cI) s7.2.2.2.1]]⟩]) (fun s12 gh h hg => ?_) ?_
     ·clear ks12
      subst es12
      refine T.region (oN (EvN.mv (eL (cL ZIn.c) p) rfl) (oA (EvA.loadhp (.agg [eL cI s7.1,eL cI s7.2.1,eL cI s7.2.2.1,eL (cL cI) s7.2.2.2.1]) ty129 rfl rfl rfl rfl rfl rfl) (oN (EvN.mv (I d0) rfl) ?_)))
      obtain ⟨v19,cv19,h⟩ := bindL h
      refine oN (EvN.call rfl rfl rfl (F_spec_l3Do_P p (⟨s7.1,s7.2.1,s7.2.2.1,s7.2.2.2.1⟩ : ZSt) d0 cv19) rfl) (oV (EvA.st (cs:=[eL cI v19.at_,eL cI v19.regs,eL cI v19.mem,eL (cL cI) v19.buf]) ⟨0,4,129,[[eL cI v19.at_,eL cI v19.regs,eL cI v19.mem,eL (cL cI) v19.buf]]⟩ ty129 rfl rfl rfl rfl rfl rfl rfl rfl rfl) (TO.nil ?_))
      obtain rfl := osi h
      exact ⟨(v19.at_,v19.regs,v19.mem,v19.buf),(),ks10,trivial,cutW rfl (wkC rfl (wkC rfl (wkC rfl (wkC rfl wkN))))⟩
     ·obtain ⟨s13,h,ks13⟩ := bindL h
      refine T.joinF (G:=Unit) (fun gh => True) (fun gh => [(45,Bo s13),(8,I d0),(7,I s7.2.2.2.2),(6,.hp 0 0 4 0 0),(0,eL (cL ZIn.c) p),(1,eL cI schedule)]) (fun gh => [some ⟨0,4,129,[[eL cI s7.1,eL cI s7.2.1,eL cI s7.2.2.1,eL (cL cI) s7.2.2.2.1]]⟩]) (fun gh hg => ?_) ?_
      ·clear h
       have h := ks13
       clear ks13
       refine T.cond rfl (fun q18 => ?_) (fun q18 => ?_)
       ·replace h := condT q18 h
        refine T.seq (T.clean (H0:=[some ⟨0,4,129,[[eL cI s7.1,eL cI s7.2.1,eL cI s7.2.2.1,eL (cL cI) s7.2.2.2.1]]⟩]) (e0:=envOf []) rfl wkN (T.region (oN (EvN.mkF (c:=cI) ([] : List Int) [] sl23 rfl rfl rfl (fun _ => rfl) (fun _ => rfl) rfl) (oN (EvN.asg (eL cI ([] : List Int)) rfl) (oN (EvN.asg (Bo false) rfl) (TO.nil (T.ret ?_)))))))
        obtain rfl := osi h
        replace h := congrArg some (show _ = _ from ks12)
        obtain rfl := osi h
        replace h := congrArg some (show _ = _ from ks10)
        refine ⟨_,(osi h).symm,fun h => ?_⟩
        replace h := congrArg some h
        obtain rfl := osi h
        replace h := congrArg some (show _ = _ from ks4)
        obtain rfl := osi h
        repeat (first|refine retS ?_|refine retB ?_)
        exact Fin.ret (vs:=[eL cI ([] : List Int),Bo false]) (.cons (.tmp rfl) (.cons (.tmp rfl) .nil)) (.tupL (.cons (.of_isF 9 _ rfl) (.cons (.of_isF 9 _ rfl) .nil)))
       ·replace h := condF q18 h
        refine T.skip ?_
        obtain rfl := osi h
        exact ⟨(),(),ks12,trivial,cutW rfl (wkC rfl (wkC rfl (wkC rfl (wkC rfl (wkC rfl wkN)))))⟩
      ·clear ks13
       refine T.clean (H0:=[some ⟨0,4,129,[[eL cI s7.1,eL cI s7.2.1,eL cI s7.2.2.1,eL (cL cI) s7.2.2.2.1]]⟩]) (e0:=envOf [(8,I d0),(7,I s7.2.2.2.2),(6,.hp 0 0 4 0 0),(0,eL (cL ZIn.c) p),(1,eL cI schedule)]) rfl (wkC rfl (wkC rfl (wkC rfl (wkC rfl (wkC rfl wkN))))) (T.drawG (fun i => [([],false),([],false),([],false),([],false),([],false),([],false),([],false),([],false),([],false),([],false),([0],false),([],false),([],false),([],false),([],false),([],false),([],false),([],false),([],false),([],false),([],false)].getD i ([],false)) (by kernel_rfl) (by kernel_rfl) (tN rfl (EvN.mv (I d0) rfl) (tN rfl (EvN.ilt rfl rfl) (tN rfl (EvN.mv (Bo (decide (d0 < (0 : Int)))) rfl) ?_))))
       rcases bifL h with ⟨q14,h⟩ | ⟨q14,h⟩
       ·refine tgS rfl q14 (tgS rfl q14 (tgS rfl q14 (tgS rfl q14 (tN rfl (EvN.pickT rfl q14 (Bo true) rfl) (tN rfl (EvN.mv (Bo true) rfl) (tgS rfl rfl (tgS rfl rfl ?_)))))))
        refine tgS rfl rfl (tgS rfl rfl (tgS rfl rfl (tgS rfl rfl (tgS rfl rfl (tgS rfl rfl (tgS rfl rfl (tgS rfl rfl ?_)))))))
        refine tgS rfl rfl (tN rfl (EvN.pickT rfl rfl (Bo true) rfl) (TG.nil ?_))
        obtain rfl := osi h
        exact ⟨(),trivial,cutW rfl (wkC rfl (wkC rfl (wkC rfl (wkC rfl (wkC rfl (wkC rfl wkN))))))⟩
       ·refine tgN rfl q14 rfl (EvN.mv (I d0) rfl) (tgN rfl q14 rfl (EvN.mv (eL (cL ZIn.c) p) rfl) (tgN rfl q14 rfl (EvN.lenL sl27 rfl) (tgN rfl q14 rfl (EvN.ige rfl rfl) (tN rfl (EvN.pickF rfl q14 (Bo (decide ((p.length : Int) <= d0))) rfl) (tN rfl (EvN.mv (Bo (decide ((p.length : Int) <= d0))) rfl) ?_)))))
        rcases bifL h with ⟨q15,h⟩ | ⟨q15,h⟩
        ·refine tgS rfl q15 (tgS rfl q15 (tgS rfl q15 (tgS rfl q15 (tgS rfl q15 (tgS rfl q15 (tgS rfl q15 (tgS rfl q15 ?_)))))))
         refine tgS rfl q15 (tgS rfl q15 (tgS rfl q15 (tN rfl (EvN.pickT rfl q15 (Bo true) rfl) (TG.nil ?_))))
         obtain rfl := osi h
         exact ⟨(),trivial,cutW rfl (wkC rfl (wkC rfl (wkC rfl (wkC rfl (wkC rfl (wkC rfl wkN))))))⟩
        ·refine tgN rfl q15 rfl (EvN.fahp Try.underlying129 rfl (by kernel_rfl) rfl) (tgR rfl q15 [0] rfl (fun G hG => EvA.loadhp (eL cI s7.1) ty23 rfl (hG.a0 rfl) rfl rfl rfl rfl) (tgN rfl q15 rfl (EvN.mv (I d0) rfl) ?_))
         obtain ⟨g16,h⟩ := gdD h
         refine tgN rfl q15 rfl (EvN.ixL sl23 rfl rfl g16 (fun _ => rfl)) (tgN rfl q15 rfl (EvN.loadfp (I (s7.1.getD d0.toNat default)) ty3 rfl rfl) (tgN rfl q15 rfl (EvN.mv (eL (cL ZIn.c) p) rfl) (tgN rfl q15 rfl (EvN.mv (I d0) rfl) ?_)))
         obtain ⟨g17,h⟩ := gdD h
         refine tgN rfl q15 rfl (EvN.ixL sl27 rfl rfl g17 (fun _ => rfl)) (tgN rfl q15 rfl (EvN.loadfp (eL ZIn.c (p.getD d0.toNat default)) ty57 rfl rfl) (tgN rfl q15 rfl (EvN.lenL sl57 rfl) (tgN rfl q15 rfl (EvN.ieq rfl rfl) (tN rfl (EvN.pickF rfl q15 (Bo ((s7.1.getD d0.toNat default) == ((p.getD d0.toNat default).length : Int))) rfl) (TG.nil ?_)))))
         obtain rfl := osi h
         exact ⟨(),trivial,cutW rfl (wkC rfl (wkC rfl (wkC rfl (wkC rfl (wkC rfl (wkC rfl wkN))))))⟩
   ·replace h := condF q9 h
    refine T.exit ?_
    refine ⟨_,(osi h).symm,fun h => ?_⟩
    replace h := congrArg some h
    obtain rfl := osi h
    exact ⟨(s7.1,s7.2.1,s7.2.2.1,s7.2.2.2.1),(),ks4,trivial,cutW rfl (wkC rfl (wkC rfl wkN))⟩
theorem F_spec_l6Events_P (p : List (List ZIn)) {q : (List ZEv)} (h : F_spec_l6Events p = some q) : PCall Try.prog 102 [eL (cL ZIn.c) p] (eL ZEv.c q) := by
 refine PCall.mkT Try.func102 rfl (by kernel_rfl) rfl (by kernel_rfl) (e0:=envOf [(0,eL (cL ZIn.c) p)]) (wkC rfl wkN) (T.seq (T.region (oN (EvN.asg (.nil) rfl) (TO.nil (T.seq (T.region (oA (EvA.mkO (c:=ZEv.c) ([] : List ZEv) [] sl98 rfl rfl rfl (fun _ => rfl) rfl rfl) ?_)))))))
 refine oN (EvN.asg (hS false 0 0 5 (([] : List ZEv).length)) rfl) (TO.nil ?_)
 obtain ⟨s1,h,ks1⟩ := bindL h
 refine T.joinF (G:=Nat) (fun gh => True) (fun gh => [(3,hS false 0 gh 5 s1.length),(0,eL (cL ZIn.c) p)]) (fun gh => [bE false gh 5 101 (s1.map ZEv.c)]) (fun u11 hg => ?_) ?_
 ·clear h
  have h := ks1
  clear ks1
  obtain ⟨s12,h,ks12⟩ := bindL h
  refine T.joinF (G:=Nat) (fun gh => True) (fun gh => [(3,hS false 0 gh 5 s12.length)]) (fun gh => [bE false gh 5 101 (s12.map ZEv.c)]) (fun u39 hg => ?_) ?_
  ·clear h
   have h := ks12
   clear ks12
   refine T.seq (T.region (oN (EvN.mv (hS false 0 u39 5 s12.length) rfl) (oN (EvN.asg (hS false 0 u39 5 s12.length) rfl) (TO.nil (T.ret ?_)))))
   obtain rfl := osi h
   repeat (first|refine retS ?_|refine retB ?_)
   exact Fin.ret (vs:=[hS false 0 u39 5 s12.length]) (.cons (.tmp rfl) .nil) (Fz.own (g:=false) (ver:=u39) (l:=s12) rfl rfl rfl nofun ZEv.isF)
  ·clear ks12
   refine T.seq (T.region (oN (EvN.asg (I (0 : Int)) rfl) (TO.nil (T.block ?_))))
   refine T.loop (S:=(List ZEv) × Int) (G:=Nat) (F_spec_l6Events_L17 p) (fun s16 gh => True) (fun s16 gh => [(5,I s16.2),(3,hS false 0 gh 5 s16.1.length),(0,eL (cL ZIn.c) p)]) (fun s16 gh => [bE false gh 5 101 (s16.1.map ZEv.c)]) (s0:=(s1,(0 : Int))) u11 h trivial (cutW rfl (wkC rfl (wkC rfl (wkC rfl wkN)))) (fun s16 u18 ws16 h hg => ?_)
   refine T.seq (T.seq (T.region (oN (EvN.mv (I s16.2) rfl) (oN (EvN.mv (eL (cL ZIn.c) p) rfl) (oN (EvN.lenL sl27 rfl) (oN (EvN.ilt rfl rfl) (TO.nil ?_)))))))
   refine T.cond rfl (fun q19 => ?_) (fun q19 => ?_)
   ·replace h := condT q19 h
    refine T.skip ?_
    obtain ⟨s20,h,ks20⟩ := bindL h
    refine T.joinF (G:=Nat) (fun gh => True) (fun gh => [(5,I s16.2),(3,hS false 0 gh 5 s20.length),(0,eL (cL ZIn.c) p)]) (fun gh => [bE false gh 5 101 (s20.map ZEv.c)]) (fun u37 hg => ?_) ?_
    ·clear h
     have h := ks20
     clear ks20
     refine T.region (oN (EvN.mv (I s16.2) rfl) ?_)
     obtain ⟨g38,h⟩ := gdW h
     refine oN (EvN.add rfl rfl g38) (oN (EvN.asg (I (s16.2 + (1 : Int))) rfl) (TO.nil ?_))
     obtain rfl := osi h
     exact ⟨(s20,(s16.2 + (1 : Int))),u37,rfl,trivial,cutW rfl (wkC rfl (wkC rfl (wkC rfl wkN)))⟩
    ·clear ks20
     refine T.block (T.seq (T.region (oN (EvN.asg (I (0 : Int)) rfl) (TO.nil (T.block ?_)))))
     refine T.loop (S:=(List ZEv) × Int) (G:=Nat) (F_spec_l6Events_L25 p s16) (fun s24 gh => True) (fun s24 gh => [(6,I s24.2),(5,I s16.2),(3,hS false 0 gh 5 s24.1.length),(0,eL (cL ZIn.c) p)]) (fun s24 gh => [bE false gh 5 101 (s24.1.map ZEv.c)]) (s0:=(s16.1,(0 : Int))) u18 h trivial (cutW rfl (wkC rfl (wkC rfl (wkC rfl (wkC rfl wkN))))) (fun s24 u26 ws24 h hg => ?_)
     refine T.seq (T.seq (T.region (oN (EvN.mv (I s24.2) rfl) (oN (EvN.mv (eL (cL ZIn.c) p) rfl) (oN (EvN.mv (I s16.2) rfl) ?_)))))
     obtain ⟨g27,h⟩ := gdD h
     refine oN (EvN.ixL sl27 rfl rfl g27 (fun _ => rfl)) (oN (EvN.loadfp (eL ZIn.c (p.getD s16.2.toNat default)) ty57 rfl rfl) (oN (EvN.lenL sl57 rfl) (oN (EvN.ilt rfl rfl) (TO.nil ?_))))
     refine T.cond rfl (fun q28 => ?_) (fun q28 => ?_)
     ·replace h := condT q28 h
      refine T.skip ?_
      obtain ⟨s29,h,ks29⟩ := bindL h
      refine T.joinF (G:=Nat) (fun gh => True) (fun gh => [(3,hS false 0 gh 5 s29.length),(6,I s24.2),(5,I s16.2),(0,eL (cL ZIn.c) p)]) (fun gh => [bE false gh 5 101 (s29.map ZEv.c)]) (fun u35 hg => ?_) ?_
      ·clear h
       have h := ks29
       clear ks29
       refine T.region (oN (EvN.mv (I s24.2) rfl) ?_)
       obtain ⟨g36,h⟩ := gdW h
       refine oN (EvN.add rfl rfl g36) (oN (EvN.asg (I (s24.2 + (1 : Int))) rfl) (TO.nil ?_))
       obtain rfl := osi h
       exact ⟨(s29,(s24.2 + (1 : Int))),u35,rfl,trivial,cutW rfl (wkC rfl (wkC rfl (wkC rfl (wkC rfl wkN))))⟩
      ·clear ks29
       refine T.block (T.seq (T.clean (H0:=[bE false u26 5 101 (s24.1.map ZEv.c)]) (e0:=envOf [(6,I s24.2),(5,I s16.2),(3,hS false 0 u26 5 s24.1.length),(0,eL (cL ZIn.c) p)]) rfl (wkC rfl (wkC rfl (wkC rfl (wkC rfl wkN)))) (T.region (oN (EvN.mv (eL (cL ZIn.c) p) rfl) (oN (EvN.mv (I s16.2) rfl) (oN (EvN.ixL sl27 rfl rfl g27 (fun _ => rfl)) (oN (EvN.loadfp (eL ZIn.c (p.getD s16.2.toNat default)) ty57 rfl rfl) ?_)))))))
       refine oN (EvN.mv (I s24.2) rfl) ?_
       obtain ⟨g30,h⟩ := gdD h
       refine oN (EvN.ixL sl57 rfl rfl g30 (fun _ => rfl)) (oN (EvN.loadfp (.agg (ZIn.c ((p.getD s16.2.toNat default).getD s24.2.toNat default))) ty56 rfl rfl) (oA (EvA.al zs56 rfl rfl) (oV (EvA.st (cs:=[I (((p.getD s16.2.toNat default).getD s24.2.toNat default).Op),I (((p.getD s16.2.toNat default).getD s24.2.toNat default).Loc),I (((p.getD s16.2.toNat default).getD s24.2.toNat default).Reg),I (((p.getD s16.2.toNat default).getD s24.2.toNat default).Val)]) ⟨0,4,56,[[I (((p.getD s16.2.toNat default).getD s24.2.toNat default).Op),I (((p.getD s16.2.toNat default).getD s24.2.toNat default).Loc),I (((p.getD s16.2.toNat default).getD s24.2.toNat default).Reg),I (((p.getD s16.2.toNat default).getD s24.2.toNat default).Val)]]⟩ ty56 rfl rfl rfl rfl rfl rfl rfl rfl rfl) (TO.nil (T.seq (T.clean (H0:=[bE false u26 5 101 (s24.1.map ZEv.c),some ⟨0,4,56,[[I (((p.getD s16.2.toNat default).getD s24.2.toNat default).Op),I (((p.getD s16.2.toNat default).getD s24.2.toNat default).Loc),I (((p.getD s16.2.toNat default).getD s24.2.toNat default).Reg),I (((p.getD s16.2.toNat default).getD s24.2.toNat default).Val)]]⟩]) (e0:=envOf [(7,.hp 1 0 4 0 0),(6,I s24.2),(5,I s16.2),(3,hS false 0 u26 5 s24.1.length),(0,eL (cL ZIn.c) p)]) rfl (wkC rfl (wkC rfl (wkC rfl (wkC rfl (wkC rfl wkN))))) (T.region ?_)))))))
       refine oN (EvN.fahp Try.underlying56 rfl (by kernel_rfl) rfl) (oA (EvA.loadhp (I (((p.getD s16.2.toNat default).getD s24.2.toNat default).Op)) ty3 rfl rfl rfl rfl rfl rfl) (oN (EvN.ine rfl rfl) (TO.nil ?_)))
       refine T.cond rfl (fun q31 => ?_) (fun q31 => ?_)
       ·replace h := condT q31 h
        refine T.drawF (fun i => [([],false),([],false),([],false),([],false),([1],false),([1],false),([],false),([1],false),([],false),([],false),([],false),([0],true),([],false)].getD i ([],false)) (by kernel_rfl) (by kernel_rfl) (fN rfl (EvN.mv (hS false 0 u26 5 s24.1.length) rfl) (fN rfl (EvN.mv (I s16.2) rfl) (fN rfl (EvN.mv (I s24.2) rfl) (fN rfl (EvN.fahp Try.underlying56 rfl (by kernel_rfl) rfl) (fR [1] rfl (fun G hG => EvA.loadhp (I (((p.getD s16.2.toNat default).getD s24.2.toNat default).Loc)) ty3 rfl (hG.a0 rfl) rfl rfl rfl rfl) (fR [1] rfl (fun G hG => EvA.loadhp (.agg [I (((p.getD s16.2.toNat default).getD s24.2.toNat default).Op),I (((p.getD s16.2.toNat default).getD s24.2.toNat default).Loc),I (((p.getD s16.2.toNat default).getD s24.2.toNat default).Reg),I (((p.getD s16.2.toNat default).getD s24.2.toNat default).Val)]) ty56 rfl (hG.a0 rfl) rfl rfl rfl rfl) ?_))))))
        obtain ⟨v32,cv32,h⟩ := bindL h
        refine fN rfl (EvN.call rfl rfl rfl (F_spec_l1Reads_P (⟨((p.getD s16.2.toNat default).getD s24.2.toNat default).Op,((p.getD s16.2.toNat default).getD s24.2.toNat default).Loc,((p.getD s16.2.toNat default).getD s24.2.toNat default).Reg,((p.getD s16.2.toNat default).getD s24.2.toNat default).Val⟩ : ZIn) cv32) rfl) (fR [1] rfl (fun G hG => EvA.loadhp (.agg [I (((p.getD s16.2.toNat default).getD s24.2.toNat default).Op),I (((p.getD s16.2.toNat default).getD s24.2.toNat default).Loc),I (((p.getD s16.2.toNat default).getD s24.2.toNat default).Reg),I (((p.getD s16.2.toNat default).getD s24.2.toNat default).Val)]) ty56 rfl (hG.a0 rfl) rfl rfl rfl rfl) ?_)
        obtain ⟨v33,cv33,h⟩ := bindL h
        refine fN rfl (EvN.call rfl rfl rfl (F_spec_l1Writes_P (⟨((p.getD s16.2.toNat default).getD s24.2.toNat default).Op,((p.getD s16.2.toNat default).getD s24.2.toNat default).Loc,((p.getD s16.2.toNat default).getD s24.2.toNat default).Reg,((p.getD s16.2.toNat default).getD s24.2.toNat default).Val⟩ : ZIn) cv33) rfl) (fN rfl (EvN.build [I s16.2,I s24.2,I (((p.getD s16.2.toNat default).getD s24.2.toNat default).Loc),Bo v32,Bo v33] Try.underlying101 zs101 fs101 rfl rfl) (fN rfl (EvN.mkF (c:=ZEv.c) ([(⟨s16.2,s24.2,((p.getD s16.2.toNat default).getD s24.2.toNat default).Loc,v32,v33⟩ : ZEv)] : List ZEv) [[I s16.2,I s24.2,I (((p.getD s16.2.toNat default).getD s24.2.toNat default).Loc),Bo v32,Bo v33]] sl98 rfl rfl rfl (fun _ => rfl) ZEv.isF rfl) ?_))
        obtain ⟨g34,h⟩ := gdL h
        refine fW 0 [] rfl rfl (fun G hG => EvA.app1 (g:=false) (l:=s24.1) (⟨s16.2,s24.2,((p.getD s16.2.toNat default).getD s24.2.toNat default).Loc,v32,v33⟩ : ZEv) sl98 (by kernel_rfl) rfl rfl (hG.a0 rfl) nofun (SrcOk.fz (l:=([(⟨s16.2,s24.2,((p.getD s16.2.toNat default).getD s24.2.toNat default).Loc,v32,v33⟩ : ZEv)] : List ZEv)) rfl (fun _ => rfl)) g34) (fN rfl (EvN.asg (hS false 0 (u26 + 1) 5 ((s24.1 ++ [(⟨s16.2,s24.2,((p.getD s16.2.toNat default).getD s24.2.toNat default).Loc,v32,v33⟩ : ZEv)]).length)) rfl) (TF.nil ?_))
        obtain rfl := osi h
        exact ⟨u26 + 1,trivial,cutS rfl (.cons (.list (g:=false) (ver:=u26 + 1) (l:=(s24.1 ++ [(⟨s16.2,s24.2,((p.getD s16.2.toNat default).getD s24.2.toNat default).Loc,v32,v33⟩ : ZEv)])) ZEv.isF) .nil) (stl_cons (.hS (g:=false) (b:=0) (ver:=u26 + 1) (s:=5) (n:=(s24.1 ++ [(⟨s16.2,s24.2,((p.getD s16.2.toNat default).getD s24.2.toNat default).Loc,v32,v33⟩ : ZEv)]).length) rfl) (stl_cons (.fz (.of_isF 9 _ rfl)) (stl_cons (.fz (.of_isF 9 _ rfl)) (stl_cons (.fz (.of_isF 9 _ rfl)) stl_nil))))⟩
       ·replace h := condF q31 h
        refine T.skip ?_
        obtain rfl := osi h
        exact ⟨u26,trivial,cutS rfl (.cons (.list (g:=false) (ver:=u26) (l:=s24.1) ZEv.isF) .nil) (stl_cons (.hS (g:=false) (b:=0) (ver:=u26) (s:=5) (n:=s24.1.length) rfl) (stl_cons (.fz (.of_isF 9 _ rfl)) (stl_cons (.fz (.of_isF 9 _ rfl)) (stl_cons (.fz (.of_isF 9 _ rfl)) stl_nil))))⟩
     ·replace h := condF q28 h
      refine T.exit ?_
      refine ⟨_,(osi h).symm,fun h => ?_⟩
      replace h := congrArg some h
      obtain rfl := osi h
      exact ⟨u26,trivial,cutW rfl (wkC rfl (wkC rfl (wkC rfl wkN)))⟩
   ·replace h := condF q19 h
    refine T.exit ?_
    refine ⟨_,(osi h).symm,fun h => ?_⟩
    replace h := congrArg some h
    obtain rfl := osi h
    exact ⟨u18,trivial,cutW rfl (wkC rfl wkN)⟩
 ·clear ks1
  refine T.seq (T.region (oN (EvN.asg (I (0 : Int)) rfl) (TO.nil (T.block ?_))))
  refine T.loop (S:=(List ZEv) × Int) (G:=Nat) F_spec_l6Events_L6 (fun s5 gh => True) (fun s5 gh => [(4,I s5.2),(3,hS false 0 gh 5 s5.1.length),(0,eL (cL ZIn.c) p)]) (fun s5 gh => [bE false gh 5 101 (s5.1.map ZEv.c)]) (s0:=(([] : List ZEv),(0 : Int))) 0 h trivial (cutW rfl (wkC rfl (wkC rfl (wkC rfl wkN)))) (fun s5 u7 ws5 h hg => ?_)
  let d0 := (⟨(-1 : Int),s5.2,s5.2,false,true⟩ : ZEv)
  refine T.seq (T.seq (T.region (oN (EvN.mv (I s5.2) rfl) (oN (EvN.ile rfl rfl) (TO.nil ?_)))))
  refine T.cond rfl (fun q8 => ?_) (fun q8 => ?_)
  ·replace h := condT q8 h
   refine T.skip (T.seq (T.block (T.region (oN (EvN.mv (hS false 0 u7 5 s5.1.length) rfl) (oN (EvN.mv (I s5.2) rfl) (oN (EvN.mv (I s5.2) rfl) (oN (EvN.build [I (-1 : Int),I s5.2,I s5.2,Bo false,Bo true] Try.underlying101 zs101 fs101 rfl rfl) ?_)))))))
   refine oN (EvN.mkF (c:=ZEv.c) ([d0] : List ZEv) [[I (-1 : Int),I s5.2,I s5.2,Bo false,Bo true]] sl98 rfl rfl rfl (fun _ => rfl) ZEv.isF rfl) ?_
   obtain ⟨g9,h⟩ := gdL h
   refine oA (EvA.app1 (g:=false) (l:=s5.1) d0 sl98 (by kernel_rfl) rfl rfl rfl nofun (SrcOk.fz (l:=([d0] : List ZEv)) rfl (fun _ => rfl)) g9) (oN (EvN.asg (hS false 0 (u7 + 1) 5 ((s5.1 ++ [d0]).length)) rfl) (TO.nil (T.clean (H0:=[bE false (u7 + 1) 5 101 ((s5.1 ++ [d0]).map ZEv.c)]) (e0:=envOf [(3,hS false 0 (u7 + 1) 5 ((s5.1 ++ [d0]).length)),(4,I s5.2),(0,eL (cL ZIn.c) p)]) rfl (wkC rfl (wkC rfl (wkC rfl wkN))) (T.region (oN (EvN.mv (I s5.2) rfl) ?_)))))
   obtain ⟨g10,h⟩ := gdW h
   refine oN (EvN.add rfl rfl g10) (oN (EvN.asg (I (s5.2 + (1 : Int))) rfl) (TO.nil ?_))
   obtain rfl := osi h
   exact ⟨((s5.1 ++ [d0]),(s5.2 + (1 : Int))),u7 + 1,rfl,trivial,cutW rfl (wkC rfl (wkC rfl (wkC rfl wkN)))⟩
  ·replace h := condF q8 h
   refine T.exit ?_
   refine ⟨_,(osi h).symm,fun h => ?_⟩
   replace h := congrArg some h
   obtain rfl := osi h
   exact ⟨u7,trivial,cutW rfl (wkC rfl (wkC rfl wkN))⟩
theorem F_spec_l13Order_P (p : List (List ZIn)) (schedule : List Int) {q : (List Int)} (h : F_spec_l13Order p schedule = some q) : PCall Try.prog 120 [eL (cL ZIn.c) p,eL cI schedule] (eL cI q) := by
 refine PCall.mkT Try.func120 rfl (by kernel_rfl) rfl (by kernel_rfl) (e0:=envOf [(0,eL (cL ZIn.c) p),(1,eL cI schedule)]) (wkC rfl (wkC rfl wkN)) (T.seq (T.region (oN (EvN.asg (.nil) rfl) (TO.nil (T.seq (T.region (oN (EvN.mv (eL (cL ZIn.c) p) rfl) ?_)))))))
 obtain ⟨v1,cv1,h⟩ := bindL h
 refine oN (EvN.call rfl rfl rfl (F_spec_l6Events_P p cv1) rfl) (oN (EvN.asg (eL ZEv.c v1) rfl) (TO.nil (T.seq (T.region (oN (EvN.mv (eL (cL ZIn.c) p) rfl) (oN (EvN.lenL sl27 rfl) ?_))))))
 obtain ⟨g2,h⟩ := gdD h
 refine oA (EvA.mkN (c:=cI) (default : Int) sl23 rfl rfl g2 rfl rfl rfl) (oN (EvN.asg (hS false 0 0 1 ((List.replicate (p.length : Int).toNat (default : Int)).length)) rfl) (TO.nil (T.seq (T.clean (H0:=[bE false 0 1 3 ((List.replicate (p.length : Int).toNat (default : Int)).map cI)]) (e0:=envOf [(6,hS false 0 0 1 ((List.replicate (p.length : Int).toNat (default : Int)).length)),(5,eL ZEv.c v1),(1,eL cI schedule)]) rfl (wkC rfl (wkC rfl (wkC rfl wkN))) (T.region (oA (EvA.mkO (c:=cI) ([] : List Int) [] sl23 rfl rfl rfl (fun _ => rfl) rfl rfl) (oN (EvN.asg (hS false 1 0 1 (([] : List Int).length)) rfl) ?_)))))))
 refine TO.nil ?_
 obtain ⟨s3,h,ks3⟩ := bindL h
 refine T.joinF (G:=Nat × Nat) (fun gh => True) (fun gh => [(7,hS false 1 gh.2 1 s3.2.length)]) (fun gh => [bE false gh.1 1 3 (s3.1.map cI),bE false gh.2 1 3 (s3.2.map cI)]) (fun gh hg => ?_) ?_
 ·clear h
  have h := ks3
  clear ks3
  obtain ⟨u37,u38⟩ := gh
  refine T.seq (T.region (oN (EvN.mv (hS false 1 u38 1 s3.2.length) rfl) (oN (EvN.asg (hS false 1 u38 1 s3.2.length) rfl) (TO.nil (T.ret ?_)))))
  obtain rfl := osi h
  repeat (first|refine retS ?_|refine retB ?_)
  exact Fin.ret (vs:=[hS false 1 u38 1 s3.2.length]) (.cons (.tmp rfl) .nil) (Fz.own (g:=false) (ver:=u38) (l:=s3.2) rfl rfl rfl nofun (fun _ => rfl))
 ·clear ks3
  refine T.seq (T.region (oN (EvN.asg (I (0 : Int)) rfl) (TO.nil (T.block ?_))))
  refine T.loop (S:=(List Int) × (List Int) × Int) (G:=Nat × Nat) (F_spec_l13Order_L9 schedule v1) (fun s8 gh => True) (fun s8 gh => [(8,I s8.2.2),(7,hS false 1 gh.2 1 s8.2.1.length),(6,hS false 0 gh.1 1 s8.1.length),(5,eL ZEv.c v1),(1,eL cI schedule)]) (fun s8 gh => [bE false gh.1 1 3 (s8.1.map cI),bE false gh.2 1 3 (s8.2.1.map cI)]) (s0:=((List.replicate (p.length : Int).toNat (default : Int)),([] : List Int),(0 : Int))) (0,0) h trivial (cutW rfl (wkC rfl (wkC rfl (wkC rfl (wkC rfl (wkC rfl wkN)))))) (fun s8 gh ws8 h hg => ?_)
  let d0 := schedule.getD s8.2.2.toNat default
  obtain ⟨u10,u11⟩ := gh
  refine T.seq (T.seq (T.region (oN (EvN.mv (I s8.2.2) rfl) (oN (EvN.mv (eL cI schedule) rfl) (oN (EvN.lenL sl23 rfl) (oN (EvN.ilt rfl rfl) (TO.nil ?_)))))))
  refine T.cond rfl (fun q12 => ?_) (fun q12 => ?_)
  ·replace h := condT q12 h
   refine T.skip ?_
   obtain ⟨s13,h,ks13⟩ := bindL h
   refine T.joinF (G:=Nat) (fun gh => True) (fun gh => [(8,I s8.2.2),(7,hS false 1 gh 1 s13.length),(6,hS false 0 u10 1 ((s8.1.set (d0.toNat) ((s8.1.getD (d0.toNat) default) + (1 : Int))).length)),(5,eL ZEv.c v1),(1,eL cI schedule)]) (fun gh => [bE false u10 1 3 ((s8.1.set (d0.toNat) ((s8.1.getD (d0.toNat) default) + (1 : Int))).map cI),bE false gh 1 3 (s13.map cI)]) (fun u35 hg => ?_) ?_
   ·clear h
    have h := ks13
    clear ks13
    refine T.region (oN (EvN.mv (I s8.2.2) rfl) ?_)
    obtain ⟨g36,h⟩ := gdW h
    refine oN (EvN.add rfl rfl g36) (oN (EvN.asg (I (s8.2.2 + (1 : Int))) rfl) (TO.nil ?_))
    obtain rfl := osi h
    exact ⟨((s8.1.set (d0.toNat) ((s8.1.getD (d0.toNat) default) + (1 : Int))),s13,(s8.2.2 + (1 : Int))),(u10,u35),rfl,trivial,cutW rfl (wkC rfl (wkC rfl (wkC rfl (wkC rfl (wkC rfl wkN)))))⟩
   ·clear ks13
    refine T.block (T.seq (T.region (oN (EvN.mv (eL cI schedule) rfl) (oN (EvN.mv (I s8.2.2) rfl) ?_))))
    obtain ⟨g14,h⟩ := gdD h
    refine oN (EvN.ixL sl23 rfl rfl g14 (fun _ => rfl)) (oN (EvN.loadfp (I d0) ty3 rfl rfl) (oN (EvN.asg (I d0) rfl) (TO.nil ?_)))
    obtain ⟨s15,h,ks15⟩ := bindL h
    refine T.joinF (G:=Nat) (fun gh => True) (fun gh => [(9,I d0),(8,I s8.2.2),(7,hS false 1 gh 1 s15.length),(6,hS false 0 u10 1 s8.1.length),(5,eL ZEv.c v1),(1,eL cI schedule)]) (fun gh => [bE false u10 1 3 (s8.1.map cI),bE false gh 1 3 (s15.map cI)]) (fun u32 hg => ?_) ?_
    ·clear h
     have h := ks15
     clear ks15
     refine T.region (oN (EvN.mv (hS false 0 u10 1 s8.1.length) rfl) (oN (EvN.mv (I d0) rfl) (oN (EvN.mv (hS false 0 u10 1 s8.1.length) rfl) (oN (EvN.mv (I d0) rfl) ?_))))
     obtain ⟨g33,h⟩ := gdD h
     refine oN (EvN.ixO (g:=false) sl23 rfl rfl nofun g33) (oA (EvA.ldO (g:=false) (l:=s8.1) (I (s8.1.getD (d0.toNat) default)) ty3 rfl rfl nofun (toNat_lt' rfl g33) rfl) ?_)
     obtain ⟨g34,h⟩ := gdW h
     refine oN (EvN.add rfl rfl g34) (oN (EvN.ixO (g:=false) sl23 rfl rfl nofun g33) (oV (EvA.stO (g:=false) (l:=s8.1) (cs:=[I ((s8.1.getD (d0.toNat) default) + (1 : Int))]) ((s8.1.getD (d0.toNat) default) + (1 : Int)) ty3 rfl rfl rfl nofun (toNat_lt' rfl g33) rfl rfl rfl) (TO.nil ?_)))
     obtain rfl := osi h
     exact ⟨u32,trivial,cutW rfl (wkC rfl (wkC rfl (wkC (congrArg (hS false 0 u10 1) (by simp : s8.1.length = (s8.1.set (d0.toNat) ((s8.1.getD (d0.toNat) default) + (1 : Int))).length)) (wkC rfl (wkC rfl wkN)))))⟩
    ·clear ks15
     refine T.seq (T.clean (H0:=[bE false u10 1 3 (s8.1.map cI),bE false u11 1 3 (s8.2.1.map cI)]) (e0:=envOf [(9,I d0),(8,I s8.2.2),(7,hS false 1 u11 1 s8.2.1.length),(6,hS false 0 u10 1 s8.1.length),(5,eL ZEv.c v1),(1,eL cI schedule)]) rfl (wkC rfl (wkC rfl (wkC rfl (wkC rfl (wkC rfl (wkC rfl wkN)))))) (T.region (oN (EvN.asg (I (0 : Int)) rfl) (TO.nil (T.block ?_)))))
     refine T.loop (S:=(List Int) × Int) (G:=Nat) (F_spec_l13Order_L20 schedule v1 s8) (fun s19 gh => True) (fun s19 gh => [(10,I s19.2),(9,I d0),(8,I s8.2.2),(7,hS false 1 gh 1 s19.1.length),(6,hS false 0 u10 1 s8.1.length),(5,eL ZEv.c v1),(1,eL cI schedule)]) (fun s19 gh => [bE false u10 1 3 (s8.1.map cI),bE false gh 1 3 (s19.1.map cI)]) (s0:=(s8.2.1,(0 : Int))) u11 h trivial (cutW rfl (wkC rfl (wkC rfl (wkC rfl (wkC rfl (wkC rfl (wkC rfl (wkC rfl wkN)))))))) (fun s19 u21 ws19 h hg => ?_)
     refine T.seq (T.seq (T.region (oN (EvN.mv (I s19.2) rfl) (oN (EvN.mv (eL ZEv.c v1) rfl) (oN (EvN.lenL sl98 rfl) (oN (EvN.ilt rfl rfl) (TO.nil ?_)))))))
     refine T.cond rfl (fun q22 => ?_) (fun q22 => ?_)
     ·replace h := condT q22 h
      refine T.skip ?_
      obtain ⟨s23,h,ks23⟩ := bindL h
      refine T.joinF (G:=Nat) (fun gh => True) (fun gh => [(7,hS false 1 gh 1 s23.length),(10,I s19.2),(9,I d0),(8,I s8.2.2),(6,hS false 0 u10 1 s8.1.length),(5,eL ZEv.c v1),(1,eL cI schedule)]) (fun gh => [bE false u10 1 3 (s8.1.map cI),bE false gh 1 3 (s23.map cI)]) (fun u30 hg => ?_) ?_
      ·clear h
       have h := ks23
       clear ks23
       refine T.region (oN (EvN.mv (I s19.2) rfl) ?_)
       obtain ⟨g31,h⟩ := gdW h
       refine oN (EvN.add rfl rfl g31) (oN (EvN.asg (I (s19.2 + (1 : Int))) rfl) (TO.nil ?_))
       obtain rfl := osi h
       exact ⟨(s23,(s19.2 + (1 : Int))),u30,rfl,trivial,cutW rfl (wkC rfl (wkC rfl (wkC rfl (wkC rfl (wkC rfl (wkC rfl (wkC rfl wkN)))))))⟩
      ·clear ks23
       refine T.block ?_
       obtain ⟨s24,h,ks24⟩ := bindL h
       refine T.joinF (G:=Unit) (fun gh => True) (fun gh => [(51,Bo s24),(10,I s19.2),(9,I d0),(8,I s8.2.2),(7,hS false 1 u21 1 s19.1.length),(6,hS false 0 u10 1 s8.1.length),(5,eL ZEv.c v1),(1,eL cI schedule)]) (fun gh => [bE false u10 1 3 (s8.1.map cI),bE false u21 1 3 (s19.1.map cI)]) (fun gh hg => ?_) ?_
       ·clear h
        have h := ks24
        clear ks24
        refine T.cond rfl (fun q28 => ?_) (fun q28 => ?_)
        ·replace h := condT q28 h
         refine T.region (oN (EvN.mv (hS false 1 u21 1 s19.1.length) rfl) (oN (EvN.mv (I s19.2) rfl) (oN (EvN.mkF (c:=cI) ([s19.2] : List Int) [[I s19.2]] sl23 rfl rfl rfl (fun _ => rfl) (fun _ => rfl) rfl) ?_)))
         obtain ⟨g29,h⟩ := gdL h
         refine oA (EvA.app1 (g:=false) (l:=s19.1) s19.2 sl23 (by kernel_rfl) rfl rfl rfl nofun (SrcOk.fz (l:=([s19.2] : List Int)) rfl (fun _ => rfl)) g29) (oN (EvN.asg (hS false 1 (u21 + 1) 1 ((s19.1 ++ [s19.2]).length)) rfl) (TO.nil ?_))
         obtain rfl := osi h
         exact ⟨u21 + 1,trivial,cutW rfl (wkC rfl (wkC rfl (wkC rfl (wkC rfl (wkC rfl (wkC rfl (wkC rfl wkN)))))))⟩
        ·replace h := condF q28 h
         refine T.skip ?_
         obtain rfl := osi h
         exact ⟨u21,trivial,cutW rfl (wkC rfl (wkC rfl (wkC rfl (wkC rfl (wkC rfl (wkC rfl (wkC rfl wkN)))))))⟩
       ·clear ks24
        refine T.drawG (fun i => [([],false),([],false),([],false),([],false),([],false),([],false),([],false),([],false),([],false),([],false),([],false),([],false),([],false),([],false),([],false),([],false),([0],false),([],false),([],false)].getD i ([],false)) (by kernel_rfl) (by kernel_rfl) (tN rfl (EvN.mv (eL ZEv.c v1) rfl) (tN rfl (EvN.mv (I s19.2) rfl) ?_))
        obtain ⟨g25,h⟩ := gdD h
        refine tN rfl (EvN.ixL sl98 rfl rfl g25 (fun _ => rfl)) (tN rfl (EvN.fafp Try.underlying101 rfl (by kernel_rfl) rfl) (tN rfl (EvN.loadfp (I ((v1.getD s19.2.toNat default).Thread)) ty3 rfl rfl) (tN rfl (EvN.mv (I d0) rfl) (tN rfl (EvN.ieq rfl rfl) (tN rfl (EvN.mv (Bo (((v1.getD s19.2.toNat default).Thread) == d0)) rfl) ?_)))))
        rcases bifL h with ⟨q26,h⟩ | ⟨q26,h⟩
        ·refine tgN rfl q26 rfl (EvN.mv (eL ZEv.c v1) rfl) (tgN rfl q26 rfl (EvN.mv (I s19.2) rfl) (tgN rfl q26 rfl (EvN.ixL sl98 rfl rfl g25 (fun _ => rfl)) (tgN rfl q26 rfl (EvN.fafp Try.underlying101 rfl (by kernel_rfl) rfl) (tgN rfl q26 rfl (EvN.loadfp (I ((v1.getD s19.2.toNat default).Index)) ty3 rfl rfl) (tgN rfl q26 rfl (EvN.mv (hS false 0 u10 1 s8.1.length) rfl) (tgN rfl q26 rfl (EvN.mv (I d0) rfl) ?_))))))
         obtain ⟨g27,h⟩ := gdD h
         refine tgN rfl q26 rfl (EvN.ixO (g:=false) sl23 rfl rfl nofun g27) (tgR rfl q26 [0] rfl (fun G hG => EvA.ldO (g:=false) (l:=s8.1) (I (s8.1.getD (d0.toNat) default)) ty3 rfl (hG.a0 rfl) nofun (toNat_lt' rfl g27) rfl) (tgN rfl q26 rfl (EvN.ieq rfl rfl) (tN rfl (EvN.pickT rfl q26 (Bo (((v1.getD s19.2.toNat default).Index) == (s8.1.getD (d0.toNat) default))) rfl) (TG.nil ?_))))
         obtain rfl := osi h
         exact ⟨(),trivial,cutW rfl (wkC rfl (wkC rfl (wkC rfl (wkC rfl (wkC rfl (wkC rfl (wkC rfl (wkC rfl wkN))))))))⟩
        ·refine tgS rfl q26 (tgS rfl q26 (tgS rfl q26 (tgS rfl q26 (tgS rfl q26 (tgS rfl q26 (tgS rfl q26 (tgS rfl q26 ?_)))))))
         refine tgS rfl q26 (tgS rfl q26 (tN rfl (EvN.pickF rfl q26 (Bo false) rfl) (TG.nil ?_)))
         obtain rfl := osi h
         exact ⟨(),trivial,cutW rfl (wkC rfl (wkC rfl (wkC rfl (wkC rfl (wkC rfl (wkC rfl (wkC rfl (wkC rfl wkN))))))))⟩
     ·replace h := condF q22 h
      refine T.exit ?_
      refine ⟨_,(osi h).symm,fun h => ?_⟩
      replace h := congrArg some h
      obtain rfl := osi h
      exact ⟨u21,trivial,cutW rfl (wkC rfl (wkC rfl (wkC rfl (wkC rfl (wkC rfl (wkC rfl wkN))))))⟩
  ·replace h := condF q12 h
   refine T.exit ?_
   refine ⟨_,(osi h).symm,fun h => ?_⟩
   replace h := congrArg some h
   obtain rfl := osi h
   exact ⟨(u10,u11),trivial,cutW rfl (wkC rfl wkN)⟩
theorem F_spec_l13Exec_P (p : List (List ZIn)) (schedule : List Int) {q : ZEx} (h : F_spec_l13Exec p schedule = some q) : PCall Try.prog 68 [eL (cL ZIn.c) p,eL cI schedule] (.agg (ZEx.c q)) := by
 refine PCall.mkT Try.func68 rfl (by kernel_rfl) rfl (by kernel_rfl) (e0:=envOf [(0,eL (cL ZIn.c) p),(1,eL cI schedule)]) (wkC rfl (wkC rfl wkN)) (T.seq (T.region (oA (EvA.al zs43 rfl rfl) (TO.nil (T.seq (T.region (oN (EvN.mv (eL (cL ZIn.c) p) rfl) ?_)))))))
 obtain ⟨v1,cv1,h⟩ := bindL h
 refine oN (EvN.call rfl rfl rfl (F_spec_l6Events_P p cv1) rfl) (oN (EvN.asg (eL ZEv.c v1) rfl) (TO.nil (T.seq (T.reserve (T.reserve (T.region (oN (EvN.build [hS true 1 0 1 (([] : List Int).length),hS true 2 0 1 (([] : List (List Int)).length)] Try.underlying43 zs43 fs43 rfl rfl) ?_)))))))
 refine oA (EvA.al zs43 rfl rfl) (TO.reid (e0:=envOf [(6,.hp 3 0 2 0 0),(15,.agg [hS true 1 0 1 (([] : List Int).length),hS true 2 0 1 (([] : List (List Int)).length)]),(5,eL ZEv.c v1),(4,.hp 0 0 2 0 0),(0,eL (cL ZIn.c) p),(1,eL cI schedule)]) (Reid.rot (m:=3) (S:=[some ⟨0,2,43,[[.nil,.nil]]⟩,bE true 0 1 3 (([] : List Int).map cI),bE true 0 1 23 (nrs 3 (fun _ => (true,0,0)) 1 ([] : List (List Int)))]) (S' := [some ⟨0,2,43,[[.nil,.nil]]⟩,bE true 0 1 3 (([] : List Int).map cI),bE true 0 1 23 (nrs 4 (fun _ => (true,0,0)) 1 ([] : List (List Int)))]) (K:=([] : AH)) (x:=some ⟨0,2,43,[[.nil,.nil]]⟩) (x' := some ⟨0,2,43,[[.nil,.nil]]⟩) rfl rfl rfl (.some (.rowL (.cons .nil (.cons .nil .nil))) (.bE (fun _ => rfl) (.nest ((NN.nil (gh:=(fun _ => (true,0,0))) (w:=1) (ty:=3) (f:=cI)).renK rfl) .nil))) (NN.nil (gh:=(fun _ => (true,0,0))) (w:=1) (ty:=3) (f:=cI)).kf (.some (.rowL (.cons .nil (.cons .nil .nil))) .nil)) (renE_cons (a0:=.hp (([] : AH).length + 3) 0 2 0 0) rfl (.hp Rot.new) (renE_cons (a0:=.agg [hS true 1 0 1 (([] : List Int).length),hS true 2 0 1 (([] : List (List Int)).length)]) rfl (Ren.aggL (.cons (ren_hSg (Rot.low rfl)) (.cons (ren_hSg (Rot.low rfl)) .nil))) (renE_F rfl rfl (renE_cons (a0:=.hp 0 0 2 0 0) rfl (.hp (Rot.low rfl)) (renE_F rfl rfl (renE_F rfl rfl renE_nil)))))) (oV (EvA.st (cs:=[hS true 1 0 1 (([] : List Int).length),hS true 2 0 1 (([] : List (List Int)).length)]) ⟨0,2,43,[[hS true 1 0 1 (([] : List Int).length),hS true 2 0 1 (([] : List (List Int)).length)]]⟩ ty43 rfl rfl rfl rfl rfl rfl rfl rfl rfl) (TO.nil ?_)))
 obtain ⟨s2,h,ks2⟩ := bindL h
 refine T.joinF (G:=(Bool × Nat) × (Bool × NG × AH × Nat)) (fun gh => (gh.1.1 = true -> s2.1 = []) /\ NN gh.2.2.2.1 gh.2.2.1 1 3 cI s2.2 /\ (gh.2.1 = true -> s2.2 = [])) (fun gh => [(6,.hp 3 0 2 0 0),(5,eL ZEv.c v1),(4,.hp 0 0 2 0 0),(0,eL (cL ZIn.c) p),(1,eL cI schedule)]) (fun gh => (some ⟨0,2,43,[[.nil,.nil]]⟩ :: bE gh.1.1 gh.1.2 1 3 (s2.1.map cI) :: bE gh.2.1 gh.2.2.2.2 1 23 (nrs 4 gh.2.2.1 1 s2.2) :: some ⟨0,2,43,[[hS gh.1.1 1 gh.1.2 1 s2.1.length,hS gh.2.1 2 gh.2.2.2.2 1 s2.2.length]]⟩ :: gh.2.2.2.1)) (fun gh hg => ?_) ?_
 ·clear h
  have h := ks2
  clear ks2
  obtain ⟨⟨b35,u34⟩,⟨b41,y38,kk39,u37⟩⟩ := gh
  obtain ⟨n36,hN40,n42⟩ := hg
  obtain ⟨s43,h,ks43⟩ := bindL h
  refine T.joinF (G:=(Bool × NG × AH × Nat)) (fun gh => NN gh.2.2.1 gh.2.1 1 3 cI s43 /\ (gh.1 = true -> s43 = [])) (fun gh => [(6,.hp 3 0 2 0 0),(5,eL ZEv.c v1),(4,.hp 0 0 2 0 0),(0,eL (cL ZIn.c) p),(1,eL cI schedule)]) (fun gh => (some ⟨0,2,43,[[.nil,.nil]]⟩ :: bE b35 u34 1 3 (s2.1.map cI) :: bE gh.1 gh.2.2.2 1 23 (nrs 4 gh.2.1 1 s43) :: some ⟨0,2,43,[[hS b35 1 u34 1 s2.1.length,hS gh.1 2 gh.2.2.2 1 s43.length]]⟩ :: gh.2.2.1)) (fun gh hg => ?_) ?_
  ·clear h
   have h := ks43
   clear ks43
   obtain ⟨b73,y70,kk71,u69⟩ := gh
   obtain ⟨hN72,n74⟩ := hg
   refine T.seq (T.region (oN (EvN.mv (eL (cL ZIn.c) p) rfl) (oN (EvN.mv (eL cI schedule) rfl) ?_)))
   obtain ⟨v75,cv75,h⟩ := bindL h
   refine oN (EvN.call rfl rfl rfl (F_spec_l13Order_P p schedule cv75) rfl) (oN (EvN.asg (eL cI v75) rfl) (TO.nil ?_))
   obtain ⟨s76,h,ks76⟩ := bindL h
   refine T.joinF (G:=(Bool × Nat) × (Bool × NG × AH × Nat)) (fun gh => (gh.1.1 = true -> s76.1 = []) /\ NN gh.2.2.2.1 gh.2.2.1 1 3 cI s76.2 /\ (gh.2.1 = true -> s76.2 = [])) (fun gh => [(6,.hp 3 0 2 0 0),(4,.hp 0 0 2 0 0)]) (fun gh => (some ⟨0,2,43,[[.nil,.nil]]⟩ :: bE gh.1.1 gh.1.2 1 3 (s76.1.map cI) :: bE gh.2.1 gh.2.2.2.2 1 23 (nrs 4 gh.2.2.1 1 s76.2) :: some ⟨0,2,43,[[hS gh.1.1 1 gh.1.2 1 s76.1.length,hS gh.2.1 2 gh.2.2.2.2 1 s76.2.length]]⟩ :: gh.2.2.2.1)) (fun gh hg => ?_) ?_
   ·clear h
    have h := ks76
    clear ks76
    obtain ⟨⟨b141,u140⟩,⟨b147,y144,kk145,u143⟩⟩ := gh
    obtain ⟨n142,hN146,n148⟩ := hg
    refine T.seq (T.region (oA (EvA.loadhp (.agg [hS b141 1 u140 1 s76.1.length,hS b147 2 u143 1 s76.2.length]) ty43 rfl rfl rfl rfl rfl rfl) (oV (EvA.st (cs:=[hS b141 1 u140 1 s76.1.length,hS b147 2 u143 1 s76.2.length]) ⟨0,2,43,[[hS b141 1 u140 1 s76.1.length,hS b147 2 u143 1 s76.2.length]]⟩ ty43 rfl (by generalize b141 = gq0; generalize b147 = gq1; cases gq0 <;> cases gq1 <;> rfl) rfl rfl rfl rfl rfl rfl rfl) (TO.nil (T.ret ?_)))))
    obtain rfl := osi h
    repeat (first|refine retS ?_|refine retB ?_)
    exact Fin.ret (vs:=[.agg [hS b141 1 u140 1 s76.1.length,hS b147 2 u143 1 s76.2.length]]) (.cons (.cell (.agg [hS b141 1 u140 1 s76.1.length,hS b147 2 u143 1 s76.2.length]) ty43 rfl rfl rfl rfl rfl rfl) .nil) (Fz.aggL (.cons (Fz.own (g:=b141) (ver:=u140) (l:=s76.1) rfl rfl rfl n142 (fun _ => rfl)) (.cons (NN.fzG hN146 (S:=[some ⟨0,2,43,[[hS b141 1 u140 1 s76.1.length,hS b147 2 u143 1 s76.2.length]]⟩,bE b141 u140 1 3 (s76.1.map cI),bE b147 u143 1 23 (nrs 4 y144 1 s76.2),some ⟨0,2,43,[[hS b141 1 u140 1 s76.1.length,hS b147 2 u143 1 s76.2.length]]⟩]) (g:=b147) (ver:=u143) rfl rfl n148 (fun _ => rfl)) .nil)))
   ·clear ks76
    refine T.seq (T.region (oN (EvN.asg (I (0 : Int)) rfl) (TO.nil (T.block ?_))))
    refine T.loop (S:=(List Int) × (List (List Int)) × Int) (G:=(Bool × Nat) × (Bool × NG × AH × Nat)) (F_spec_l13Exec_L95 v1 v75) (fun s94 gh => (gh.1.1 = true -> s94.1 = []) /\ NN gh.2.2.2.1 gh.2.2.1 1 3 cI s94.2.1 /\ (gh.2.1 = true -> s94.2.1 = [])) (fun s94 gh => [(10,I s94.2.2),(9,eL cI v75),(6,.hp 3 0 2 0 0),(5,eL ZEv.c v1),(4,.hp 0 0 2 0 0)]) (fun s94 gh => (some ⟨0,2,43,[[.nil,.nil]]⟩ :: bE gh.1.1 gh.1.2 1 3 (s94.1.map cI) :: bE gh.2.1 gh.2.2.2.2 1 23 (nrs 4 gh.2.2.1 1 s94.2.1) :: some ⟨0,2,43,[[hS gh.1.1 1 gh.1.2 1 s94.1.length,hS gh.2.1 2 gh.2.2.2.2 1 s94.2.1.length]]⟩ :: gh.2.2.2.1)) (s0:=(s2.1,s43,(0 : Int))) ((b35,u34),(b73,y70,kk71,u69)) h ⟨n36,hN72,n74⟩ (cutW rfl (wkC rfl (wkC rfl (wkC rfl (wkC rfl (wkC rfl wkN)))))) (fun s94 gh ws94 h hg => ?_)
    let d0 := v75.getD s94.2.2.toNat default
    obtain ⟨⟨b97,u96⟩,⟨b103,y100,kk101,u99⟩⟩ := gh
    obtain ⟨n98,hN102,n104⟩ := hg
    refine T.seq (T.seq (T.region (oN (EvN.mv (I s94.2.2) rfl) (oN (EvN.mv (eL cI v75) rfl) (oN (EvN.lenL sl23 rfl) (oN (EvN.ilt rfl rfl) (TO.nil ?_)))))))
    refine T.cond rfl (fun q105 => ?_) (fun q105 => ?_)
    ·replace h := condT q105 h
     refine T.skip ?_
     obtain ⟨s106,h,ks106⟩ := bindL h
     refine T.joinF (G:=(Bool × Nat) × (NG × AH × Nat)) (fun gh => (gh.1.1 = true -> s106.1 = []) /\ NN gh.2.2.1 gh.2.1 1 3 cI s106.2) (fun gh => [(10,I s94.2.2),(9,eL cI v75),(6,.hp 3 0 2 0 0),(5,eL ZEv.c v1),(4,.hp 0 0 2 0 0)]) (fun gh => (some ⟨0,2,43,[[.nil,.nil]]⟩ :: bE gh.1.1 gh.1.2 1 3 (s106.1.map cI) :: bE false gh.2.2.2 1 23 (nrs 4 gh.2.1 1 s106.2) :: some ⟨0,2,43,[[hS gh.1.1 1 gh.1.2 1 s106.1.length,hS false 2 gh.2.2.2 1 s106.2.length]]⟩ :: gh.2.2.1)) (fun gh hg => ?_) ?_
     ·clear h
      have h := ks106
      clear ks106
      obtain ⟨⟨b133,u132⟩,⟨y136,kk137,u135⟩⟩ := gh
      obtain ⟨n134,hN138⟩ := hg
      refine T.region (oN (EvN.mv (I s94.2.2) rfl) ?_)
      obtain ⟨g139,h⟩ := gdW h
      refine oN (EvN.add rfl rfl g139) (oN (EvN.asg (I (s94.2.2 + (1 : Int))) rfl) (TO.nil ?_))
      obtain rfl := osi h
      exact ⟨(s106.1,s106.2,(s94.2.2 + (1 : Int))),((b133,u132),(false,y136,kk137,u135)),rfl,⟨n134,hN138,nofun⟩,cutW rfl (wkC rfl (wkC rfl (wkC rfl (wkC rfl (wkC rfl wkN)))))⟩
     ·clear ks106
      refine T.block (T.seq (T.region (oN (EvN.mv (eL ZEv.c v1) rfl) (oN (EvN.mv (eL cI v75) rfl) (oN (EvN.mv (I s94.2.2) rfl) ?_)))))
      obtain ⟨g107,h⟩ := gdD h
      refine oN (EvN.ixL sl23 rfl rfl g107 (fun _ => rfl)) (oN (EvN.loadfp (I d0) ty3 rfl rfl) ?_)
      obtain ⟨g108,h⟩ := gdD h
      refine oN (EvN.ixL sl98 rfl rfl g108 (fun _ => rfl)) (oN (EvN.loadfp (.agg (ZEv.c (v1.getD d0.toNat default))) ty101 rfl rfl) (oA (EvA.al zs101 rfl rfl) (TO.reid (e0:=envOf [(11,.hp 4 0 5 0 0),(53,.agg (ZEv.c (v1.getD d0.toNat default))),(10,I s94.2.2),(9,eL cI v75),(6,.hp 3 0 2 0 0),(5,eL ZEv.c v1),(4,.hp 0 0 2 0 0)]) (Reid.rot (m:=4) (S:=[some ⟨0,2,43,[[.nil,.nil]]⟩,bE b97 u96 1 3 (s94.1.map cI),bE b103 u99 1 23 (nrs 4 y100 1 s94.2.1),some ⟨0,2,43,[[hS b97 1 u96 1 s94.1.length,hS b103 2 u99 1 s94.2.1.length]]⟩]) (S' := [some ⟨0,2,43,[[.nil,.nil]]⟩,bE b97 u96 1 3 (s94.1.map cI),bE b103 u99 1 23 (nrs 5 y100 1 s94.2.1),some ⟨0,2,43,[[hS b97 1 u96 1 s94.1.length,hS b103 2 u99 1 s94.2.1.length]]⟩]) (K:=kk101) (x:=some ⟨0,5,101,[[I (0 : Int),I (0 : Int),I (0 : Int),Bo false,Bo false]]⟩) (x' := some ⟨0,5,101,[[I (0 : Int),I (0 : Int),I (0 : Int),Bo false,Bo false]]⟩) rfl rfl rfl (.some (.rowL (.cons .nil (.cons .nil .nil))) (.bE (fun _ => rfl) (.nest (hN102.renK rfl) (.some (.rowL (.cons (ren_hSg (Rot.low rfl)) (.cons (ren_hSg (Rot.low rfl)) .nil))) .nil)))) hN102.kf (.some (.rowL (.cons (ren_isF 9 _ rfl) (.cons (ren_isF 9 _ rfl) (.cons (ren_isF 9 _ rfl) (.cons (ren_isF 9 _ rfl) (.cons (ren_isF 9 _ rfl) .nil)))))) .nil)) (renE_cons (a0:=.hp (kk101.length + 4) 0 5 0 0) rfl (.hp Rot.new) (renE_F rfl rfl (renE_F rfl rfl (renE_F rfl rfl (renE_cons (a0:=.hp 3 0 2 0 0) rfl (.hp (Rot.low rfl)) (renE_F rfl rfl (renE_cons (a0:=.hp 0 0 2 0 0) rfl (.hp (Rot.low rfl)) renE_nil))))))) (oV (EvA.st (cs:=[I ((v1.getD d0.toNat default).Thread),I ((v1.getD d0.toNat default).Index),I ((v1.getD d0.toNat default).Loc),Bo ((v1.getD d0.toNat default).Reads),Bo ((v1.getD d0.toNat default).Writes)]) ⟨0,5,101,[[I ((v1.getD d0.toNat default).Thread),I ((v1.getD d0.toNat default).Index),I ((v1.getD d0.toNat default).Loc),Bo ((v1.getD d0.toNat default).Reads),Bo ((v1.getD d0.toNat default).Writes)]]⟩ ty101 rfl rfl rfl rfl rfl rfl rfl rfl rfl) (TO.nil (T.seq (T.region ?_)))))))
      refine oN (EvN.fahp Try.underlying43 rfl (by kernel_rfl) rfl) (oA (EvA.loadhp (hS b103 2 u99 1 s94.2.1.length) ty37 rfl rfl rfl rfl rfl rfl) (oN (EvN.fahp Try.underlying101 rfl (by kernel_rfl) rfl) (oA (EvA.loadhp (I ((v1.getD d0.toNat default).Loc)) ty3 rfl rfl rfl rfl rfl rfl) ?_)))
      obtain ⟨g109,h⟩ := gdD h
      obtain rfl := gfalse n104 rfl g109
      refine oN (EvN.ixO (g:=false) sl37 rfl rfl nofun g109) ?_
      have n114 := hN102.nil_ (toNat_lt' rfl g109)
      have hX113 := hN102.opened (toNat_lt' rfl g109)
      refine TO.reid (e0:=envOf [(58,.hp 2 u99 1 (((v1.getD d0.toNat default).Loc).toNat) 0),(11,.hp 4 0 5 0 0),(10,I s94.2.2),(9,eL cI v75),(6,.hp 3 0 2 0 0),(5,eL ZEv.c v1),(4,.hp 0 0 2 0 0)]) (Reid.open (m:=5) (S:=[some ⟨0,2,43,[[.nil,.nil]]⟩,bE b97 u96 1 3 (s94.1.map cI),bE false u99 1 23 (nrs 5 y100 1 s94.2.1),some ⟨0,2,43,[[hS b97 1 u96 1 s94.1.length,hS false 2 u99 1 s94.2.1.length]]⟩,some ⟨0,5,101,[[I ((v1.getD d0.toNat default).Thread),I ((v1.getD d0.toNat default).Index),I ((v1.getD d0.toNat default).Loc),Bo ((v1.getD d0.toNat default).Reads),Bo ((v1.getD d0.toNat default).Writes)]]⟩]) (S' := [some ⟨0,2,43,[[.nil,.nil]]⟩,bE b97 u96 1 3 (s94.1.map cI),bE false u99 1 23 (nxs 6 y100 1 s94.2.1 (((v1.getD d0.toNat default).Loc).toNat) (y100 (((v1.getD d0.toNat default).Loc).toNat)).1 5 ((y100 (((v1.getD d0.toNat default).Loc).toNat)).2.2) ((s94.2.1.getD (((v1.getD d0.toNat default).Loc).toNat) []).length)),some ⟨0,2,43,[[hS b97 1 u96 1 s94.1.length,hS false 2 u99 1 s94.2.1.length]]⟩,some ⟨0,5,101,[[I ((v1.getD d0.toNat default).Thread),I ((v1.getD d0.toNat default).Index),I ((v1.getD d0.toNat default).Loc),Bo ((v1.getD d0.toNat default).Reads),Bo ((v1.getD d0.toNat default).Writes)]]⟩]) (K:=kk101) (x:=bE (y100 (((v1.getD d0.toNat default).Loc).toNat)).1 (y100 (((v1.getD d0.toNat default).Loc).toNat)).2.2 1 3 ((s94.2.1.getD (((v1.getD d0.toNat default).Loc).toNat) []).map cI)) rfl (hN102.at_ (toNat_lt' rfl g109)) rfl (.some (.rowL (.cons .nil (.cons .nil .nil))) (.bE (fun _ => rfl) (.nest (hN102.renOpn (toNat_lt' rfl g109)) (.some (.rowL (.cons (ren_hSg (Opn.low rfl)) (.cons (ren_hSg (Opn.low rfl)) .nil))) (.some (.rowL (.cons (ren_isF 9 _ rfl) (.cons (ren_isF 9 _ rfl) (.cons (ren_isF 9 _ rfl) (.cons (ren_isF 9 _ rfl) (.cons (ren_isF 9 _ rfl) .nil)))))) .nil))))) hN102.kf) (renE_cons (a0:=.hp 2 u99 1 (((v1.getD d0.toNat default).Loc).toNat) 0) rfl (.hp (Opn.low rfl)) (renE_cons (a0:=.hp 4 0 5 0 0) rfl (.hp (Opn.low rfl)) (renE_F rfl rfl (renE_F rfl rfl (renE_cons (a0:=.hp 3 0 2 0 0) rfl (.hp (Opn.low rfl)) (renE_F rfl rfl (renE_cons (a0:=.hp 0 0 2 0 0) rfl (.hp (Opn.low rfl)) renE_nil))))))) ?_
      generalize (y100 (((v1.getD d0.toNat default).Loc).toNat)).1 = b110 at n114 ⊢
      generalize (y100 (((v1.getD d0.toNat default).Loc).toNat)).2.2 = u111
      generalize kk101.set (y100 (((v1.getD d0.toNat default).Loc).toNat)).2.1 none = kk112 at hX113 ⊢
      refine oA (EvA.loadhp (hS b110 5 u111 1 ((s94.2.1.getD (((v1.getD d0.toNat default).Loc).toNat) []).length)) ty23 rfl rfl rfl rfl (nxs_get (toNat_lt' rfl g109)) rfl) (oN (EvN.asg (hS b110 5 u111 1 ((s94.2.1.getD (((v1.getD d0.toNat default).Loc).toNat) []).length)) rfl) (TO.nil ?_))
      obtain ⟨s115,h,ks115⟩ := bindL h
      refine T.joinF (G:=(Bool × Nat) × (NG × AH × Nat) × (Bool × Nat)) (fun gh => (gh.1.1 = true -> s115.1 = []) /\ NX gh.2.1.2.1 gh.2.1.1 1 3 cI s94.2.1 (((v1.getD d0.toNat default).Loc).toNat) /\ (gh.2.2.1 = true -> s115.2 = [])) (fun gh => [(12,hS gh.2.2.1 5 gh.2.2.2 1 s115.2.length),(11,.hp 4 0 5 0 0),(10,I s94.2.2),(9,eL cI v75),(6,.hp 3 0 2 0 0),(5,eL ZEv.c v1),(4,.hp 0 0 2 0 0)]) (fun gh => (some ⟨0,2,43,[[.nil,.nil]]⟩ :: bE gh.1.1 gh.1.2 1 3 (s115.1.map cI) :: bE false gh.2.1.2.2 1 23 (nxs 6 gh.2.1.1 1 s94.2.1 (((v1.getD d0.toNat default).Loc).toNat) gh.2.2.1 5 gh.2.2.2 s115.2.length) :: some ⟨0,2,43,[[hS gh.1.1 1 gh.1.2 1 s115.1.length,hS false 2 gh.2.1.2.2 1 s94.2.1.length]]⟩ :: some ⟨0,5,101,[[I ((v1.getD d0.toNat default).Thread),I ((v1.getD d0.toNat default).Index),I ((v1.getD d0.toNat default).Loc),Bo ((v1.getD d0.toNat default).Reads),Bo ((v1.getD d0.toNat default).Writes)]]⟩ :: bE gh.2.2.1 gh.2.2.2 1 3 (s115.2.map cI) :: gh.2.1.2.1)) (fun gh hg => ?_) ?_
      ·clear h
       have h := ks115
       clear ks115
       obtain ⟨⟨b121,u120⟩,⟨y124,kk125,u123⟩,⟨b128,u127⟩⟩ := gh
       obtain ⟨n122,hN126,n129⟩ := hg
       refine T.seq (T.region (oN (EvN.fahp Try.underlying101 rfl (by kernel_rfl) rfl) (oA (EvA.loadhp (Bo ((v1.getD d0.toNat default).Writes)) ty4 rfl rfl rfl rfl rfl rfl) (TO.nil ?_))))
       refine T.cond rfl (fun q130 => ?_) (fun q130 => ?_)
       ·replace h := condT q130 h
        refine T.drawF (fun i => [([],false),([3],false),([],false),([4],false),([],false),([],false),([],false),([],false),([],false),([],false),([5],true),([],false),([2],true)].getD i ([],false)) (by kernel_rfl) (by kernel_rfl) (fN rfl (EvN.fahp Try.underlying43 rfl (by kernel_rfl) rfl) (fR [3] rfl (fun G hG => EvA.loadhp (hS false 2 u123 1 s94.2.1.length) ty37 rfl (hG.a0 rfl) rfl rfl rfl rfl) (fN rfl (EvN.fahp Try.underlying101 rfl (by kernel_rfl) rfl) (fR [4] rfl (fun G hG => EvA.loadhp (I ((v1.getD d0.toNat default).Loc)) ty3 rfl (hG.a0 rfl) rfl rfl rfl rfl) (fN rfl (EvN.mv (hS b128 5 u127 1 s115.2.length) rfl) (fN rfl (EvN.mv (eL cI v75) rfl) (fN rfl (EvN.mv (I s94.2.2) rfl) ?_)))))))
        refine fN rfl (EvN.ixL sl23 rfl rfl g107 (fun _ => rfl)) (fN rfl (EvN.loadfp (I d0) ty3 rfl rfl) (fN rfl (EvN.mkF (c:=cI) ([d0] : List Int) [[I d0]] sl23 rfl rfl rfl (fun _ => rfl) (fun _ => rfl) rfl) ?_))
        obtain ⟨g131,h⟩ := gdL h
        refine fW 5 [] rfl rfl (fun G hG => EvA.app1 (g:=b128) (l:=s115.2) d0 sl23 (by kernel_rfl) rfl rfl (hG.a0 rfl) n129 (SrcOk.fz (l:=([d0] : List Int)) rfl (fun _ => rfl)) g131) (fN rfl (EvN.ixO (g:=false) sl37 rfl rfl nofun g109) (fV 2 [] rfl rfl (fun G hG => EvA.st (cs:=[hS false 5 (u127 + 1) 1 ((s115.2 ++ [d0]).length)]) ⟨u123,1,23,(nxs 6 y124 1 s94.2.1 (((v1.getD d0.toNat default).Loc).toNat) false 5 (u127 + 1) ((s115.2 ++ [d0]).length))⟩ ty23 rfl rfl (hG.a0 rfl) rfl rfl (nxs_get hN126.hi) rfl rfl (congrArg (ABlk.mk u123 1 23) nxs_set)) (TF.nil ?_)))
        obtain rfl := osi h
        exact ⟨((b121,u120),((up 1 ((up 1 y124).put (((v1.getD d0.toNat default).Loc).toNat) (false,0,u127 + 1))),(some ⟨0,5,101,[[I ((v1.getD d0.toNat default).Thread),I ((v1.getD d0.toNat default).Index),I ((v1.getD d0.toNat default).Loc),Bo ((v1.getD d0.toNat default).Reads),Bo ((v1.getD d0.toNat default).Writes)]]⟩ :: (bE false (u127 + 1) 1 3 ((s115.2 ++ [d0]).map cI) :: kk125)),u123)),⟨n122,((hN126.close (g:=false) (v:=u127 + 1) (r:=(s115.2 ++ [d0])) nofun (fun _ => rfl)).push (fun _ hb => osi hb ▸ rowsF_row rfl))⟩,cutW (Eq.trans (congrArg (fun n_ : Nat => (some ⟨0,2,43,[[.nil,.nil]]⟩ :: bE b121 u120 1 3 (s115.1.map cI) :: bE false u123 1 23 (nrs 4 (up 1 ((up 1 y124).put (((v1.getD d0.toNat default).Loc).toNat) (false,0,u127 + 1))) 1 (s94.2.1.set (((v1.getD d0.toNat default).Loc).toNat) (s115.2 ++ [d0]))) :: some ⟨0,2,43,[[hS b121 1 u120 1 s115.1.length,hS false 2 u123 1 n_]]⟩ :: some ⟨0,5,101,[[I ((v1.getD d0.toNat default).Thread),I ((v1.getD d0.toNat default).Index),I ((v1.getD d0.toNat default).Loc),Bo ((v1.getD d0.toNat default).Reads),Bo ((v1.getD d0.toNat default).Writes)]]⟩ :: bE false (u127 + 1) 1 3 ((s115.2 ++ [d0]).map cI) :: kk125 : AH)) (by simp : (s94.2.1.set (((v1.getD d0.toNat default).Loc).toNat) (s115.2 ++ [d0])).length = s94.2.1.length)) (congrArg (fun r_ : List (List AV) => (some ⟨0,2,43,[[.nil,.nil]]⟩ :: bE b121 u120 1 3 (s115.1.map cI) :: bE false u123 1 23 r_ :: some ⟨0,2,43,[[hS b121 1 u120 1 s115.1.length,hS false 2 u123 1 s94.2.1.length]]⟩ :: some ⟨0,5,101,[[I ((v1.getD d0.toNat default).Thread),I ((v1.getD d0.toNat default).Index),I ((v1.getD d0.toNat default).Loc),Bo ((v1.getD d0.toNat default).Reads),Bo ((v1.getD d0.toNat default).Writes)]]⟩ :: bE false (u127 + 1) 1 3 ((s115.2 ++ [d0]).map cI) :: kk125 : AH)) (show (nxs 6 y124 1 s94.2.1 (((v1.getD d0.toNat default).Loc).toNat) false 5 (u127 + 1) ((s115.2 ++ [d0]).length)) = nrs 4 (up 1 ((up 1 y124).put (((v1.getD d0.toNat default).Loc).toNat) (false,0,u127 + 1))) 1 (s94.2.1.set (((v1.getD d0.toNat default).Loc).toNat) (s115.2 ++ [d0])) from nxs_close (m:=5) (gh:=y124) (r:=(s115.2 ++ [d0])) hN126.hi).symm)) (wkC rfl (wkC rfl (wkC rfl (wkC rfl (wkC rfl wkN)))))⟩
       ·replace h := condF q130 h
        refine T.skip ?_
        obtain rfl := osi h
        exact ⟨((b121,u120),((up 1 ((up 1 y124).put (((v1.getD d0.toNat default).Loc).toNat) (b128,0,u127))),(some ⟨0,5,101,[[I ((v1.getD d0.toNat default).Thread),I ((v1.getD d0.toNat default).Index),I ((v1.getD d0.toNat default).Loc),Bo ((v1.getD d0.toNat default).Reads),Bo ((v1.getD d0.toNat default).Writes)]]⟩ :: (bE b128 u127 1 3 (s115.2.map cI) :: kk125)),u123)),⟨n122,((hN126.close (g:=b128) (v:=u127) (r:=s115.2) n129 (fun _ => rfl)).push (fun _ hb => osi hb ▸ rowsF_row rfl))⟩,cutW (Eq.trans (congrArg (fun n_ : Nat => (some ⟨0,2,43,[[.nil,.nil]]⟩ :: bE b121 u120 1 3 (s115.1.map cI) :: bE false u123 1 23 (nrs 4 (up 1 ((up 1 y124).put (((v1.getD d0.toNat default).Loc).toNat) (b128,0,u127))) 1 (s94.2.1.set (((v1.getD d0.toNat default).Loc).toNat) s115.2)) :: some ⟨0,2,43,[[hS b121 1 u120 1 s115.1.length,hS false 2 u123 1 n_]]⟩ :: some ⟨0,5,101,[[I ((v1.getD d0.toNat default).Thread),I ((v1.getD d0.toNat default).Index),I ((v1.getD d0.toNat default).Loc),Bo ((v1.getD d0.toNat default).Reads),Bo ((v1.getD d0.toNat default).Writes)]]⟩ :: bE b128 u127 1 3 (s115.2.map cI) :: kk125 : AH)) (by simp : (s94.2.1.set (((v1.getD d0.toNat default).Loc).toNat) s115.2).length = s94.2.1.length)) (congrArg (fun r_ : List (List AV) => (some ⟨0,2,43,[[.nil,.nil]]⟩ :: bE b121 u120 1 3 (s115.1.map cI) :: bE false u123 1 23 r_ :: some ⟨0,2,43,[[hS b121 1 u120 1 s115.1.length,hS false 2 u123 1 s94.2.1.length]]⟩ :: some ⟨0,5,101,[[I ((v1.getD d0.toNat default).Thread),I ((v1.getD d0.toNat default).Index),I ((v1.getD d0.toNat default).Loc),Bo ((v1.getD d0.toNat default).Reads),Bo ((v1.getD d0.toNat default).Writes)]]⟩ :: bE b128 u127 1 3 (s115.2.map cI) :: kk125 : AH)) (show (nxs 6 y124 1 s94.2.1 (((v1.getD d0.toNat default).Loc).toNat) b128 5 u127 s115.2.length) = nrs 4 (up 1 ((up 1 y124).put (((v1.getD d0.toNat default).Loc).toNat) (b128,0,u127))) 1 (s94.2.1.set (((v1.getD d0.toNat default).Loc).toNat) s115.2) from nxs_close (m:=5) (gh:=y124) (r:=s115.2) hN126.hi).symm)) (wkC rfl (wkC rfl (wkC rfl (wkC rfl (wkC rfl wkN)))))⟩
      ·clear ks115
       refine T.seq (T.region (oN (EvN.fahp Try.underlying101 rfl (by kernel_rfl) rfl) (oA (EvA.loadhp (Bo ((v1.getD d0.toNat default).Reads)) ty4 rfl rfl rfl rfl rfl rfl) (TO.nil ?_))))
       refine T.cond rfl (fun q116 => ?_) (fun q116 => ?_)
       ·replace h := condT q116 h
        refine T.drawF (fun i => [([],false),([3],false),([],false),([],false),([],false),([],false),([],false),([],false),([],false),([],false),([],false),([5],false),([],false),([1],true)].getD i ([],false)) (by kernel_rfl) (by kernel_rfl) (fN rfl (EvN.fahp Try.underlying43 rfl (by kernel_rfl) rfl) (fR [3] rfl (fun G hG => EvA.loadhp (hS b97 1 u96 1 s94.1.length) ty23 rfl (hG.a0 rfl) rfl rfl rfl rfl) (fN rfl (EvN.mv (eL cI v75) rfl) (fN rfl (EvN.mv (I s94.2.2) rfl) (fN rfl (EvN.ixL sl23 rfl rfl g107 (fun _ => rfl)) (fN rfl (EvN.loadfp (I d0) ty3 rfl rfl) (fN rfl (EvN.mv (hS b110 5 u111 1 ((s94.2.1.getD (((v1.getD d0.toNat default).Loc).toNat) []).length)) rfl) ?_)))))))
        refine fN rfl (EvN.mv (hS b110 5 u111 1 ((s94.2.1.getD (((v1.getD d0.toNat default).Loc).toNat) []).length)) rfl) (fN rfl (EvN.lenO (g:=b110) sl23 rfl (nil_len n114 rfl)) ?_)
        obtain ⟨g117,h⟩ := gdW h
        refine fN rfl (EvN.sub rfl rfl g117) ?_
        obtain ⟨g118,h⟩ := gdD h
        obtain rfl := gfalse n114 rfl g118
        refine fN rfl (EvN.ixO (g:=false) sl23 rfl rfl nofun g118) (fR [5] rfl (fun G hG => EvA.ldO (g:=false) (l:=(s94.2.1.getD (((v1.getD d0.toNat default).Loc).toNat) [])) (I ((s94.2.1.getD (((v1.getD d0.toNat default).Loc).toNat) []).getD ((((s94.2.1.getD (((v1.getD d0.toNat default).Loc).toNat) []).length : Int) - (1 : Int)).toNat) default)) ty3 rfl (hG.a0 rfl) nofun (toNat_lt' rfl g118) rfl) ?_)
        obtain ⟨g119,h⟩ := gdD h
        obtain rfl := gfalse n98 rfl g119
        refine fN rfl (EvN.ixO (g:=false) sl23 rfl rfl nofun g119) (fV 1 [] rfl rfl (fun G hG => EvA.stO (g:=false) (l:=s94.1) (cs:=[I ((s94.2.1.getD (((v1.getD d0.toNat default).Loc).toNat) []).getD ((((s94.2.1.getD (((v1.getD d0.toNat default).Loc).toNat) []).length : Int) - (1 : Int)).toNat) default)]) ((s94.2.1.getD (((v1.getD d0.toNat default).Loc).toNat) []).getD ((((s94.2.1.getD (((v1.getD d0.toNat default).Loc).toNat) []).length : Int) - (1 : Int)).toNat) default) ty3 rfl rfl (hG.a0 rfl) nofun (toNat_lt' rfl g119) rfl rfl rfl) (TF.nil ?_))
        obtain rfl := osi h
        exact ⟨((false,u96),(y100,kk112,u99),(false,u111)),⟨nofun,hX113,nofun⟩,cutW (congrArg (fun n_ : Nat => (some ⟨0,2,43,[[.nil,.nil]]⟩ :: bE false u96 1 3 ((s94.1.set (d0.toNat) ((s94.2.1.getD (((v1.getD d0.toNat default).Loc).toNat) []).getD ((((s94.2.1.getD (((v1.getD d0.toNat default).Loc).toNat) []).length : Int) - (1 : Int)).toNat) default)).map cI) :: bE false u99 1 23 (nxs 6 y100 1 s94.2.1 (((v1.getD d0.toNat default).Loc).toNat) false 5 u111 ((s94.2.1.getD (((v1.getD d0.toNat default).Loc).toNat) []).length)) :: some ⟨0,2,43,[[hS false 1 u96 1 n_,hS false 2 u99 1 s94.2.1.length]]⟩ :: some ⟨0,5,101,[[I ((v1.getD d0.toNat default).Thread),I ((v1.getD d0.toNat default).Index),I ((v1.getD d0.toNat default).Loc),Bo ((v1.getD d0.toNat default).Reads),Bo ((v1.getD d0.toNat default).Writes)]]⟩ :: bE false u111 1 3 ((s94.2.1.getD (((v1.getD d0.toNat default).Loc).toNat) []).map cI) :: kk112 : AH)) (by simp : (s94.1.set (d0.toNat) ((s94.2.1.getD (((v1.getD d0.toNat default).Loc).toNat) []).getD ((((s94.2.1.getD (((v1.getD d0.toNat default).Loc).toNat) []).length : Int) - (1 : Int)).toNat) default)).length = s94.1.length)) (wkC rfl (wkC rfl (wkC rfl (wkC rfl (wkC rfl (wkC rfl (wkC rfl wkN)))))))⟩
       ·replace h := condF q116 h
        refine T.skip ?_
        obtain rfl := osi h
        exact ⟨((b97,u96),(y100,kk112,u99),(b110,u111)),⟨n98,hX113,n114⟩,cutW rfl (wkC rfl (wkC rfl (wkC rfl (wkC rfl (wkC rfl (wkC rfl (wkC rfl wkN)))))))⟩
    ·replace h := condF q105 h
     refine T.exit ?_
     refine ⟨_,(osi h).symm,fun h => ?_⟩
     replace h := congrArg some h
     obtain rfl := osi h
     exact ⟨((b97,u96),(b103,y100,kk101,u99)),⟨n98,hN102,n104⟩,cutW rfl (wkC rfl (wkC rfl wkN))⟩
  ·clear ks43
   refine T.seq (T.region (oN (EvN.asg (I (0 : Int)) rfl) (TO.nil (T.block ?_))))
   refine T.loop (S:=(List (List Int)) × Int) (G:=(Bool × NG × AH × Nat)) F_spec_l13Exec_L59 (fun s58 gh => NN gh.2.2.1 gh.2.1 1 3 cI s58.1 /\ (gh.1 = true -> s58.1 = [])) (fun s58 gh => [(8,I s58.2),(6,.hp 3 0 2 0 0),(5,eL ZEv.c v1),(4,.hp 0 0 2 0 0),(0,eL (cL ZIn.c) p),(1,eL cI schedule)]) (fun s58 gh => (some ⟨0,2,43,[[.nil,.nil]]⟩ :: bE b35 u34 1 3 (s2.1.map cI) :: bE gh.1 gh.2.2.2 1 23 (nrs 4 gh.2.1 1 s58.1) :: some ⟨0,2,43,[[hS b35 1 u34 1 s2.1.length,hS gh.1 2 gh.2.2.2 1 s58.1.length]]⟩ :: gh.2.2.1)) (s0:=(s2.2,(0 : Int))) (b41,y38,kk39,u37) h ⟨hN40,n42⟩ (cutW rfl (wkC rfl (wkC rfl (wkC rfl (wkC rfl (wkC rfl (wkC rfl wkN))))))) (fun s58 gh ws58 h hg => ?_)
   obtain ⟨b64,y61,kk62,u60⟩ := gh
   obtain ⟨hN63,n65⟩ := hg
   refine T.seq (T.seq (T.region (oN (EvN.mv (I s58.2) rfl) (oN (EvN.ile rfl rfl) (TO.nil ?_)))))
   refine T.cond rfl (fun q66 => ?_) (fun q66 => ?_)
   ·replace h := condT q66 h
    refine T.skip (T.seq (T.block (T.region (oN (EvN.fahp Try.underlying43 rfl (by kernel_rfl) rfl) (oA (EvA.loadhp (hS b64 2 u60 1 s58.1.length) ty37 rfl rfl rfl rfl rfl rfl) (oN (EvN.mv (I s58.2) rfl) (oA (EvA.mkO (c:=cI) ([s58.2] : List Int) [[I s58.2]] sl23 rfl rfl rfl (fun _ => rfl) rfl rfl) ?_)))))))
    refine TO.reid (e0:=envOf [(34,hS false 4 0 1 (([s58.2] : List Int).length)),(32,hS b64 2 u60 1 s58.1.length),(8,I s58.2),(6,.hp 3 0 2 0 0),(5,eL ZEv.c v1),(4,.hp 0 0 2 0 0),(0,eL (cL ZIn.c) p),(1,eL cI schedule)]) (Reid.rot (m:=4) (S:=[some ⟨0,2,43,[[.nil,.nil]]⟩,bE b35 u34 1 3 (s2.1.map cI),bE b64 u60 1 23 (nrs 4 y61 1 s58.1),some ⟨0,2,43,[[hS b35 1 u34 1 s2.1.length,hS b64 2 u60 1 s58.1.length]]⟩]) (S' := [some ⟨0,2,43,[[.nil,.nil]]⟩,bE b35 u34 1 3 (s2.1.map cI),bE b64 u60 1 23 (nrs 5 y61 1 s58.1),some ⟨0,2,43,[[hS b35 1 u34 1 s2.1.length,hS b64 2 u60 1 s58.1.length]]⟩]) (K:=kk62) (x:=bE false 0 1 3 (([s58.2] : List Int).map cI)) (x' := bE false 0 1 3 (([s58.2] : List Int).map cI)) rfl rfl rfl (.some (.rowL (.cons .nil (.cons .nil .nil))) (.bE (fun _ => rfl) (.nest (hN63.renK rfl) (.some (.rowL (.cons (ren_hSg (Rot.low rfl)) (.cons (ren_hSg (Rot.low rfl)) .nil))) .nil)))) hN63.kf (.bE (fun _ => rfl) .nil)) (renE_cons (a0:=hS false (kk62.length + 4) 0 1 (([s58.2] : List Int).length)) rfl (ren_hSg Rot.new) (renE_cons (a0:=hS b64 2 u60 1 s58.1.length) rfl (ren_hSg (Rot.low rfl)) (renE_F rfl rfl (renE_cons (a0:=.hp 3 0 2 0 0) rfl (.hp (Rot.low rfl)) (renE_F rfl rfl (renE_cons (a0:=.hp 0 0 2 0 0) rfl (.hp (Rot.low rfl)) (renE_F rfl rfl (renE_F rfl rfl renE_nil)))))))) (oA (EvA.mkR [[hS false 4 0 1 (([s58.2] : List Int).length)]] sl37 rfl rfl rfl rfl) (TO.reid (e0:=envOf [(35,hS false 5 0 1 1),(32,hS b64 2 u60 1 s58.1.length),(8,I s58.2),(6,.hp 3 0 2 0 0),(5,eL ZEv.c v1),(4,.hp 0 0 2 0 0),(0,eL (cL ZIn.c) p),(1,eL cI schedule)]) (Reid.rot (m:=5) (S:=[some ⟨0,2,43,[[.nil,.nil]]⟩,bE b35 u34 1 3 (s2.1.map cI),bE b64 u60 1 23 (nrs 5 y61 1 s58.1),some ⟨0,2,43,[[hS b35 1 u34 1 s2.1.length,hS b64 2 u60 1 s58.1.length]]⟩,bE false 0 1 3 (([s58.2] : List Int).map cI)]) (S' := [some ⟨0,2,43,[[.nil,.nil]]⟩,bE b35 u34 1 3 (s2.1.map cI),bE b64 u60 1 23 (nrs 6 y61 1 s58.1),some ⟨0,2,43,[[hS b35 1 u34 1 s2.1.length,hS b64 2 u60 1 s58.1.length]]⟩,bE false 0 1 3 (([s58.2] : List Int).map cI)]) (K:=kk62) (x:=bE false 0 1 23 (([] : List (List Int)).map (cL cI) ++ [[hS false 4 0 1 (([s58.2] : List Int).length)]])) (x' := bE false 0 1 23 (([] : List (List Int)).map (cL cI) ++ [[hS false 4 0 1 (([s58.2] : List Int).length)]])) rfl rfl rfl (.some (.rowL (.cons .nil (.cons .nil .nil))) (.bE (fun _ => rfl) (.nest (hN63.renK rfl) (.some (.rowL (.cons (ren_hSg (Rot.low rfl)) (.cons (ren_hSg (Rot.low rfl)) .nil))) (.bE (fun _ => rfl) .nil))))) hN63.kf (.nest (.rowsL (.cons (.cons (ren_hSg (Rot.low rfl)) .nil) .nil)) .nil)) (renE_cons (a0:=hS false (kk62.length + 5) 0 1 1) rfl (ren_hSg Rot.new) (renE_cons (a0:=hS b64 2 u60 1 s58.1.length) rfl (ren_hSg (Rot.low rfl)) (renE_F rfl rfl (renE_cons (a0:=.hp 3 0 2 0 0) rfl (.hp (Rot.low rfl)) (renE_F rfl rfl (renE_cons (a0:=.hp 0 0 2 0 0) rfl (.hp (Rot.low rfl)) (renE_F rfl rfl (renE_F rfl rfl renE_nil)))))))) ?_))
    obtain ⟨g67,h⟩ := gdL h
    refine oA (EvA.appR (g:=b64) (rows:=(nrs 6 y61 1 s58.1)) (rows' := (nrs 6 y61 1 s58.1 ++ [[hS false 4 0 1 (([s58.2] : List Int).length)]])) (n' := (s58.1 ++ [([s58.2] : List Int)]).length) sl37 (by kernel_rfl) rfl rfl nrs_rows.symm (fun q => by rw [n65 q]; rfl) (SrcOk.raw (rows:=[[hS false 4 0 1 (([s58.2] : List Int).length)]]) rfl rfl rfl) g67 rfl (by simp)) (TO.reid (e0:=envOf [(36,hS false 2 (u60 + 1) 1 ((s58.1 ++ [([s58.2] : List Int)]).length)),(8,I s58.2),(6,.hp 3 0 2 0 0),(5,eL ZEv.c v1),(4,.hp 0 0 2 0 0),(0,eL (cL ZIn.c) p),(1,eL cI schedule)]) (Reid.take (a:=4) (S:=[some ⟨0,2,43,[[.nil,.nil]]⟩,bE b35 u34 1 3 (s2.1.map cI),bE false (u60 + 1) 1 23 (nrs 6 y61 1 s58.1 ++ [[hS false 4 0 1 (([s58.2] : List Int).length)]]),some ⟨0,2,43,[[hS b35 1 u34 1 s2.1.length,hS b64 2 u60 1 s58.1.length]]⟩]) (S' := [some ⟨0,2,43,[[.nil,.nil]]⟩,bE b35 u34 1 3 (s2.1.map cI),bE false (u60 + 1) 1 23 (nrs 4 ((up 1 y61).put s58.1.length (false,0,0)) 1 (s58.1 ++ [([s58.2] : List Int)])),some ⟨0,2,43,[[hS b35 1 u34 1 s2.1.length,hS b64 2 u60 1 s58.1.length]]⟩]) (K:=kk62) (x2:=bE false 0 1 3 (([s58.2] : List Int).map cI)) (x2' := bE false 0 1 3 (([s58.2] : List Int).map cI)) rfl rfl (.some (.rowL (.cons .nil (.cons .nil .nil))) (.bE (fun _ => rfl) (.nest (NN.renTk) (.some (.rowL (.cons (ren_hSg (Tk.low rfl)) (.cons (ren_hSg (Tk.low rfl)) .nil))) .nil)))) hN63.kf (.bE (fun _ => rfl) .nil)) (renE_cons (a0:=hS false 2 (u60 + 1) 1 ((s58.1 ++ [([s58.2] : List Int)]).length)) rfl (ren_hSg (Tk.low rfl)) (renE_F rfl rfl (renE_cons (a0:=.hp 3 0 2 0 0) rfl (.hp (Tk.low rfl)) (renE_F rfl rfl (renE_cons (a0:=.hp 0 0 2 0 0) rfl (.hp (Tk.low rfl)) (renE_F rfl rfl (renE_F rfl rfl renE_nil))))))) (oN (EvN.fahp Try.underlying43 rfl (by kernel_rfl) rfl) (oV (EvA.st (cs:=[hS false 2 (u60 + 1) 1 ((s58.1 ++ [([s58.2] : List Int)]).length)]) ⟨0,2,43,[[hS b35 1 u34 1 s2.1.length,hS false 2 (u60 + 1) 1 ((s58.1 ++ [([s58.2] : List Int)]).length)]]⟩ ty37 rfl rfl rfl rfl rfl rfl rfl rfl rfl) (TO.nil (T.region (oN (EvN.mv (I s58.2) rfl) ?_))))))
    obtain ⟨g68,h⟩ := gdW h
    refine oN (EvN.add rfl rfl g68) (oN (EvN.asg (I (s58.2 + (1 : Int))) rfl) (TO.nil ?_))
    obtain rfl := osi h
    exact ⟨((s58.1 ++ [([s58.2] : List Int)]),(s58.2 + (1 : Int))),(false,((up 1 y61).put s58.1.length (false,0,0)),(bE false 0 1 3 (([s58.2] : List Int).map cI) :: kk62),u60 + 1),rfl,⟨(hN63.snoc (g:=false) (ver:=0) (r:=([s58.2] : List Int)) nofun (fun _ => rfl)),nofun⟩,cutW rfl (wkC rfl (wkC rfl (wkC rfl (wkC rfl (wkC rfl (wkC rfl wkN))))))⟩
   ·replace h := condF q66 h
    refine T.exit ?_
    refine ⟨_,(osi h).symm,fun h => ?_⟩
    replace h := congrArg some h
    obtain rfl := osi h
    exact ⟨(b64,y61,kk62,u60),⟨hN63,n65⟩,cutW rfl (wkC rfl (wkC rfl (wkC rfl (wkC rfl (wkC rfl wkN)))))⟩
 ·clear ks2
  refine T.seq (T.region (oN (EvN.asg (I (0 : Int)) rfl) (TO.nil (T.block ?_))))
  refine T.loop (S:=(List Int) × (List (List Int)) × Int) (G:=(Bool × Nat) × (Bool × NG × AH × Nat)) (F_spec_l13Exec_L21 v1) (fun s20 gh => (gh.1.1 = true -> s20.1 = []) /\ NN gh.2.2.2.1 gh.2.2.1 1 3 cI s20.2.1 /\ (gh.2.1 = true -> s20.2.1 = [])) (fun s20 gh => [(7,I s20.2.2),(6,.hp 3 0 2 0 0),(5,eL ZEv.c v1),(4,.hp 0 0 2 0 0),(0,eL (cL ZIn.c) p),(1,eL cI schedule)]) (fun s20 gh => (some ⟨0,2,43,[[.nil,.nil]]⟩ :: bE gh.1.1 gh.1.2 1 3 (s20.1.map cI) :: bE gh.2.1 gh.2.2.2.2 1 23 (nrs 4 gh.2.2.1 1 s20.2.1) :: some ⟨0,2,43,[[hS gh.1.1 1 gh.1.2 1 s20.1.length,hS gh.2.1 2 gh.2.2.2.2 1 s20.2.1.length]]⟩ :: gh.2.2.2.1)) (s0:=(([] : List Int),([] : List (List Int)),(0 : Int))) ((true,0),(true,(fun _ => (true,0,0)),([] : AH),0)) h ⟨(fun _ => rfl),(NN.nil (gh:=(fun _ => (true,0,0))) (w:=1) (ty:=3) (f:=cI)),(fun _ => rfl)⟩ (cutW rfl (wkC rfl (wkC rfl (wkC rfl (wkC rfl (wkC rfl (wkC rfl wkN))))))) (fun s20 gh ws20 h hg => ?_)
  obtain ⟨⟨b23,u22⟩,⟨b29,y26,kk27,u25⟩⟩ := gh
  obtain ⟨n24,hN28,n30⟩ := hg
  refine T.seq (T.seq (T.region (oN (EvN.mv (I s20.2.2) rfl) (oN (EvN.mv (eL ZEv.c v1) rfl) (oN (EvN.lenL sl98 rfl) (oN (EvN.ilt rfl rfl) (TO.nil ?_)))))))
  refine T.cond rfl (fun q31 => ?_) (fun q31 => ?_)
  ·replace h := condT q31 h
   refine T.skip (T.seq (T.block (T.region (oN (EvN.fahp Try.underlying43 rfl (by kernel_rfl) rfl) (oA (EvA.loadhp (hS b23 1 u22 1 s20.1.length) ty23 rfl rfl rfl rfl rfl rfl) (oN (EvN.mkF (c:=cI) ([(-1 : Int)] : List Int) [[I (-1 : Int)]] sl23 rfl rfl rfl (fun _ => rfl) (fun _ => rfl) rfl) ?_))))))
   obtain ⟨g32,h⟩ := gdL h
   refine oA (EvA.app1 (g:=b23) (l:=s20.1) (-1 : Int) sl23 (by kernel_rfl) rfl rfl rfl n24 (SrcOk.fz (l:=([(-1 : Int)] : List Int)) rfl (fun _ => rfl)) g32) (oN (EvN.fahp Try.underlying43 rfl (by kernel_rfl) rfl) (oV (EvA.st (cs:=[hS false 1 (u22 + 1) 1 ((s20.1 ++ [(-1 : Int)]).length)]) ⟨0,2,43,[[hS false 1 (u22 + 1) 1 ((s20.1 ++ [(-1 : Int)]).length),hS b29 2 u25 1 s20.2.1.length]]⟩ ty23 rfl rfl rfl rfl rfl rfl rfl rfl rfl) (TO.nil (T.clean (H0:=(some ⟨0,2,43,[[.nil,.nil]]⟩ :: bE false (u22 + 1) 1 3 ((s20.1 ++ [(-1 : Int)]).map cI) :: bE b29 u25 1 23 (nrs 4 y26 1 s20.2.1) :: some ⟨0,2,43,[[hS false 1 (u22 + 1) 1 ((s20.1 ++ [(-1 : Int)]).length),hS b29 2 u25 1 s20.2.1.length]]⟩ :: kk27)) (e0:=envOf [(7,I s20.2.2),(6,.hp 3 0 2 0 0),(5,eL ZEv.c v1),(4,.hp 0 0 2 0 0),(0,eL (cL ZIn.c) p),(1,eL cI schedule)]) rfl (wkC rfl (wkC rfl (wkC rfl (wkC rfl (wkC rfl (wkC rfl wkN)))))) (T.region (oN (EvN.mv (I s20.2.2) rfl) ?_))))))
   obtain ⟨g33,h⟩ := gdW h
   refine oN (EvN.add rfl rfl g33) (oN (EvN.asg (I (s20.2.2 + (1 : Int))) rfl) (TO.nil ?_))
   obtain rfl := osi h
   exact ⟨((s20.1 ++ [(-1 : Int)]),s20.2.1,(s20.2.2 + (1 : Int))),((false,u22 + 1),(b29,y26,kk27,u25)),rfl,⟨nofun,hN28,n30⟩,cutW rfl (wkC rfl (wkC rfl (wkC rfl (wkC rfl (wkC rfl (wkC rfl wkN))))))⟩
  ·replace h := condF q31 h
   refine T.exit ?_
   refine ⟨_,(osi h).symm,fun h => ?_⟩
   replace h := congrArg some h
   obtain rfl := osi h
   exact ⟨((b23,u22),(b29,y26,kk27,u25)),⟨n24,hN28,n30⟩,cutW rfl (wkC rfl (wkC rfl (wkC rfl (wkC rfl (wkC rfl wkN)))))⟩
theorem F_spec_ExecOf_P (p : List (List ZIn)) (schedule : List Int) {q : ZEx × Bool} (h : F_spec_ExecOf p schedule = some q) : PCall Try.prog 32 [eL (cL ZIn.c) p,eL cI schedule] (.tup [.agg (ZEx.c q.1),Bo q.2]) := by
 refine PCall.mkT Try.func32 rfl (by kernel_rfl) rfl (by kernel_rfl) (e0:=envOf [(0,eL (cL ZIn.c) p),(1,eL cI schedule)]) (wkC rfl (wkC rfl wkN)) (T.seq (T.region (oA (EvA.al zs43 rfl rfl) (oN (EvN.asg (Bo false) rfl) (TO.nil (T.seq (T.region ?_)))))))
 refine oN (EvN.mv (eL (cL ZIn.c) p) rfl) (oN (EvN.mv (eL cI schedule) rfl) ?_)
 obtain ⟨v1,cv1,h⟩ := bindL h
 refine oN (EvN.call rfl rfl rfl (F_spec_RunSchedule_P p schedule cv1) rfl) (oN (EvN.mv (.tup [eL cI v1.1,Bo v1.2]) rfl) (oN (EvN.ext (eL cI v1.1) rfl rfl) (oN (EvN.ext (Bo v1.2) rfl rfl) (oN (EvN.asg (eL cI v1.1) rfl) (oN (EvN.asg (Bo v1.2) rfl) (TO.nil (T.seq ?_)))))))
 refine T.seq (T.clean (H0:=[some ⟨0,2,43,[[.nil,.nil]]⟩]) (e0:=envOf [(7,Bo v1.2),(4,.hp 0 0 2 0 0),(0,eL (cL ZIn.c) p),(1,eL cI schedule)]) rfl (wkC rfl (wkC rfl (wkC rfl (wkC rfl wkN)))) (T.region (oN (EvN.mv (Bo v1.2) rfl) (oN (EvN.not rfl) (TO.nil ?_)))))
 refine T.cond rfl (fun q2 => ?_) (fun q2 => ?_)
 ·replace h := condT q2 h
  refine T.seq (T.region (oN (EvN.build [.nil,.nil] Try.underlying43 zs43 fs43 rfl rfl) (oV (EvA.st (cs:=[.nil,.nil]) ⟨0,2,43,[[.nil,.nil]]⟩ ty43 rfl rfl rfl rfl rfl rfl rfl rfl rfl) (oN (EvN.asg (Bo false) rfl) (TO.nil (T.ret ?_))))))
  obtain rfl := osi h
  repeat (first|refine retS ?_|refine retB ?_)
  exact Fin.ret (vs:=[.agg [.nil,.nil],Bo false]) (.cons (.cell (.agg [.nil,.nil]) ty43 rfl rfl rfl rfl rfl rfl) (.cons (.tmp rfl) .nil)) (.tupL (.cons (Fz.aggL (.cons (.nil0) (.cons (.nil0) .nil))) (.cons (.of_isF 9 _ rfl) .nil)))
 ·replace h := condF q2 h
  refine T.skip (T.seq (T.region (oN (EvN.mv (eL (cL ZIn.c) p) rfl) (oN (EvN.mv (eL cI schedule) rfl) ?_))))
  obtain ⟨v3,cv3,h⟩ := bindL h
  refine oN (EvN.call rfl rfl rfl (F_spec_l13Exec_P p schedule cv3) rfl) (oV (EvA.st (cs:=[eL cI v3.From,eL (cL cI) v3.Order]) ⟨0,2,43,[[eL cI v3.From,eL (cL cI) v3.Order]]⟩ ty43 rfl rfl rfl rfl rfl rfl rfl rfl rfl) (oN (EvN.asg (Bo true) rfl) (TO.nil (T.ret ?_))))
  obtain rfl := osi h
  repeat (first|refine retS ?_|refine retB ?_)
  exact Fin.ret (vs:=[.agg [eL cI v3.From,eL (cL cI) v3.Order],Bo true]) (.cons (.cell (.agg [eL cI v3.From,eL (cL cI) v3.Order]) ty43 rfl rfl rfl rfl rfl rfl) (.cons (.tmp rfl) .nil)) (.tupL (.cons (.of_isF 9 _ rfl) (.cons (.of_isF 9 _ rfl) .nil)))
theorem F_impl_newSeq_P (p : List (List ZIn)) {q : ZSq} (h : F_impl_newSeq p = some q) : PCall Try.prog 78 [eL (cL ZIn.c) p] (.ifc 149 (.fp (ZSq.c q) 0)) := by
 refine PCall.mkT Try.func78 rfl (by kernel_rfl) rfl (by kernel_rfl) (e0:=envOf [(0,eL (cL ZIn.c) p)]) (wkC rfl wkN) (T.seq (T.region (oN (EvN.asg (.v .nilIface) rfl) (TO.nil (T.seq (T.region (oN (EvN.mv (eL (cL ZIn.c) p) rfl) ?_)))))))
 refine oN (EvN.build [eL (cL ZIn.c) p,Y (0 : Int),Y (0 : Int),Y (0 : Int),Y (0 : Int),Y (0 : Int),Y (0 : Int),Y (0 : Int),Y (0 : Int),Y (0 : Int),Y (0 : Int),Y (0 : Int),Y (0 : Int),Y (0 : Int),Y (0 : Int),Y (0 : Int)] Try.underlying111 zs111 fs111 rfl rfl) (oN (EvN.build [eL (cL ZIn.c) p,Y (0 : Int),Y (0 : Int),Y (0 : Int),Y (0 : Int),Y (0 : Int),Y (0 : Int),Y (0 : Int),Y (0 : Int),Y (0 : Int),Y (0 : Int),Y (0 : Int),Y (0 : Int),Y (0 : Int),Y (0 : Int),Y (0 : Int)] Try.underlying151 zs151 fs151 rfl rfl) (oN (EvN.bxF [eL (cL ZIn.c) p,Y (0 : Int),Y (0 : Int),Y (0 : Int),Y (0 : Int),Y (0 : Int),Y (0 : Int),Y (0 : Int),Y (0 : Int),Y (0 : Int),Y (0 : Int),Y (0 : Int),Y (0 : Int),Y (0 : Int),Y (0 : Int),Y (0 : Int)] rfl rfl rfl) (oN (EvN.mkifc (.fp (ZSq.c (⟨(⟨p,(⟨(0 : Int),(0 : Int),(0 : Int)⟩ : Z3b),(⟨(⟨(0 : Int),(0 : Int),(0 : Int)⟩ : Z3b),(⟨(0 : Int),(0 : Int),(0 : Int)⟩ : Z3b),(⟨(0 : Int),(0 : Int),(0 : Int)⟩ : Z3b)⟩ : Z33),(⟨(0 : Int),(0 : Int),(0 : Int)⟩ : Z3b)⟩ : ZVa)⟩ : ZSq)) 0) Try.underlying149 (fun _ h => nomatch h) rfl) (oN (EvN.asg (.ifc 149 (.fp (ZSq.c (⟨(⟨p,(⟨(0 : Int),(0 : Int),(0 : Int)⟩ : Z3b),(⟨(⟨(0 : Int),(0 : Int),(0 : Int)⟩ : Z3b),(⟨(0 : Int),(0 : Int),(0 : Int)⟩ : Z3b),(⟨(0 : Int),(0 : Int),(0 : Int)⟩ : Z3b)⟩ : Z33),(⟨(0 : Int),(0 : Int),(0 : Int)⟩ : Z3b)⟩ : ZVa)⟩ : ZSq)) 0)) rfl) (TO.nil (T.ret ?_))))))
 obtain rfl := osi h
 repeat (first|refine retS ?_|refine retB ?_)
 exact Fin.ret (vs:=[.ifc 149 (.fp (ZSq.c (⟨(⟨p,(⟨(0 : Int),(0 : Int),(0 : Int)⟩ : Z3b),(⟨(⟨(0 : Int),(0 : Int),(0 : Int)⟩ : Z3b),(⟨(0 : Int),(0 : Int),(0 : Int)⟩ : Z3b),(⟨(0 : Int),(0 : Int),(0 : Int)⟩ : Z3b)⟩ : Z33),(⟨(0 : Int),(0 : Int),(0 : Int)⟩ : Z3b)⟩ : ZVa)⟩ : ZSq)) 0)]) (.cons (.tmp rfl) .nil) (.of_isF 9 _ rfl)
end Go.Proofs.Ytlmjnhnpahicmaa
