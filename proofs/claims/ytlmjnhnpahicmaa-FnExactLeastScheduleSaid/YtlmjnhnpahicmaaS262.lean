/-
 The program's code computes the functions over plain values; printed by lift.py. No conditions.
-/
import Derived.Test.YtlmjnhnpahicmaaS26d
import Derived.Test.YtlmjnhnpahicmaaSf
import Derived.Test.YtlmjnhnpahicmaaBrV
import Derived.Test.YtlmjnhnpahicmaaS261
namespace Go.Proofs.Ytlmjnhnpahicmaa
open Go.RowKit
set_option maxRecDepth 100000
theorem F_impl_values_next_P (v : ZVa) (t : Int) {q : ZIn × Bool} (h : F_impl_values_next v t = some q) : PCall Try.prog 215 [.fp (ZVa.c v) 0,I t] (.tup [.agg (ZIn.c q.1),Bo q.2]) := by
 refine PCall.mkT Try.func215 rfl (by kernel_rfl) rfl (by kernel_rfl) (e0:=envOf [(0,.fp (ZVa.c v) 0),(1,I t)]) (wkC rfl (wkC rfl wkN)) (T.seq (T.region (oA (EvA.al zs56 rfl rfl) (oN (EvN.asg (Bo false) rfl) (TO.nil (T.seq (T.seq ?_)))))))
 refine T.drawF (fun _ => ([],false)) (by kernel_rfl) (by kernel_rfl) (fN rfl (EvN.mv (.fp (ZVa.c v) 0) rfl) (fN rfl (EvN.mv (I t) rfl) (fN rfl (EvN.nilfp rfl) (fN rfl (EvN.fafpS 3 Try.underlying111 rfl (by kernel_rfl) rfl rfl (row2:=Z3b.c v.pc)) ?_))))
 obtain ⟨g1,h⟩ := gdD h
 refine fN rfl (EvN.ixafp Try.underlying108 ty5 rfl rfl g1) (fN rfl (EvN.loadfp (Y (Z3b.get v.pc t)) ty5 rfl (sel3 (P:=fun (z0 : Int) => partV false 1 (Z3b.c v.pc) (0 + z0.toNat * 1) = some (Y (Z3b.get v.pc z0))) g1 rfl rfl rfl)) ?_)
 obtain ⟨g2,h⟩ := gdW h
 refine fN rfl (EvN.iconv ty5.und Try.underlying3 rfl g2) (fN rfl (EvN.mv (.fp (ZVa.c v) 0) rfl) (fN rfl (EvN.nilfp rfl) (fN rfl (EvN.fafp Try.underlying111 rfl (by kernel_rfl) rfl) (fN rfl (EvN.loadfp (eL (cL ZIn.c) v.p) ty27 rfl rfl) (fN rfl (EvN.mv (I t) rfl) ?_)))))
 obtain ⟨g3,h⟩ := gdD h
 refine fN rfl (EvN.ixL sl27 rfl rfl g3 (fun _ => rfl)) (fN rfl (EvN.loadfp (eL ZIn.c (v.p.getD t.toNat default)) ty57 rfl rfl) (fN rfl (EvN.lenL sl57 rfl) (fN rfl (EvN.ige rfl rfl) (TF.nil ?_))))
 refine T.cond rfl (fun q4 => ?_) (fun q4 => ?_)
 ·replace h := condT q4 h
  refine T.seq (T.clean (H0:=[some ⟨0,4,56,[[I (0 : Int),I (0 : Int),I (0 : Int),I (0 : Int)]]⟩]) (e0:=envOf [(4,.hp 0 0 4 0 0)]) rfl (wkC rfl wkN) (T.region (oN (EvN.build [I (0 : Int),I (0 : Int),I (0 : Int),I (0 : Int)] Try.underlying56 zs56 fs56 rfl rfl) (oV (EvA.st (cs:=[I (0 : Int),I (0 : Int),I (0 : Int),I (0 : Int)]) ⟨0,4,56,[[I (0 : Int),I (0 : Int),I (0 : Int),I (0 : Int)]]⟩ ty56 rfl rfl rfl rfl rfl rfl rfl rfl rfl) (oN (EvN.asg (Bo false) rfl) (TO.nil (T.ret ?_)))))))
  obtain rfl := osi h
  repeat (first|refine retS ?_|refine retB ?_)
  exact Fin.ret (vs:=[.agg [I (0 : Int),I (0 : Int),I (0 : Int),I (0 : Int)],Bo false]) (.cons (.cell (.agg [I (0 : Int),I (0 : Int),I (0 : Int),I (0 : Int)]) ty56 rfl rfl rfl rfl rfl rfl) (.cons (.tmp rfl) .nil)) (.tupL (.cons (.of_isF 9 _ rfl) (.cons (.of_isF 9 _ rfl) .nil)))
 ·replace h := condF q4 h
  refine T.skip (T.seq (T.clean (H0:=[some ⟨0,4,56,[[I (0 : Int),I (0 : Int),I (0 : Int),I (0 : Int)]]⟩]) (e0:=envOf [(4,.hp 0 0 4 0 0),(0,.fp (ZVa.c v) 0),(1,I t)]) rfl (wkC rfl (wkC rfl (wkC rfl wkN))) (T.drawF (fun i => [([],false),([],false),([],false),([],false),([],false),([],false),([],false),([],false),([],false),([],false),([],false),([],false),([],false),([],false),([],false),([0],true),([],false)].getD i ([],false)) (by kernel_rfl) (by kernel_rfl) (fN rfl (EvN.mv (.fp (ZVa.c v) 0) rfl) (fN rfl (EvN.nilfp rfl) (fN rfl (EvN.fafp Try.underlying111 rfl (by kernel_rfl) rfl) (fN rfl (EvN.loadfp (eL (cL ZIn.c) v.p) ty27 rfl rfl) ?_)))))))
  refine fN rfl (EvN.mv (I t) rfl) (fN rfl (EvN.ixL sl27 rfl rfl g3 (fun _ => rfl)) (fN rfl (EvN.loadfp (eL ZIn.c (v.p.getD t.toNat default)) ty57 rfl rfl) (fN rfl (EvN.mv (.fp (ZVa.c v) 0) rfl) (fN rfl (EvN.mv (I t) rfl) (fN rfl (EvN.nilfp rfl) (fN rfl (EvN.fafpS 3 Try.underlying111 rfl (by kernel_rfl) rfl rfl (row2:=Z3b.c v.pc)) (fN rfl (EvN.ixafp Try.underlying108 ty5 rfl rfl g1) ?_)))))))
  refine fN rfl (EvN.loadfp (Y (Z3b.get v.pc t)) ty5 rfl (sel3 (P:=fun (z0 : Int) => partV false 1 (Z3b.c v.pc) (0 + z0.toNat * 1) = some (Y (Z3b.get v.pc z0))) g1 rfl rfl rfl)) ?_
  obtain ⟨g5,h⟩ := gdD h
  refine fN rfl (EvN.ixL sl57 rfl rfl g5 (fun _ => rfl)) (fN rfl (EvN.loadfp (.agg (ZIn.c ((v.p.getD t.toNat default).getD (Z3b.get v.pc t).toNat default))) ty56 rfl rfl) (fV 0 [] rfl rfl (fun G hG => EvA.st (cs:=[I (((v.p.getD t.toNat default).getD (Z3b.get v.pc t).toNat default).Op),I (((v.p.getD t.toNat default).getD (Z3b.get v.pc t).toNat default).Loc),I (((v.p.getD t.toNat default).getD (Z3b.get v.pc t).toNat default).Reg),I (((v.p.getD t.toNat default).getD (Z3b.get v.pc t).toNat default).Val)]) ⟨0,4,56,[[I (((v.p.getD t.toNat default).getD (Z3b.get v.pc t).toNat default).Op),I (((v.p.getD t.toNat default).getD (Z3b.get v.pc t).toNat default).Loc),I (((v.p.getD t.toNat default).getD (Z3b.get v.pc t).toNat default).Reg),I (((v.p.getD t.toNat default).getD (Z3b.get v.pc t).toNat default).Val)]]⟩ ty56 rfl rfl (hG.a0 rfl) rfl rfl rfl rfl rfl rfl) (fN rfl (EvN.asg (Bo true) rfl) (TF.nil (T.ret ?_)))))
  obtain rfl := osi h
  repeat (first|refine retS ?_|refine retB ?_)
  exact Fin.ret (vs:=[.agg [I (((v.p.getD t.toNat default).getD (Z3b.get v.pc t).toNat default).Op),I (((v.p.getD t.toNat default).getD (Z3b.get v.pc t).toNat default).Loc),I (((v.p.getD t.toNat default).getD (Z3b.get v.pc t).toNat default).Reg),I (((v.p.getD t.toNat default).getD (Z3b.get v.pc t).toNat default).Val)],Bo true]) (.cons (.cell (.agg [I (((v.p.getD t.toNat default).getD (Z3b.get v.pc t).toNat default).Op),I (((v.p.getD t.toNat default).getD (Z3b.get v.pc t).toNat default).Loc),I (((v.p.getD t.toNat default).getD (Z3b.get v.pc t).toNat default).Reg),I (((v.p.getD t.toNat default).getD (Z3b.get v.pc t).toNat default).Val)]) ty56 rfl rfl rfl rfl rfl rfl) (.cons (.tmp rfl) .nil)) (.tupL (.cons (.of_isF 9 _ rfl) (.cons (.of_isF 9 _ rfl) .nil)))
theorem F_impl_seq_moves_P (s : ZSq) {q : (List Int)} (h : F_impl_seq_moves s = some q) : PCall Try.prog 214 [.fp (ZSq.c s) 0] (eL cI q) := by
 refine PCall.mkT Try.func214 rfl (by kernel_rfl) rfl (by kernel_rfl) (e0:=envOf [(0,.fp (ZSq.c s) 0)]) (wkC rfl wkN) (T.seq (T.region (oN (EvN.asg (.nil) rfl) (TO.nil (T.seq (T.reserve (T.region ?_)))))))
 refine oN (EvN.asg (hS true 0 0 1 (([] : List Int).length)) rfl) (TO.nil ?_)
 obtain ⟨s1,h,ks1⟩ := bindL h
 refine T.joinF (G:=(Bool × Nat)) (fun gh => (gh.1 = true -> s1 = [])) (fun gh => [(3,hS gh.1 0 gh.2 1 s1.length)]) (fun gh => [bE gh.1 gh.2 1 3 (s1.map cI)]) (fun gh n23 => ?_) ?_
 ·clear h
  have h := ks1
  clear ks1
  obtain ⟨b22,u21⟩ := gh
  refine T.seq (T.region (oN (EvN.mv (hS b22 0 u21 1 s1.length) rfl) (oN (EvN.asg (hS b22 0 u21 1 s1.length) rfl) (TO.nil (T.ret ?_)))))
  obtain rfl := osi h
  repeat (first|refine retS ?_|refine retB ?_)
  exact Fin.ret (vs:=[hS b22 0 u21 1 s1.length]) (.cons (.tmp rfl) .nil) (Fz.own (g:=b22) (ver:=u21) (l:=s1) rfl rfl rfl n23 (fun _ => rfl))
 ·clear ks1
  refine T.seq (T.region (oN (EvN.mv (.fp (ZSq.c s) 0) rfl) (oN (EvN.nilfp rfl) (oN (EvN.fafpS 16 Try.underlying151 rfl (by kernel_rfl) rfl rfl (row2:=ZVa.c s.values)) (oN (EvN.fafp Try.underlying111 rfl (by kernel_rfl) rfl) (oN (EvN.loadfp (eL (cL ZIn.c) s.values.p) ty27 rfl rfl) (oN (EvN.lenL sl27 rfl) ?_)))))))
  refine oN (EvN.mv (I (0 : Int)) rfl) (TO.nil (T.block ?_))
  refine T.loop (S:=(List Int) × Int) (G:=(Bool × Nat)) (F_impl_seq_moves_L8 s) (fun s7 gh => (gh.1 = true -> s7.1 = [])) (fun s7 gh => [(13,I s7.2),(12,I (s.values.p.length : Int)),(3,hS gh.1 0 gh.2 1 s7.1.length),(0,.fp (ZSq.c s) 0)]) (fun s7 gh => [bE gh.1 gh.2 1 3 (s7.1.map cI)]) (s0:=(([] : List Int),(0 : Int))) (true,0) h (fun _ => rfl) (cutW rfl (wkC rfl (wkC rfl (wkC rfl (wkC rfl wkN))))) (fun s7 gh ws7 h n11 => ?_)
  obtain ⟨b10,u9⟩ := gh
  refine T.seq (T.region (oN (EvN.ilt rfl rfl) (TO.nil (T.seq ?_))))
  refine T.cond rfl (fun q12 => ?_) (fun q12 => ?_)
  ·replace h := condT q12 h
   refine T.skip ?_
   obtain ⟨s13,h,ks13⟩ := bindL h
   refine T.joinF (G:=(Bool × Nat)) (fun gh => (gh.1 = true -> s13 = [])) (fun gh => [(3,hS gh.1 0 gh.2 1 s13.length),(13,I s7.2),(12,I (s.values.p.length : Int)),(0,.fp (ZSq.c s) 0)]) (fun gh => [bE gh.1 gh.2 1 3 (s13.map cI)]) (fun gh n19 => ?_) ?_
   ·clear h
    have h := ks13
    clear ks13
    obtain ⟨b18,u17⟩ := gh
    refine T.region ?_
    obtain ⟨g20,h⟩ := gdW h
    refine oN (EvN.add rfl rfl g20) (oN (EvN.mv (I (s7.2 + (1 : Int))) rfl) (TO.nil ?_))
    obtain rfl := osi h
    exact ⟨(s13,(s7.2 + (1 : Int))),(b18,u17),rfl,n19,cutW rfl (wkC rfl (wkC rfl (wkC rfl (wkC rfl wkN))))⟩
   ·clear ks13
    refine T.block (T.seq (T.region (oN (EvN.mv (I s7.2) rfl) (oN (EvN.asg (I s7.2) rfl) (TO.nil (T.seq (T.region ?_)))))))
    refine oN (EvN.mv (.fp (ZSq.c s) 0) rfl) (oN (EvN.nilfp rfl) (oN (EvN.fafpS 16 Try.underlying151 rfl (by kernel_rfl) rfl rfl (row2:=ZVa.c s.values)) (oN (EvN.mv (I s7.2) rfl) ?_)))
    obtain ⟨v14,cv14,h⟩ := bindL h
    refine oN (EvN.call rfl rfl rfl (F_impl_values_next_P s.values s7.2 cv14) rfl) (oN (EvN.mv (.tup [.agg (ZIn.c v14.1),Bo v14.2]) rfl) (oN (EvN.ext (.agg (ZIn.c v14.1)) rfl rfl) (oN (EvN.ext (Bo v14.2) rfl rfl) (oA (EvA.al zs56 rfl rfl) (oV (EvA.st (cs:=[I v14.1.Op,I v14.1.Loc,I v14.1.Reg,I v14.1.Val]) ⟨0,4,56,[[I v14.1.Op,I v14.1.Loc,I v14.1.Reg,I v14.1.Val]]⟩ ty56 rfl rfl rfl rfl rfl rfl rfl rfl rfl) (oN (EvN.asg (Bo v14.2) rfl) (TO.nil ?_)))))))
    refine T.seq (T.clean (H0:=[bE b10 u9 1 3 (s7.1.map cI),some ⟨0,4,56,[[I v14.1.Op,I v14.1.Loc,I v14.1.Reg,I v14.1.Val]]⟩]) (e0:=envOf [(6,Bo v14.2),(4,I s7.2),(13,I s7.2),(12,I (s.values.p.length : Int)),(3,hS b10 0 u9 1 s7.1.length),(0,.fp (ZSq.c s) 0)]) rfl (wkC rfl (wkC rfl (wkC rfl (wkC rfl (wkC rfl (wkC rfl wkN)))))) (T.region (oN (EvN.mv (Bo v14.2) rfl) (TO.nil ?_))))
    refine T.cond rfl (fun q15 => ?_) (fun q15 => ?_)
    ·replace h := condT q15 h
     refine T.region (oN (EvN.mv (hS b10 0 u9 1 s7.1.length) rfl) (oN (EvN.mv (I s7.2) rfl) (oN (EvN.mkF (c:=cI) ([s7.2] : List Int) [[I s7.2]] sl23 rfl rfl rfl (fun _ => rfl) (fun _ => rfl) rfl) ?_)))
     obtain ⟨g16,h⟩ := gdL h
     refine oA (EvA.app1 (g:=b10) (l:=s7.1) s7.2 sl23 (by kernel_rfl) rfl rfl rfl n11 (SrcOk.fz (l:=([s7.2] : List Int)) rfl (fun _ => rfl)) g16) (oN (EvN.asg (hS false 0 (u9 + 1) 1 ((s7.1 ++ [s7.2]).length)) rfl) (TO.nil ?_))
     obtain rfl := osi h
     exact ⟨(false,u9 + 1),nofun,cutS rfl (.cons (.list (g:=false) (ver:=u9 + 1) (l:=(s7.1 ++ [s7.2])) (fun _ => rfl)) .nil) (stl_cons (.hS (g:=false) (b:=0) (ver:=u9 + 1) (s:=1) (n:=(s7.1 ++ [s7.2]).length) rfl) (stl_cons (.fz (.of_isF 9 _ rfl)) (stl_cons (.fz (.of_isF 9 _ rfl)) (stl_cons (.fz (.of_isF 9 _ rfl)) stl_nil))))⟩
    ·replace h := condF q15 h
     refine T.skip ?_
     obtain rfl := osi h
     exact ⟨(b10,u9),n11,cutS rfl (.cons (.list (g:=b10) (ver:=u9) (l:=s7.1) (fun _ => rfl)) .nil) (stl_cons (.hS (g:=b10) (b:=0) (ver:=u9) (s:=1) (n:=s7.1.length) rfl) (stl_cons (.fz (.of_isF 9 _ rfl)) (stl_cons (.fz (.of_isF 9 _ rfl)) (stl_cons (.fz (.of_isF 9 _ rfl)) stl_nil))))⟩
  ·replace h := condF q12 h
   refine T.exit ?_
   refine ⟨_,(osi h).symm,fun h => ?_⟩
   replace h := congrArg some h
   obtain rfl := osi h
   exact ⟨(b10,u9),n11,cutW rfl (wkC rfl wkN)⟩
theorem F_slices_Index_int_int_P (s : List Int) (v : Int) {q : Int} (h : F_slices_Index_int_int s v = some q) : PCall Try.prog 148 [eL cI s,I v] (I q) := by
 refine PCall.mkT Try.func148 rfl (by kernel_rfl) rfl (by kernel_rfl) (e0:=envOf [(0,eL cI s),(1,I v)]) (wkC rfl (wkC rfl wkN)) (T.seq (T.region (oN (EvN.asg (I (0 : Int)) rfl) (TO.nil ?_))))
 obtain ⟨Ks1,es1,ws1,h,ks1⟩ := sumL h
 refine T.join (S:=Unit) (G:=Unit) (fun s1 => Ks1 s1 = some q) (fun s1 gh => True) (fun s1 gh => []) (fun s1 gh => []) (fun s1 gh h hg => ?_) ?_
 ·clear ks1
  subst es1
  refine T.seq (T.region (oN (EvN.asg (I (-1 : Int)) rfl) (TO.nil (T.ret ?_))))
  obtain rfl := osi h
  repeat (first|refine retS ?_|refine retB ?_)
  exact Fin.ret (vs:=[I (-1 : Int)]) (.cons (.tmp rfl) .nil) (.of_isF 9 _ rfl)
 ·refine T.seq (T.region (oN (EvN.mv (eL cI s) rfl) (oN (EvN.lenL sl23 rfl) (oN (EvN.mv (I (0 : Int)) rfl) (TO.nil (T.block ?_))))))
  refine T.loop (S:=Int) (G:=Unit) (F_slices_Index_int_int_L5 s v) (fun s4 gh => True) (fun s4 gh => [(8,I s4),(7,I (s.length : Int)),(0,eL cI s),(1,I v)]) (fun s4 gh => []) (s0:=(0 : Int)) () h trivial (cutW rfl (wkC rfl (wkC rfl (wkC rfl (wkC rfl wkN))))) (fun s4 gh ws4 h hg => ?_)
  refine T.seq (T.region (oN (EvN.ilt rfl rfl) (TO.nil (T.seq ?_))))
  refine T.cond rfl (fun q6 => ?_) (fun q6 => ?_)
  ·replace h := condT q6 h
   refine T.skip (T.seq (T.block (T.seq (T.region (oN (EvN.mv (I s4) rfl) (oN (EvN.asg (I s4) rfl) (TO.nil ?_)))))))
   refine T.seq (T.region (oN (EvN.mv (I v) rfl) (oN (EvN.mv (eL cI s) rfl) (oN (EvN.mv (I s4) rfl) ?_))))
   obtain ⟨g7,h⟩ := gdD h
   refine oN (EvN.ixL sl23 rfl rfl g7 (fun _ => rfl)) (oN (EvN.loadfp (I (s.getD s4.toNat default)) ty3 rfl rfl) (oN (EvN.ieq rfl rfl) (TO.nil ?_)))
   refine T.cond rfl (fun q8 => ?_) (fun q8 => ?_)
   ·replace h := condT q8 h
    refine T.seq (T.clean (H0:=[]) (e0:=envOf [(5,I s4)]) rfl (wkC rfl wkN) (T.region (oN (EvN.mv (I s4) rfl) (oN (EvN.asg (I s4) rfl) (TO.nil (T.ret ?_))))))
    refine ⟨_,(osi h).symm,fun h => ?_⟩
    replace h := congrArg some h
    obtain rfl := osi h
    replace h := congrArg some (show _ = _ from ks1)
    obtain rfl := osi h
    repeat (first|refine retS ?_|refine retB ?_)
    exact Fin.ret (vs:=[I s4]) (.cons (.tmp rfl) .nil) (.of_isF 9 _ rfl)
   ·replace h := condF q8 h
    refine T.skip (T.clean (H0:=[]) (e0:=envOf [(8,I s4),(7,I (s.length : Int)),(0,eL cI s),(1,I v)]) rfl (wkC rfl (wkC rfl (wkC rfl (wkC rfl wkN)))) (T.region ?_))
    obtain ⟨g9,h⟩ := gdW h
    refine oN (EvN.add rfl rfl g9) (oN (EvN.mv (I (s4 + (1 : Int))) rfl) (TO.nil ?_))
    obtain rfl := osi h
    exact ⟨(s4 + (1 : Int)),(),rfl,trivial,cutW rfl (wkC rfl (wkC rfl (wkC rfl (wkC rfl wkN))))⟩
  ·replace h := condF q6 h
   refine T.exit ?_
   refine ⟨_,(osi h).symm,fun h => ?_⟩
   replace h := congrArg some h
   obtain rfl := osi h
   exact ⟨(),(),ks1,trivial,cutW rfl wkN⟩
theorem F_slices_Contains_int_int_P (s : List Int) (v : Int) {q : Bool} (h : F_slices_Contains_int_int s v = some q) : PCall Try.prog 111 [eL cI s,I v] (Bo q) := by
 refine PCall.mkT Try.func111 rfl (by kernel_rfl) rfl (by kernel_rfl) (e0:=envOf [(0,eL cI s),(1,I v)]) (wkC rfl (wkC rfl wkN)) (T.seq (T.region (oN (EvN.asg (Bo false) rfl) (TO.nil (T.seq (T.region (oN (EvN.mv (eL cI s) rfl) ?_)))))))
 refine oN (EvN.mv (I v) rfl) ?_
 obtain ⟨v1,cv1,h⟩ := bindL h
 refine oN (EvN.call rfl rfl rfl (F_slices_Index_int_int_P s v cv1) rfl) (oN (EvN.ige rfl rfl) (oN (EvN.asg (Bo (decide ((0 : Int) <= v1))) rfl) (TO.nil (T.ret ?_))))
 obtain rfl := osi h
 repeat (first|refine retS ?_|refine retB ?_)
 exact Fin.ret (vs:=[Bo (decide ((0 : Int) <= v1))]) (.cons (.tmp rfl) .nil) (.of_isF 9 _ rfl)
theorem F_impl_values_stored_P (v : ZVa) (t : Int) (x : ZIn) {q : Int} (h : F_impl_values_stored v t x = some q) : PCall Try.prog 216 [.fp (ZVa.c v) 0,I t,.agg (ZIn.c x)] (Y q) := by
 refine PCall.mkT Try.func216 rfl (by kernel_rfl) rfl (by kernel_rfl) (e0:=envOf [(0,.fp (ZVa.c v) 0),(1,I t),(2,.agg (ZIn.c x))]) (wkC rfl (wkC rfl (wkC rfl wkN))) (T.seq (T.region (oN (EvN.bxF [I x.Op,I x.Loc,I x.Reg,I x.Val] rfl rfl rfl) (oN (EvN.asg (Y (0 : Int)) rfl) (TO.nil (T.seq (T.seq ?_)))))))
 refine T.region (oN (EvN.fafp Try.underlying56 rfl (by kernel_rfl) rfl) (oN (EvN.loadfp (I x.Op) ty3 rfl rfl) (oN (EvN.ieq rfl rfl) (TO.nil ?_))))
 refine T.cond rfl (fun q1 => ?_) (fun q1 => ?_)
 ·replace h := condT q1 h
  refine T.seq (T.drawF (fun _ => ([],false)) (by kernel_rfl) (by kernel_rfl) (fN rfl (EvN.mv (.fp (ZVa.c v) 0) rfl) (fN rfl (EvN.mv (I t) rfl) (fN rfl (EvN.fafp Try.underlying56 rfl (by kernel_rfl) rfl) (fN rfl (EvN.loadfp (I x.Reg) ty3 rfl rfl) (fN rfl (EvN.nilfp rfl) (fN rfl (EvN.fafpS 9 Try.underlying111 rfl (by kernel_rfl) rfl rfl (row2:=Z33.c v.reg)) ?_)))))))
  obtain ⟨g2,h⟩ := gdD h
  refine fN rfl (EvN.ixafp Try.underlying109 ty108 rfl rfl g2) ?_
  obtain ⟨g3,h⟩ := gdD h
  refine fN rfl (EvN.ixafp Try.underlying108 ty5 rfl rfl g3) (fN rfl (EvN.loadfp (Y (Z3b.get (Z33.get v.reg t) x.Reg)) ty5 rfl (sel3 (P:=fun (z0 : Int) => partV false 1 (Z33.c v.reg) ((0 + z0.toNat * 3) + x.Reg.toNat * 1) = some (Y (Z3b.get (Z33.get v.reg z0) x.Reg))) g2 (sel3 (P:=fun (z1 : Int) => partV false 1 (Z33.c v.reg) ((0 + ((0 : Int)).toNat * 3) + z1.toNat * 1) = some (Y (Z3b.get (Z33.get v.reg ((0 : Int))) z1))) g3 rfl rfl rfl) (sel3 (P:=fun (z1 : Int) => partV false 1 (Z33.c v.reg) ((0 + ((1 : Int)).toNat * 3) + z1.toNat * 1) = some (Y (Z3b.get (Z33.get v.reg ((1 : Int))) z1))) g3 rfl rfl rfl) (sel3 (P:=fun (z1 : Int) => partV false 1 (Z33.c v.reg) ((0 + ((2 : Int)).toNat * 3) + z1.toNat * 1) = some (Y (Z3b.get (Z33.get v.reg ((2 : Int))) z1))) g3 rfl rfl rfl))) (fN rfl (EvN.asg (Y (Z3b.get (Z33.get v.reg t) x.Reg)) rfl) (TF.nil (T.ret ?_))))
  obtain rfl := osi h
  repeat (first|refine retS ?_|refine retB ?_)
  exact Fin.ret (vs:=[Y (Z3b.get (Z33.get v.reg t) x.Reg)]) (.cons (.tmp rfl) .nil) (.of_isF 9 _ rfl)
 ·replace h := condF q1 h
  refine T.skip (T.seq (T.clean (H0:=[]) (e0:=envOf [(5,.fp (ZIn.c x) 0)]) rfl (wkC rfl wkN) (T.region (oN (EvN.fafp Try.underlying56 rfl (by kernel_rfl) rfl) (oN (EvN.loadfp (I x.Val) ty3 rfl rfl) ?_)))))
  obtain ⟨g4,h⟩ := gdW h
  refine oN (EvN.iconv ty3.und Try.underlying5 rfl g4) (oN (EvN.asg (Y x.Val) rfl) (TO.nil (T.ret ?_)))
  obtain rfl := osi h
  repeat (first|refine retS ?_|refine retB ?_)
  exact Fin.ret (vs:=[Y x.Val]) (.cons (.tmp rfl) .nil) (.of_isF 9 _ rfl)
theorem F_impl_Instr_reads_P (x : ZIn) {q : Bool} (h : F_impl_Instr_reads x = some q) : PCall Try.prog 122 [.agg (ZIn.c x)] (Bo q) := by
 refine PCall.mkT Try.func122 rfl (by kernel_rfl) rfl (by kernel_rfl) (e0:=envOf [(0,.agg (ZIn.c x))]) (wkC rfl wkN) (T.seq (T.region (oN (EvN.bxF [I x.Op,I x.Loc,I x.Reg,I x.Val] rfl rfl rfl) (oN (EvN.asg (Bo false) rfl) (TO.nil (T.seq (T.region ?_)))))))
 refine oN (EvN.fafp Try.underlying56 rfl (by kernel_rfl) rfl) (oN (EvN.loadfp (I x.Op) ty3 rfl rfl) (oN (EvN.ieq rfl rfl) (oN (EvN.mv (Bo (x.Op == (1 : Int))) rfl) ?_)))
 obtain ⟨s1,h,ks1⟩ := bindL h
 refine TO.joinF (G:=Unit) 4 (fun _ => True) (fun _ => [(10,Bo s1)]) (fun _ => []) ?_ (fun js1 => ?_)
 rotate_left
 ·clear ks1
  rcases bifL h with ⟨q2,h⟩ | ⟨q2,h⟩
  ·refine gS rfl q2 (gS rfl q2 (gS rfl q2 (oN (EvN.pickT rfl q2 (Bo true) rfl) ?_)))
   obtain rfl := osi h
   exact js1 _ _ ⟨(),trivial,cutW rfl (wkC rfl wkN)⟩
  ·refine gN rfl q2 (EvN.fafp Try.underlying56 rfl (by kernel_rfl) rfl) (gN rfl q2 (EvN.loadfp (I x.Op) ty3 rfl rfl) (gN rfl q2 (EvN.ieq rfl rfl) (oN (EvN.pickF rfl q2 (Bo (x.Op == (5 : Int))) rfl) ?_)))
   obtain rfl := osi h
   exact js1 _ _ ⟨(),trivial,cutW rfl (wkC rfl wkN)⟩
 ·intro _ _
  replace h := ks1
  clear ks1
  refine oN (EvN.asg (Bo s1) rfl) (TO.nil (T.ret ?_))
  obtain rfl := osi h
  repeat (first|refine retS ?_|refine retB ?_)
  exact Fin.ret (vs:=[Bo s1]) (.cons (.tmp rfl) .nil) (.of_isF 9 _ rfl)
theorem F_impl_Instr_writes_P (x : ZIn) {q : Bool} (h : F_impl_Instr_writes x = some q) : PCall Try.prog 123 [.agg (ZIn.c x)] (Bo q) := by
 refine PCall.mkT Try.func123 rfl (by kernel_rfl) rfl (by kernel_rfl) (e0:=envOf [(0,.agg (ZIn.c x))]) (wkC rfl wkN) (T.seq (T.region (oN (EvN.bxF [I x.Op,I x.Loc,I x.Reg,I x.Val] rfl rfl rfl) (oN (EvN.asg (Bo false) rfl) (TO.nil (T.seq (T.region ?_)))))))
 refine oN (EvN.fafp Try.underlying56 rfl (by kernel_rfl) rfl) (oN (EvN.loadfp (I x.Op) ty3 rfl rfl) (oN (EvN.ieq rfl rfl) (oN (EvN.mv (Bo (x.Op == (2 : Int))) rfl) ?_)))
 obtain ⟨s1,h,ks1⟩ := bindL h
 refine TO.joinF (G:=Unit) 4 (fun _ => True) (fun _ => [(10,Bo s1),(1,.fp (ZIn.c x) 0)]) (fun _ => []) ?_ (fun js1 => ?_)
 rotate_left
 ·clear ks1
  rcases bifL h with ⟨q2,h⟩ | ⟨q2,h⟩
  ·refine gS rfl q2 (gS rfl q2 (gS rfl q2 (oN (EvN.pickT rfl q2 (Bo true) rfl) ?_)))
   obtain rfl := osi h
   exact js1 _ _ ⟨(),trivial,cutW rfl (wkC rfl (wkC rfl wkN))⟩
  ·refine gN rfl q2 (EvN.fafp Try.underlying56 rfl (by kernel_rfl) rfl) (gN rfl q2 (EvN.loadfp (I x.Op) ty3 rfl rfl) (gN rfl q2 (EvN.ieq rfl rfl) (oN (EvN.pickF rfl q2 (Bo (x.Op == (3 : Int))) rfl) ?_)))
   obtain rfl := osi h
   exact js1 _ _ ⟨(),trivial,cutW rfl (wkC rfl (wkC rfl wkN))⟩
 ·intro _ _
  replace h := ks1
  clear ks1
  refine oN (EvN.mv (Bo s1) rfl) ?_
  obtain ⟨s3,h,ks3⟩ := bindL h
  refine TO.joinF (G:=Unit) 4 (fun _ => True) (fun _ => [(15,Bo s3)]) (fun _ => []) ?_ (fun js3 => ?_)
  rotate_left
  ·clear ks3
   rcases bifL h with ⟨q4,h⟩ | ⟨q4,h⟩
   ·refine gS rfl q4 (gS rfl q4 (gS rfl q4 (oN (EvN.pickT rfl q4 (Bo true) rfl) ?_)))
    obtain rfl := osi h
    exact js3 _ _ ⟨(),trivial,cutW rfl (wkC rfl wkN)⟩
   ·refine gN rfl q4 (EvN.fafp Try.underlying56 rfl (by kernel_rfl) rfl) (gN rfl q4 (EvN.loadfp (I x.Op) ty3 rfl rfl) (gN rfl q4 (EvN.ieq rfl rfl) (oN (EvN.pickF rfl q4 (Bo (x.Op == (5 : Int))) rfl) ?_)))
    obtain rfl := osi h
    exact js3 _ _ ⟨(),trivial,cutW rfl (wkC rfl wkN)⟩
  ·intro _ _
   replace h := ks3
   clear ks3
   refine oN (EvN.asg (Bo s3) rfl) (TO.nil (T.ret ?_))
   obtain rfl := osi h
   repeat (first|refine retS ?_|refine retB ?_)
   exact Fin.ret (vs:=[Bo s3]) (.cons (.tmp rfl) .nil) (.of_isF 9 _ rfl)
theorem F_impl_seq_after_P (s : ZSq) (t : Int) {q : ZSq} (h : F_impl_seq_after s t = some q) : PCall Try.prog 210 [.fp (ZSq.c s) 0,I t] (.ifc 149 (.fp (ZSq.c q) 0)) := by
 refine PCall.mkT Try.func210 rfl (by kernel_rfl) rfl (by kernel_rfl) (e0:=envOf [(0,.fp (ZSq.c s) 0),(1,I t)]) (wkC rfl (wkC rfl wkN)) ?_
 let d5 := ((Z3b.get s.values.pc t) + (1 : Int))
 let d4 := (Z33.get s.values.reg ((2 : Int)))
 let d3 := (Z33.get s.values.reg ((1 : Int)))
 let d2 := (Z33.get s.values.reg ((0 : Int)))
 let d0 := (Z3b.set s.values.pc t d5)
 refine T.seq (T.region (oN (EvN.asg (.v .nilIface) rfl) (TO.nil (T.seq (T.region (oN (EvN.mv (.fp (ZSq.c s) 0) rfl) (oN (EvN.nilfp rfl) ?_)))))))
 refine oN (EvN.loadfp (.agg (ZSq.c s)) ty151 rfl rfl) (oA (EvA.al zs151 rfl rfl) (oV (EvA.st (cs:=[eL (cL ZIn.c) s.values.p,Y s.values.pc.x0,Y s.values.pc.x1,Y s.values.pc.x2,Y s.values.reg.x0.x0,Y s.values.reg.x0.x1,Y s.values.reg.x0.x2,Y s.values.reg.x1.x0,Y s.values.reg.x1.x1,Y s.values.reg.x1.x2,Y s.values.reg.x2.x0,Y s.values.reg.x2.x1,Y s.values.reg.x2.x2,Y s.values.mem.x0,Y s.values.mem.x1,Y s.values.mem.x2]) ⟨0,16,151,[[eL (cL ZIn.c) s.values.p,Y s.values.pc.x0,Y s.values.pc.x1,Y s.values.pc.x2,Y s.values.reg.x0.x0,Y s.values.reg.x0.x1,Y s.values.reg.x0.x2,Y s.values.reg.x1.x0,Y s.values.reg.x1.x1,Y s.values.reg.x1.x2,Y s.values.reg.x2.x0,Y s.values.reg.x2.x1,Y s.values.reg.x2.x2,Y s.values.mem.x0,Y s.values.mem.x1,Y s.values.mem.x2]]⟩ ty151 rfl rfl rfl rfl rfl rfl rfl rfl rfl) (TO.nil (T.seq (T.region (oN (EvN.mv (.fp (ZSq.c s) 0) rfl) (oN (EvN.nilfp rfl) ?_)))))))
 refine oN (EvN.fafpS 16 Try.underlying151 rfl (by kernel_rfl) rfl rfl (row2:=ZVa.c s.values)) (oN (EvN.mv (I t) rfl) ?_)
 obtain ⟨v1,cv1,h⟩ := bindL h
 let d1 := Z3b.get s.values.mem v1.1.Loc
 refine oN (EvN.call rfl rfl rfl (F_impl_values_next_P s.values t cv1) rfl) (oN (EvN.mv (.tup [.agg (ZIn.c v1.1),Bo v1.2]) rfl) (oN (EvN.ext (.agg (ZIn.c v1.1)) rfl rfl) (oN (EvN.ext (Bo v1.2) rfl rfl) (oA (EvA.al zs56 rfl rfl) (oV (EvA.st (cs:=[I v1.1.Op,I v1.1.Loc,I v1.1.Reg,I v1.1.Val]) ⟨0,4,56,[[I v1.1.Op,I v1.1.Loc,I v1.1.Reg,I v1.1.Val]]⟩ ty56 rfl rfl rfl rfl rfl rfl rfl rfl rfl) (oN (EvN.asg (Bo v1.2) rfl) (TO.nil ?_)))))))
 refine T.seq (T.clean (H0:=[some ⟨0,16,151,[[eL (cL ZIn.c) s.values.p,Y s.values.pc.x0,Y s.values.pc.x1,Y s.values.pc.x2,Y s.values.reg.x0.x0,Y s.values.reg.x0.x1,Y s.values.reg.x0.x2,Y s.values.reg.x1.x0,Y s.values.reg.x1.x1,Y s.values.reg.x1.x2,Y s.values.reg.x2.x0,Y s.values.reg.x2.x1,Y s.values.reg.x2.x2,Y s.values.mem.x0,Y s.values.mem.x1,Y s.values.mem.x2]]⟩,some ⟨0,4,56,[[I v1.1.Op,I v1.1.Loc,I v1.1.Reg,I v1.1.Val]]⟩]) (e0:=envOf [(6,.hp 1 0 4 0 0),(5,.hp 0 0 16 0 0),(0,.fp (ZSq.c s) 0),(1,I t)]) rfl (wkC rfl (wkC rfl (wkC rfl (wkC rfl wkN)))) (T.region (oN (EvN.mv (I t) rfl) (oN (EvN.fahp Try.underlying151 rfl (by kernel_rfl) rfl) (oN (EvN.fahp Try.underlying111 rfl (by kernel_rfl) rfl) ?_)))))
 obtain ⟨g2,h⟩ := gdD h
 refine oN (EvN.ixahp Try.underlying108 ty5 rfl rfl g2) (oA (EvA.loadhp (Y (Z3b.get s.values.pc t)) ty5 rfl rfl rfl rfl rfl (sel3 (P:=fun (z0 : Int) => partV false 1 [eL (cL ZIn.c) s.values.p,Y s.values.pc.x0,Y s.values.pc.x1,Y s.values.pc.x2,Y s.values.reg.x0.x0,Y s.values.reg.x0.x1,Y s.values.reg.x0.x2,Y s.values.reg.x1.x0,Y s.values.reg.x1.x1,Y s.values.reg.x1.x2,Y s.values.reg.x2.x0,Y s.values.reg.x2.x1,Y s.values.reg.x2.x2,Y s.values.mem.x0,Y s.values.mem.x1,Y s.values.mem.x2] (1 + z0.toNat * 1) = some (Y (Z3b.get s.values.pc z0))) g2 rfl rfl rfl)) ?_)
 obtain ⟨g3,h⟩ := gdW h
 refine oN (EvN.add rfl rfl g3) (oN (EvN.fahp Try.underlying151 rfl (by kernel_rfl) rfl) (oN (EvN.fahp Try.underlying111 rfl (by kernel_rfl) rfl) (oN (EvN.ixahp Try.underlying108 ty5 rfl rfl g2) (oV (EvA.st (cs:=[Y d5]) ⟨0,16,151,[[eL (cL ZIn.c) s.values.p,Y (d0.x0),Y (d0.x1),Y (d0.x2),Y s.values.reg.x0.x0,Y s.values.reg.x0.x1,Y s.values.reg.x0.x2,Y s.values.reg.x1.x0,Y s.values.reg.x1.x1,Y s.values.reg.x1.x2,Y s.values.reg.x2.x0,Y s.values.reg.x2.x1,Y s.values.reg.x2.x2,Y s.values.mem.x0,Y s.values.mem.x1,Y s.values.mem.x2]]⟩ ty5 rfl rfl rfl rfl rfl rfl rfl (sel3 (P:=fun (z0 : Int) => Nat.ble ((1 + z0.toNat * 1) + 1) 16 = true) g2 rfl rfl rfl) (sel3 (P:=fun (z0 : Int) => (ABlk.mk 0 16 151 [splice [eL (cL ZIn.c) s.values.p,Y s.values.pc.x0,Y s.values.pc.x1,Y s.values.pc.x2,Y s.values.reg.x0.x0,Y s.values.reg.x0.x1,Y s.values.reg.x0.x2,Y s.values.reg.x1.x0,Y s.values.reg.x1.x1,Y s.values.reg.x1.x2,Y s.values.reg.x2.x0,Y s.values.reg.x2.x1,Y s.values.reg.x2.x2,Y s.values.mem.x0,Y s.values.mem.x1,Y s.values.mem.x2] (1 + z0.toNat * 1) [Y d5]]) = ABlk.mk 0 16 151 [[eL (cL ZIn.c) s.values.p,Y ((Z3b.set s.values.pc z0 d5).x0),Y ((Z3b.set s.values.pc z0 d5).x1),Y ((Z3b.set s.values.pc z0 d5).x2),Y s.values.reg.x0.x0,Y s.values.reg.x0.x1,Y s.values.reg.x0.x2,Y s.values.reg.x1.x0,Y s.values.reg.x1.x1,Y s.values.reg.x1.x2,Y s.values.reg.x2.x0,Y s.values.reg.x2.x1,Y s.values.reg.x2.x2,Y s.values.mem.x0,Y s.values.mem.x1,Y s.values.mem.x2]]) g2 rfl rfl rfl)) (TO.nil (T.seq (T.clean (H0:=[some ⟨0,16,151,[[eL (cL ZIn.c) s.values.p,Y (d0.x0),Y (d0.x1),Y (d0.x2),Y s.values.reg.x0.x0,Y s.values.reg.x0.x1,Y s.values.reg.x0.x2,Y s.values.reg.x1.x0,Y s.values.reg.x1.x1,Y s.values.reg.x1.x2,Y s.values.reg.x2.x0,Y s.values.reg.x2.x1,Y s.values.reg.x2.x2,Y s.values.mem.x0,Y s.values.mem.x1,Y s.values.mem.x2]]⟩,some ⟨0,4,56,[[I v1.1.Op,I v1.1.Loc,I v1.1.Reg,I v1.1.Val]]⟩]) (e0:=envOf [(6,.hp 1 0 4 0 0),(5,.hp 0 0 16 0 0),(0,.fp (ZSq.c s) 0),(1,I t)]) rfl (wkC rfl (wkC rfl (wkC rfl (wkC rfl wkN)))) ?_)))))))
 refine T.drawF (fun i => [([],false),([],false),([],false),([],false),([1],false),([],false),([],false)].getD i ([],false)) (by kernel_rfl) (by kernel_rfl) (fN rfl (EvN.mv (.fp (ZSq.c s) 0) rfl) (fN rfl (EvN.nilfp rfl) (fN rfl (EvN.fafpS 16 Try.underlying151 rfl (by kernel_rfl) rfl rfl (row2:=ZVa.c s.values)) (fN rfl (EvN.mv (I t) rfl) (fR [1] rfl (fun G hG => EvA.loadhp (.agg [I v1.1.Op,I v1.1.Loc,I v1.1.Reg,I v1.1.Val]) ty56 rfl (hG.a0 rfl) rfl rfl rfl rfl) ?_)))))
 obtain ⟨v4,cv4,h⟩ := bindL h
 refine fN rfl (EvN.call rfl rfl rfl (F_impl_values_stored_P s.values t (⟨v1.1.Op,v1.1.Loc,v1.1.Reg,v1.1.Val⟩ : ZIn) cv4) rfl) (fN rfl (EvN.asg (Y v4) rfl) (TF.nil ?_))
 obtain ⟨s5,h,ks5⟩ := bindL h
 refine T.joinF (G:=Unit) (fun gh => True) (fun gh => [(8,Y v4),(6,.hp 1 0 4 0 0),(5,.hp 0 0 16 0 0)]) (fun gh => [some ⟨0,16,151,[[eL (cL ZIn.c) s.values.p,Y (d0.x0),Y (d0.x1),Y (d0.x2),Y s5.1,Y s5.2.1,Y s5.2.2.1,Y s5.2.2.2.1,Y s5.2.2.2.2.1,Y s5.2.2.2.2.2.1,Y s5.2.2.2.2.2.2.1,Y s5.2.2.2.2.2.2.2.1,Y s5.2.2.2.2.2.2.2.2,Y s.values.mem.x0,Y s.values.mem.x1,Y s.values.mem.x2]]⟩,some ⟨0,4,56,[[I v1.1.Op,I v1.1.Loc,I v1.1.Reg,I v1.1.Val]]⟩]) (fun gh hg => ?_) ?_
 ·clear h
  have h := ks5
  clear ks5
  obtain ⟨s10,h,ks10⟩ := bindL h
  refine T.joinF (G:=Unit) (fun gh => True) (fun gh => [(5,.hp 0 0 16 0 0)]) (fun gh => [some ⟨0,16,151,[[eL (cL ZIn.c) s.values.p,Y (d0.x0),Y (d0.x1),Y (d0.x2),Y s5.1,Y s5.2.1,Y s5.2.2.1,Y s5.2.2.2.1,Y s5.2.2.2.2.1,Y s5.2.2.2.2.2.1,Y s5.2.2.2.2.2.2.1,Y s5.2.2.2.2.2.2.2.1,Y s5.2.2.2.2.2.2.2.2,Y s10.1,Y s10.2.1,Y s10.2.2]]⟩,some ⟨0,4,56,[[I v1.1.Op,I v1.1.Loc,I v1.1.Reg,I v1.1.Val]]⟩]) (fun gh hg => ?_) ?_
  ·clear h
   have h := ks10
   clear ks10
   refine T.seq (T.region (oN (EvN.mkifc (.hp 0 0 16 0 0) Try.underlying149 (fun _ h => nomatch h) rfl) (oN (EvN.asg (.ifc 149 (.hp 0 0 16 0 0)) rfl) (TO.nil (T.ret ?_)))))
   obtain rfl := osi h
   repeat (first|refine retS ?_|refine retB ?_)
   exact Fin.ret (vs:=[.ifc 149 (.hp 0 0 16 0 0)]) (.cons (.tmp rfl) .nil) (.ifc (Fz.fpL (ver:=0) (s:=16) (ty:=151) (rows:=[[eL (cL ZIn.c) s.values.p,Y (d0.x0),Y (d0.x1),Y (d0.x2),Y s5.1,Y s5.2.1,Y s5.2.2.1,Y s5.2.2.2.1,Y s5.2.2.2.2.1,Y s5.2.2.2.2.2.1,Y s5.2.2.2.2.2.2.1,Y s5.2.2.2.2.2.2.2.1,Y s5.2.2.2.2.2.2.2.2,Y s10.1,Y s10.2.1,Y s10.2.2]]) rfl rfl rfl (.cons (.of_isF 9 _ rfl) (.cons (.of_isF 9 _ rfl) (.cons (.of_isF 9 _ rfl) (.cons (.of_isF 9 _ rfl) (.cons (.of_isF 9 _ rfl) (.cons (.of_isF 9 _ rfl) (.cons (.of_isF 9 _ rfl) (.cons (.of_isF 9 _ rfl) (.cons (.of_isF 9 _ rfl) (.cons (.of_isF 9 _ rfl) (.cons (.of_isF 9 _ rfl) (.cons (.of_isF 9 _ rfl) (.cons (.of_isF 9 _ rfl) (.cons (.of_isF 9 _ rfl) (.cons (.of_isF 9 _ rfl) (.cons (.of_isF 9 _ rfl) .nil))))))))))))))))))
  ·clear ks10
   refine T.seq (T.region (oA (EvA.loadhp (.agg [I v1.1.Op,I v1.1.Loc,I v1.1.Reg,I v1.1.Val]) ty56 rfl rfl rfl rfl rfl rfl) ?_))
   obtain ⟨v11,cv11,h⟩ := bindL h
   refine oN (EvN.call rfl rfl rfl (F_impl_Instr_writes_P (⟨v1.1.Op,v1.1.Loc,v1.1.Reg,v1.1.Val⟩ : ZIn) cv11) rfl) (TO.nil ?_)
   refine T.cond rfl (fun q12 => ?_) (fun q12 => ?_)
   ·replace h := condT q12 h
    refine T.region (oN (EvN.fahp Try.underlying56 rfl (by kernel_rfl) rfl) (oA (EvA.loadhp (I v1.1.Loc) ty3 rfl rfl rfl rfl rfl rfl) (oN (EvN.mv (Y v4) rfl) (oN (EvN.fahp Try.underlying151 rfl (by kernel_rfl) rfl) (oN (EvN.fahp Try.underlying111 rfl (by kernel_rfl) rfl) ?_)))))
    obtain ⟨g13,h⟩ := gdD h
    refine oN (EvN.ixahp Try.underlying108 ty5 rfl rfl g13) (oV (EvA.st (cs:=[Y v4]) ⟨0,16,151,[[eL (cL ZIn.c) s.values.p,Y (d0.x0),Y (d0.x1),Y (d0.x2),Y s5.1,Y s5.2.1,Y s5.2.2.1,Y s5.2.2.2.1,Y s5.2.2.2.2.1,Y s5.2.2.2.2.2.1,Y s5.2.2.2.2.2.2.1,Y s5.2.2.2.2.2.2.2.1,Y s5.2.2.2.2.2.2.2.2,Y ((Z3b.set s.values.mem v1.1.Loc v4).x0),Y ((Z3b.set s.values.mem v1.1.Loc v4).x1),Y ((Z3b.set s.values.mem v1.1.Loc v4).x2)]]⟩ ty5 rfl rfl rfl rfl rfl rfl rfl (sel3 (P:=fun (z0 : Int) => Nat.ble ((13 + z0.toNat * 1) + 1) 16 = true) g13 rfl rfl rfl) (sel3 (P:=fun (z0 : Int) => (ABlk.mk 0 16 151 [splice [eL (cL ZIn.c) s.values.p,Y (d0.x0),Y (d0.x1),Y (d0.x2),Y s5.1,Y s5.2.1,Y s5.2.2.1,Y s5.2.2.2.1,Y s5.2.2.2.2.1,Y s5.2.2.2.2.2.1,Y s5.2.2.2.2.2.2.1,Y s5.2.2.2.2.2.2.2.1,Y s5.2.2.2.2.2.2.2.2,Y s.values.mem.x0,Y s.values.mem.x1,Y s.values.mem.x2] (13 + z0.toNat * 1) [Y v4]]) = ABlk.mk 0 16 151 [[eL (cL ZIn.c) s.values.p,Y (d0.x0),Y (d0.x1),Y (d0.x2),Y s5.1,Y s5.2.1,Y s5.2.2.1,Y s5.2.2.2.1,Y s5.2.2.2.2.1,Y s5.2.2.2.2.2.1,Y s5.2.2.2.2.2.2.1,Y s5.2.2.2.2.2.2.2.1,Y s5.2.2.2.2.2.2.2.2,Y ((Z3b.set s.values.mem z0 v4).x0),Y ((Z3b.set s.values.mem z0 v4).x1),Y ((Z3b.set s.values.mem z0 v4).x2)]]) g13 rfl rfl rfl)) (TO.nil ?_))
    obtain rfl := osi h
    exact ⟨(),trivial,cutW rfl (wkC rfl wkN)⟩
   ·replace h := condF q12 h
    refine T.skip ?_
    obtain rfl := osi h
    exact ⟨(),trivial,cutW rfl (wkC rfl wkN)⟩
 ·clear ks5
  refine T.seq (T.clean (H0:=[some ⟨0,16,151,[[eL (cL ZIn.c) s.values.p,Y (d0.x0),Y (d0.x1),Y (d0.x2),Y s.values.reg.x0.x0,Y s.values.reg.x0.x1,Y s.values.reg.x0.x2,Y s.values.reg.x1.x0,Y s.values.reg.x1.x1,Y s.values.reg.x1.x2,Y s.values.reg.x2.x0,Y s.values.reg.x2.x1,Y s.values.reg.x2.x2,Y s.values.mem.x0,Y s.values.mem.x1,Y s.values.mem.x2]]⟩,some ⟨0,4,56,[[I v1.1.Op,I v1.1.Loc,I v1.1.Reg,I v1.1.Val]]⟩]) (e0:=envOf [(8,Y v4),(6,.hp 1 0 4 0 0),(5,.hp 0 0 16 0 0),(0,.fp (ZSq.c s) 0),(1,I t)]) rfl (wkC rfl (wkC rfl (wkC rfl (wkC rfl (wkC rfl wkN))))) (T.region (oA (EvA.loadhp (.agg [I v1.1.Op,I v1.1.Loc,I v1.1.Reg,I v1.1.Val]) ty56 rfl rfl rfl rfl rfl rfl) ?_)))
  obtain ⟨v6,cv6,h⟩ := bindL h
  refine oN (EvN.call rfl rfl rfl (F_impl_Instr_reads_P (⟨v1.1.Op,v1.1.Loc,v1.1.Reg,v1.1.Val⟩ : ZIn) cv6) rfl) (TO.nil ?_)
  refine T.cond rfl (fun q7 => ?_) (fun q7 => ?_)
  ·replace h := condT q7 h
   refine T.drawF (fun i => [([],false),([],false),([1],false),([],false),([],false),([1],false),([],false),([],false),([],false),([],false),([],false),([],false),([],false),([],false),([],false),([0],true)].getD i ([],false)) (by kernel_rfl) (by kernel_rfl) (fN rfl (EvN.mv (I t) rfl) (fN rfl (EvN.fahp Try.underlying56 rfl (by kernel_rfl) rfl) (fR [1] rfl (fun G hG => EvA.loadhp (I v1.1.Reg) ty3 rfl (hG.a0 rfl) rfl rfl rfl rfl) (fN rfl (EvN.mv (.fp (ZSq.c s) 0) rfl) (fN rfl (EvN.fahp Try.underlying56 rfl (by kernel_rfl) rfl) (fR [1] rfl (fun G hG => EvA.loadhp (I v1.1.Loc) ty3 rfl (hG.a0 rfl) rfl rfl rfl rfl) (fN rfl (EvN.nilfp rfl) ?_)))))))
   refine fN rfl (EvN.fafpS 16 Try.underlying151 rfl (by kernel_rfl) rfl rfl (row2:=ZVa.c s.values)) (fN rfl (EvN.fafpS 3 Try.underlying111 rfl (by kernel_rfl) rfl rfl (row2:=Z3b.c s.values.mem)) ?_)
   obtain ⟨g8,h⟩ := gdD h
   refine fN rfl (EvN.ixafp Try.underlying108 ty5 rfl rfl g8) (fN rfl (EvN.loadfp (Y d1) ty5 rfl (sel3 (P:=fun (z0 : Int) => partV false 1 (Z3b.c s.values.mem) (0 + z0.toNat * 1) = some (Y (Z3b.get s.values.mem z0))) g8 rfl rfl rfl)) (fN rfl (EvN.fahp Try.underlying151 rfl (by kernel_rfl) rfl) (fN rfl (EvN.fahp Try.underlying111 rfl (by kernel_rfl) rfl) (fN rfl (EvN.ixahp Try.underlying109 ty108 rfl rfl g2) ?_))))
   obtain ⟨g9,h⟩ := gdD h
   refine fN rfl (EvN.ixahp Try.underlying108 ty5 rfl rfl g9) (fV 0 [] rfl rfl (fun G hG => EvA.st (cs:=[Y d1]) ⟨0,16,151,[[eL (cL ZIn.c) s.values.p,Y (d0.x0),Y (d0.x1),Y (d0.x2),Y (((Z33.set s.values.reg t (Z3b.set (Z33.get s.values.reg t) v1.1.Reg d1)).x0).x0),Y (((Z33.set s.values.reg t (Z3b.set (Z33.get s.values.reg t) v1.1.Reg d1)).x0).x1),Y (((Z33.set s.values.reg t (Z3b.set (Z33.get s.values.reg t) v1.1.Reg d1)).x0).x2),Y (((Z33.set s.values.reg t (Z3b.set (Z33.get s.values.reg t) v1.1.Reg d1)).x1).x0),Y (((Z33.set s.values.reg t (Z3b.set (Z33.get s.values.reg t) v1.1.Reg d1)).x1).x1),Y (((Z33.set s.values.reg t (Z3b.set (Z33.get s.values.reg t) v1.1.Reg d1)).x1).x2),Y (((Z33.set s.values.reg t (Z3b.set (Z33.get s.values.reg t) v1.1.Reg d1)).x2).x0),Y (((Z33.set s.values.reg t (Z3b.set (Z33.get s.values.reg t) v1.1.Reg d1)).x2).x1),Y (((Z33.set s.values.reg t (Z3b.set (Z33.get s.values.reg t) v1.1.Reg d1)).x2).x2),Y s.values.mem.x0,Y s.values.mem.x1,Y s.values.mem.x2]]⟩ ty5 rfl rfl (hG.a0 rfl) rfl rfl rfl rfl (sel3 (P:=fun (z0 : Int) => Nat.ble (((4 + z0.toNat * 3) + v1.1.Reg.toNat * 1) + 1) 16 = true) g2 (sel3 (P:=fun (z1 : Int) => Nat.ble (((4 + ((0 : Int)).toNat * 3) + z1.toNat * 1) + 1) 16 = true) g9 rfl rfl rfl) (sel3 (P:=fun (z1 : Int) => Nat.ble (((4 + ((1 : Int)).toNat * 3) + z1.toNat * 1) + 1) 16 = true) g9 rfl rfl rfl) (sel3 (P:=fun (z1 : Int) => Nat.ble (((4 + ((2 : Int)).toNat * 3) + z1.toNat * 1) + 1) 16 = true) g9 rfl rfl rfl)) (sel3 (P:=fun (z0 : Int) => (ABlk.mk 0 16 151 [splice [eL (cL ZIn.c) s.values.p,Y (d0.x0),Y (d0.x1),Y (d0.x2),Y s.values.reg.x0.x0,Y s.values.reg.x0.x1,Y s.values.reg.x0.x2,Y s.values.reg.x1.x0,Y s.values.reg.x1.x1,Y s.values.reg.x1.x2,Y s.values.reg.x2.x0,Y s.values.reg.x2.x1,Y s.values.reg.x2.x2,Y s.values.mem.x0,Y s.values.mem.x1,Y s.values.mem.x2] ((4 + z0.toNat * 3) + v1.1.Reg.toNat * 1) [Y d1]]) = ABlk.mk 0 16 151 [[eL (cL ZIn.c) s.values.p,Y (d0.x0),Y (d0.x1),Y (d0.x2),Y (((Z33.set s.values.reg z0 (Z3b.set (Z33.get s.values.reg z0) v1.1.Reg d1)).x0).x0),Y (((Z33.set s.values.reg z0 (Z3b.set (Z33.get s.values.reg z0) v1.1.Reg d1)).x0).x1),Y (((Z33.set s.values.reg z0 (Z3b.set (Z33.get s.values.reg z0) v1.1.Reg d1)).x0).x2),Y (((Z33.set s.values.reg z0 (Z3b.set (Z33.get s.values.reg z0) v1.1.Reg d1)).x1).x0),Y (((Z33.set s.values.reg z0 (Z3b.set (Z33.get s.values.reg z0) v1.1.Reg d1)).x1).x1),Y (((Z33.set s.values.reg z0 (Z3b.set (Z33.get s.values.reg z0) v1.1.Reg d1)).x1).x2),Y (((Z33.set s.values.reg z0 (Z3b.set (Z33.get s.values.reg z0) v1.1.Reg d1)).x2).x0),Y (((Z33.set s.values.reg z0 (Z3b.set (Z33.get s.values.reg z0) v1.1.Reg d1)).x2).x1),Y (((Z33.set s.values.reg z0 (Z3b.set (Z33.get s.values.reg z0) v1.1.Reg d1)).x2).x2),Y s.values.mem.x0,Y s.values.mem.x1,Y s.values.mem.x2]]) g2 (sel3 (P:=fun (z1 : Int) => (ABlk.mk 0 16 151 [splice [eL (cL ZIn.c) s.values.p,Y (d0.x0),Y (d0.x1),Y (d0.x2),Y s.values.reg.x0.x0,Y s.values.reg.x0.x1,Y s.values.reg.x0.x2,Y s.values.reg.x1.x0,Y s.values.reg.x1.x1,Y s.values.reg.x1.x2,Y s.values.reg.x2.x0,Y s.values.reg.x2.x1,Y s.values.reg.x2.x2,Y s.values.mem.x0,Y s.values.mem.x1,Y s.values.mem.x2] ((4 + ((0 : Int)).toNat * 3) + z1.toNat * 1) [Y d1]]) = ABlk.mk 0 16 151 [[eL (cL ZIn.c) s.values.p,Y (d0.x0),Y (d0.x1),Y (d0.x2),Y (((Z33.set s.values.reg ((0 : Int)) (Z3b.set d2 z1 d1)).x0).x0),Y (((Z33.set s.values.reg ((0 : Int)) (Z3b.set d2 z1 d1)).x0).x1),Y (((Z33.set s.values.reg ((0 : Int)) (Z3b.set d2 z1 d1)).x0).x2),Y (((Z33.set s.values.reg ((0 : Int)) (Z3b.set d2 z1 d1)).x1).x0),Y (((Z33.set s.values.reg ((0 : Int)) (Z3b.set d2 z1 d1)).x1).x1),Y (((Z33.set s.values.reg ((0 : Int)) (Z3b.set d2 z1 d1)).x1).x2),Y (((Z33.set s.values.reg ((0 : Int)) (Z3b.set d2 z1 d1)).x2).x0),Y (((Z33.set s.values.reg ((0 : Int)) (Z3b.set d2 z1 d1)).x2).x1),Y (((Z33.set s.values.reg ((0 : Int)) (Z3b.set d2 z1 d1)).x2).x2),Y s.values.mem.x0,Y s.values.mem.x1,Y s.values.mem.x2]]) g9 rfl rfl rfl) (sel3 (P:=fun (z1 : Int) => (ABlk.mk 0 16 151 [splice [eL (cL ZIn.c) s.values.p,Y (d0.x0),Y (d0.x1),Y (d0.x2),Y s.values.reg.x0.x0,Y s.values.reg.x0.x1,Y s.values.reg.x0.x2,Y s.values.reg.x1.x0,Y s.values.reg.x1.x1,Y s.values.reg.x1.x2,Y s.values.reg.x2.x0,Y s.values.reg.x2.x1,Y s.values.reg.x2.x2,Y s.values.mem.x0,Y s.values.mem.x1,Y s.values.mem.x2] ((4 + ((1 : Int)).toNat * 3) + z1.toNat * 1) [Y d1]]) = ABlk.mk 0 16 151 [[eL (cL ZIn.c) s.values.p,Y (d0.x0),Y (d0.x1),Y (d0.x2),Y (((Z33.set s.values.reg ((1 : Int)) (Z3b.set d3 z1 d1)).x0).x0),Y (((Z33.set s.values.reg ((1 : Int)) (Z3b.set d3 z1 d1)).x0).x1),Y (((Z33.set s.values.reg ((1 : Int)) (Z3b.set d3 z1 d1)).x0).x2),Y (((Z33.set s.values.reg ((1 : Int)) (Z3b.set d3 z1 d1)).x1).x0),Y (((Z33.set s.values.reg ((1 : Int)) (Z3b.set d3 z1 d1)).x1).x1),Y (((Z33.set s.values.reg ((1 : Int)) (Z3b.set d3 z1 d1)).x1).x2),Y (((Z33.set s.values.reg ((1 : Int)) (Z3b.set d3 z1 d1)).x2).x0),Y (((Z33.set s.values.reg ((1 : Int)) (Z3b.set d3 z1 d1)).x2).x1),Y (((Z33.set s.values.reg ((1 : Int)) (Z3b.set d3 z1 d1)).x2).x2),Y s.values.mem.x0,Y s.values.mem.x1,Y s.values.mem.x2]]) g9 rfl rfl rfl) (sel3 (P:=fun (z1 : Int) => (ABlk.mk 0 16 151 [splice [eL (cL ZIn.c) s.values.p,Y (d0.x0),Y (d0.x1),Y (d0.x2),Y s.values.reg.x0.x0,Y s.values.reg.x0.x1,Y s.values.reg.x0.x2,Y s.values.reg.x1.x0,Y s.values.reg.x1.x1,Y s.values.reg.x1.x2,Y s.values.reg.x2.x0,Y s.values.reg.x2.x1,Y s.values.reg.x2.x2,Y s.values.mem.x0,Y s.values.mem.x1,Y s.values.mem.x2] ((4 + ((2 : Int)).toNat * 3) + z1.toNat * 1) [Y d1]]) = ABlk.mk 0 16 151 [[eL (cL ZIn.c) s.values.p,Y (d0.x0),Y (d0.x1),Y (d0.x2),Y (((Z33.set s.values.reg ((2 : Int)) (Z3b.set d4 z1 d1)).x0).x0),Y (((Z33.set s.values.reg ((2 : Int)) (Z3b.set d4 z1 d1)).x0).x1),Y (((Z33.set s.values.reg ((2 : Int)) (Z3b.set d4 z1 d1)).x0).x2),Y (((Z33.set s.values.reg ((2 : Int)) (Z3b.set d4 z1 d1)).x1).x0),Y (((Z33.set s.values.reg ((2 : Int)) (Z3b.set d4 z1 d1)).x1).x1),Y (((Z33.set s.values.reg ((2 : Int)) (Z3b.set d4 z1 d1)).x1).x2),Y (((Z33.set s.values.reg ((2 : Int)) (Z3b.set d4 z1 d1)).x2).x0),Y (((Z33.set s.values.reg ((2 : Int)) (Z3b.set d4 z1 d1)).x2).x1),Y (((Z33.set s.values.reg ((2 : Int)) (Z3b.set d4 z1 d1)).x2).x2),Y s.values.mem.x0,Y s.values.mem.x1,Y s.values.mem.x2]]) g9 rfl rfl rfl))) ?_)
   refine TF.nil ?_
   obtain rfl := osi h
   exact ⟨(),trivial,cutW rfl (wkC rfl (wkC rfl (wkC rfl wkN)))⟩
  ·replace h := condF q7 h
   refine T.skip ?_
   obtain rfl := osi h
   exact ⟨(),trivial,cutW rfl (wkC rfl (wkC rfl (wkC rfl wkN)))⟩
theorem F_impl_follow__impl_seq_P (s : ZSq) (moves : List Int) {q : (Option ZSq) × Bool} (h : F_impl_follow__impl_seq s moves = some q) : PCall Try.prog 132 [.ifc 149 (.fp (ZSq.c s) 0),eL cI moves] (.tup [ifO 149 ZSq.c q.1,Bo q.2]) := by
 refine PCall.mkT Try.func132 rfl (by kernel_rfl) rfl (by kernel_rfl) (e0:=envOf [(0,.ifc 149 (.fp (ZSq.c s) 0)),(1,eL cI moves)]) (wkC rfl (wkC rfl wkN)) (T.seq (T.region (oN (EvN.asg (.v .nilIface) rfl) (oN (EvN.asg (Bo false) rfl) (TO.nil ?_)))))
 obtain ⟨Ks1,es1,ws1,h,ks1⟩ := sumL h
 refine T.join (S:=ZSq) (G:=Unit) (fun s1 => Ks1 s1 = some q) (fun s1 gh => True) (fun s1 gh => [(0,.ifc 149 (.fp (ZSq.c s1) 0))]) (fun s1 gh => []) (fun s1 gh h hg => ?_) ?_
 ·clear ks1
  subst es1
  refine T.seq (T.region (oN (EvN.mv (.ifc 149 (.fp (ZSq.c s1) 0)) rfl) (oN (EvN.asg (.ifc 149 (.fp (ZSq.c s1) 0)) rfl) (oN (EvN.asg (Bo true) rfl) (TO.nil (T.ret ?_))))))
  obtain rfl := osi h
  repeat (first|refine retS ?_|refine retB ?_)
  exact Fin.ret (vs:=[.ifc 149 (.fp (ZSq.c s1) 0),Bo true]) (.cons (.tmp rfl) (.cons (.tmp rfl) .nil)) (.tupL (.cons (.of_isF 9 _ rfl) (.cons (.of_isF 9 _ rfl) .nil)))
 ·refine T.seq (T.region (oN (EvN.mv (eL cI moves) rfl) (oN (EvN.lenL sl23 rfl) (oN (EvN.mv (I (0 : Int)) rfl) (TO.nil (T.block ?_))))))
  refine T.loop (S:=Int × ZSq) (G:=Unit) (F_impl_follow__impl_seq_L5 moves) (fun s4 gh => True) (fun s4 gh => [(10,I s4.1),(9,I (moves.length : Int)),(8,eL cI moves),(0,.ifc 149 (.fp (ZSq.c s4.2) 0))]) (fun s4 gh => []) (s0:=((0 : Int),s)) () h trivial (cutW rfl (wkC rfl (wkC rfl (wkC rfl (wkC rfl wkN))))) (fun s4 gh ws4 h hg => ?_)
  let d0 := moves.getD s4.1.toNat default
  refine T.seq (T.region (oN (EvN.ilt rfl rfl) (TO.nil (T.seq ?_))))
  refine T.cond rfl (fun q6 => ?_) (fun q6 => ?_)
  ·replace h := condT q6 h
   refine T.skip (T.seq (T.block (T.seq (T.region ?_))))
   obtain ⟨g7,h⟩ := gdD h
   refine oN (EvN.ixL sl23 rfl rfl g7 (fun _ => rfl)) (oN (EvN.loadfp (I d0) ty3 rfl rfl) (oN (EvN.asg (I d0) rfl) (TO.nil (T.seq (T.seq (T.region (oN (EvN.mv (.ifc 149 (.fp (ZSq.c s4.2) 0)) rfl) ?_)))))))
   obtain ⟨v8,cv8,h⟩ := bindL h
   refine oN (EvN.invS 16 rfl rfl (MethT.of (off:=0) (by kernel_rfl)) rfl rfl (F_impl_seq_moves_P s4.2 cv8) rfl) (oN (EvN.mv (I d0) rfl) ?_)
   obtain ⟨v9,cv9,h⟩ := bindL h
   refine oN (EvN.call rfl rfl rfl (F_slices_Contains_int_int_P v8 d0 cv9) rfl) (oN (EvN.not rfl) (TO.nil ?_))
   refine T.cond rfl (fun q10 => ?_) (fun q10 => ?_)
   ·replace h := condT q10 h
    refine T.seq (T.clean (H0:=[]) (e0:=envOf []) rfl wkN (T.region (oN (EvN.asg (.v .nilIface) rfl) (oN (EvN.asg (Bo false) rfl) (TO.nil (T.ret ?_))))))
    refine ⟨_,(osi h).symm,fun h => ?_⟩
    replace h := congrArg some h
    obtain rfl := osi h
    replace h := congrArg some (show _ = _ from ks1)
    obtain rfl := osi h
    repeat (first|refine retS ?_|refine retB ?_)
    exact Fin.ret (vs:=[.v .nilIface,Bo false]) (.cons (.tmp rfl) (.cons (.tmp rfl) .nil)) (.tupL (.cons (.of_isF 9 _ rfl) (.cons (.of_isF 9 _ rfl) .nil)))
   ·replace h := condF q10 h
    refine T.skip (T.clean (H0:=[]) (e0:=envOf [(7,I d0),(10,I s4.1),(9,I (moves.length : Int)),(8,eL cI moves),(0,.ifc 149 (.fp (ZSq.c s4.2) 0))]) rfl (wkC rfl (wkC rfl (wkC rfl (wkC rfl (wkC rfl wkN))))) (T.region (oN (EvN.mv (.ifc 149 (.fp (ZSq.c s4.2) 0)) rfl) (oN (EvN.mv (I d0) rfl) ?_))))
    obtain ⟨v11,cv11,h⟩ := bindL h
    refine oN (EvN.invS 16 rfl rfl (MethT.of (off:=0) (by kernel_rfl)) rfl rfl (F_impl_seq_after_P s4.2 d0 cv11) rfl) (oN (EvN.asg (.ifc 149 (.fp (ZSq.c v11) 0)) rfl) (TO.nil (T.region ?_)))
    obtain ⟨g12,h⟩ := gdW h
    refine oN (EvN.add rfl rfl g12) (oN (EvN.mv (I (s4.1 + (1 : Int))) rfl) (TO.nil ?_))
    obtain rfl := osi h
    exact ⟨((s4.1 + (1 : Int)),v11),(),rfl,trivial,cutW rfl (wkC rfl (wkC rfl (wkC rfl (wkC rfl wkN))))⟩
  ·replace h := condF q6 h
   refine T.exit ?_
   refine ⟨_,(osi h).symm,fun h => ?_⟩
   replace h := congrArg some h
   obtain rfl := osi h
   exact ⟨s4.2,(),ks1,trivial,cutW rfl (wkC rfl wkN)⟩
theorem F_impl_values_allDone_P (v : ZVa) {q : Bool} (h : F_impl_values_allDone v = some q) : PCall Try.prog 211 [.fp (ZVa.c v) 0] (Bo q) := by
 refine PCall.mkT Try.func211 rfl (by kernel_rfl) rfl (by kernel_rfl) (e0:=envOf [(0,.fp (ZVa.c v) 0)]) (wkC rfl wkN) (T.seq (T.region (oN (EvN.asg (Bo false) rfl) (TO.nil ?_))))
 obtain ⟨Ks1,es1,ws1,h,ks1⟩ := sumL h
 refine T.join (S:=Unit) (G:=Unit) (fun s1 => Ks1 s1 = some q) (fun s1 gh => True) (fun s1 gh => []) (fun s1 gh => []) (fun s1 gh h hg => ?_) ?_
 ·clear ks1
  subst es1
  refine T.seq (T.region (oN (EvN.asg (Bo true) rfl) (TO.nil (T.ret ?_))))
  obtain rfl := osi h
  repeat (first|refine retS ?_|refine retB ?_)
  exact Fin.ret (vs:=[Bo true]) (.cons (.tmp rfl) .nil) (.of_isF 9 _ rfl)
 ·refine T.seq (T.region (oN (EvN.mv (.fp (ZVa.c v) 0) rfl) (oN (EvN.nilfp rfl) (oN (EvN.fafp Try.underlying111 rfl (by kernel_rfl) rfl) (oN (EvN.loadfp (eL (cL ZIn.c) v.p) ty27 rfl rfl) (oN (EvN.lenL sl27 rfl) (oN (EvN.mv (I (0 : Int)) rfl) ?_)))))))
  refine TO.nil (T.block ?_)
  refine T.loop (S:=Int) (G:=Unit) (F_impl_values_allDone_L5 v) (fun s4 gh => True) (fun s4 gh => [(11,I s4),(10,I (v.p.length : Int)),(0,.fp (ZVa.c v) 0)]) (fun s4 gh => []) (s0:=(0 : Int)) () h trivial (cutW rfl (wkC rfl (wkC rfl (wkC rfl wkN)))) (fun s4 gh ws4 h hg => ?_)
  refine T.seq (T.region (oN (EvN.ilt rfl rfl) (TO.nil (T.seq ?_))))
  refine T.cond rfl (fun q6 => ?_) (fun q6 => ?_)
  ·replace h := condT q6 h
   refine T.skip (T.seq (T.block (T.seq (T.region (oN (EvN.mv (I s4) rfl) (oN (EvN.asg (I s4) rfl) (TO.nil ?_)))))))
   refine T.seq (T.region (oN (EvN.mv (.fp (ZVa.c v) 0) rfl) (oN (EvN.mv (I s4) rfl) ?_)))
   obtain ⟨v7,cv7,h⟩ := bindL h
   refine oN (EvN.call rfl rfl rfl (F_impl_values_next_P v s4 cv7) rfl) (oN (EvN.mv (.tup [.agg (ZIn.c v7.1),Bo v7.2]) rfl) (oN (EvN.ext (.agg (ZIn.c v7.1)) rfl rfl) (oN (EvN.ext (Bo v7.2) rfl rfl) (oA (EvA.al zs56 rfl rfl) (oV (EvA.st (cs:=[I v7.1.Op,I v7.1.Loc,I v7.1.Reg,I v7.1.Val]) ⟨0,4,56,[[I v7.1.Op,I v7.1.Loc,I v7.1.Reg,I v7.1.Val]]⟩ ty56 rfl rfl rfl rfl rfl rfl rfl rfl rfl) (oN (EvN.asg (Bo v7.2) rfl) (TO.nil ?_)))))))
   refine T.seq (T.clean (H0:=[some ⟨0,4,56,[[I v7.1.Op,I v7.1.Loc,I v7.1.Reg,I v7.1.Val]]⟩]) (e0:=envOf [(5,Bo v7.2),(11,I s4),(10,I (v.p.length : Int)),(0,.fp (ZVa.c v) 0)]) rfl (wkC rfl (wkC rfl (wkC rfl (wkC rfl wkN)))) (T.region (oN (EvN.mv (Bo v7.2) rfl) (TO.nil ?_))))
   refine T.cond rfl (fun q8 => ?_) (fun q8 => ?_)
   ·replace h := condT q8 h
    refine T.seq (T.region (oN (EvN.asg (Bo false) rfl) (TO.nil (T.ret ?_))))
    refine ⟨_,(osi h).symm,fun h => ?_⟩
    replace h := congrArg some h
    obtain rfl := osi h
    replace h := congrArg some (show _ = _ from ks1)
    obtain rfl := osi h
    repeat (first|refine retS ?_|refine retB ?_)
    exact Fin.ret (vs:=[Bo false]) (.cons (.tmp rfl) .nil) (.of_isF 9 _ rfl)
   ·replace h := condF q8 h
    refine T.skip (T.region ?_)
    obtain ⟨g9,h⟩ := gdW h
    refine oN (EvN.add rfl rfl g9) (oN (EvN.mv (I (s4 + (1 : Int))) rfl) (TO.nil ?_))
    obtain rfl := osi h
    exact ⟨(s4 + (1 : Int)),(),rfl,trivial,cutS rfl .nil (stl_cons (.fz (.of_isF 9 _ rfl)) (stl_cons (.fz (.of_isF 9 _ rfl)) (stl_cons (.fz (.of_isF 9 _ rfl)) stl_nil)))⟩
  ·replace h := condF q6 h
   refine T.exit ?_
   refine ⟨_,(osi h).symm,fun h => ?_⟩
   replace h := congrArg some h
   obtain rfl := osi h
   exact ⟨(),(),ks1,trivial,cutW rfl wkN⟩
theorem F_impl_seq_done_P (s : ZSq) {q : Bool} (h : F_impl_seq_done s = some q) : PCall Try.prog 212 [.fp (ZSq.c s) 0] (Bo q) := by
 refine PCall.mkT Try.func212 rfl (by kernel_rfl) rfl (by kernel_rfl) (e0:=envOf [(0,.fp (ZSq.c s) 0)]) (wkC rfl wkN) (T.seq (T.region (oN (EvN.asg (Bo false) rfl) (TO.nil (T.seq (T.region (oN (EvN.mv (.fp (ZSq.c s) 0) rfl) ?_)))))))
 refine oN (EvN.nilfp rfl) (oN (EvN.fafpS 16 Try.underlying151 rfl (by kernel_rfl) rfl rfl (row2:=ZVa.c s.values)) ?_)
 obtain ⟨v1,cv1,h⟩ := bindL h
 refine oN (EvN.call rfl rfl rfl (F_impl_values_allDone_P s.values cv1) rfl) (oN (EvN.asg (Bo v1) rfl) (TO.nil (T.ret ?_)))
 obtain rfl := osi h
 repeat (first|refine retS ?_|refine retB ?_)
 exact Fin.ret (vs:=[Bo v1]) (.cons (.tmp rfl) .nil) (.of_isF 9 _ rfl)
theorem F_impl_values_outcome_P (v : ZVa) {q : (List Int)} (h : F_impl_values_outcome v = some q) : PCall Try.prog 100 [.fp (ZVa.c v) 0] (eL cI q) := by
 refine PCall.mkT Try.func100 rfl (by kernel_rfl) rfl (by kernel_rfl) (e0:=envOf [(0,.fp (ZVa.c v) 0)]) (wkC rfl wkN) (T.seq (T.region (oN (EvN.asg (.nil) rfl) (TO.nil (T.seq (T.reserve (T.region ?_)))))))
 refine oN (EvN.asg (hS true 0 0 1 (([] : List Int).length)) rfl) (TO.nil ?_)
 obtain ⟨s1,h,ks1⟩ := bindL h
 refine T.joinF (G:=(Bool × Nat)) (fun gh => (gh.1 = true -> s1 = [])) (fun gh => [(3,hS gh.1 0 gh.2 1 s1.length),(0,.fp (ZVa.c v) 0)]) (fun gh => [bE gh.1 gh.2 1 3 (s1.map cI)]) (fun gh n36 => ?_) ?_
 ·clear h
  have h := ks1
  clear ks1
  obtain ⟨b35,u34⟩ := gh
  obtain ⟨s37,h,ks37⟩ := bindL h
  refine T.joinF (G:=(Bool × Nat)) (fun gh => (gh.1 = true -> s37 = [])) (fun gh => [(3,hS gh.1 0 gh.2 1 s37.length)]) (fun gh => [bE gh.1 gh.2 1 3 (s37.map cI)]) (fun gh n55 => ?_) ?_
  ·clear h
   have h := ks37
   clear ks37
   obtain ⟨b54,u53⟩ := gh
   refine T.seq (T.region (oN (EvN.mv (hS b54 0 u53 1 s37.length) rfl) (oN (EvN.asg (hS b54 0 u53 1 s37.length) rfl) (TO.nil (T.ret ?_)))))
   obtain rfl := osi h
   repeat (first|refine retS ?_|refine retB ?_)
   exact Fin.ret (vs:=[hS b54 0 u53 1 s37.length]) (.cons (.tmp rfl) .nil) (Fz.own (g:=b54) (ver:=u53) (l:=s37) rfl rfl rfl n55 (fun _ => rfl))
  ·clear ks37
   refine T.seq (T.region (oN (EvN.mv (.fp (ZVa.c v) 0) rfl) (oN (EvN.nilfp rfl) (oN (EvN.fafpS 3 Try.underlying111 rfl (by kernel_rfl) rfl rfl (row2:=Z3b.c v.mem)) (oN (EvN.loadfp (.agg (Z3b.c v.mem)) ty108 rfl rfl) (oN (EvN.mv (I (0 : Int)) rfl) (TO.nil ?_)))))))
   refine T.block ?_
   refine T.loop (S:=(List Int) × Int) (G:=(Bool × Nat)) (F_impl_values_outcome_L44 v) (fun s43 gh => (gh.1 = true -> s43.1 = [])) (fun s43 gh => [(37,I s43.2),(36,.agg (Z3b.c v.mem)),(3,hS gh.1 0 gh.2 1 s43.1.length)]) (fun s43 gh => [bE gh.1 gh.2 1 3 (s43.1.map cI)]) (s0:=(s1,(0 : Int))) (b35,u34) h n36 (cutW rfl (wkC rfl (wkC rfl (wkC rfl wkN)))) (fun s43 gh ws43 h n47 => ?_)
   obtain ⟨b46,u45⟩ := gh
   refine T.seq (T.region (oN (EvN.ilt rfl rfl) (TO.nil (T.seq ?_))))
   refine T.cond rfl (fun q48 => ?_) (fun q48 => ?_)
   ·replace h := condT q48 h
    refine T.skip (T.seq (T.block (T.seq (T.region ?_))))
    obtain ⟨g49,h⟩ := gdD h
    refine oN (EvN.ixag (Y (Z3b.get v.mem s43.2)) Try.underlying108 ty5 rfl rfl g49 (sel3 (P:=fun (z : Int) => partV false 1 (Z3b.c v.mem) (z.toNat * 1) = some (Y (Z3b.get v.mem z))) g49 rfl rfl rfl)) (oN (EvN.asg (Y (Z3b.get v.mem s43.2)) rfl) (TO.nil (T.region (oN (EvN.mv (hS b46 0 u45 1 s43.1.length) rfl) (oN (EvN.mv (Y (Z3b.get v.mem s43.2)) rfl) ?_)))))
    obtain ⟨g50,h⟩ := gdW h
    refine oN (EvN.iconv ty5.und Try.underlying3 rfl g50) (oN (EvN.mkF (c:=cI) ([(Z3b.get v.mem s43.2)] : List Int) [[I (Z3b.get v.mem s43.2)]] sl23 rfl rfl rfl (fun _ => rfl) (fun _ => rfl) rfl) ?_)
    obtain ⟨g51,h⟩ := gdL h
    refine oA (EvA.app1 (g:=b46) (l:=s43.1) (Z3b.get v.mem s43.2) sl23 (by kernel_rfl) rfl rfl rfl n47 (SrcOk.fz (l:=([(Z3b.get v.mem s43.2)] : List Int)) rfl (fun _ => rfl)) g51) (oN (EvN.asg (hS false 0 (u45 + 1) 1 ((s43.1 ++ [(Z3b.get v.mem s43.2)]).length)) rfl) (TO.nil (T.clean (H0:=[bE false (u45 + 1) 1 3 ((s43.1 ++ [(Z3b.get v.mem s43.2)]).map cI)]) (e0:=envOf [(3,hS false 0 (u45 + 1) 1 ((s43.1 ++ [(Z3b.get v.mem s43.2)]).length)),(37,I s43.2),(36,.agg (Z3b.c v.mem))]) rfl (wkC rfl (wkC rfl (wkC rfl wkN))) (T.region ?_))))
    obtain ⟨g52,h⟩ := gdW h
    refine oN (EvN.add rfl rfl g52) (oN (EvN.mv (I (s43.2 + (1 : Int))) rfl) (TO.nil ?_))
    obtain rfl := osi h
    exact ⟨((s43.1 ++ [(Z3b.get v.mem s43.2)]),(s43.2 + (1 : Int))),(false,u45 + 1),rfl,nofun,cutW rfl (wkC rfl (wkC rfl (wkC rfl wkN)))⟩
   ·replace h := condF q48 h
    refine T.exit ?_
    refine ⟨_,(osi h).symm,fun h => ?_⟩
    replace h := congrArg some h
    obtain rfl := osi h
    exact ⟨(b46,u45),n47,cutW rfl (wkC rfl wkN)⟩
 ·clear ks1
  refine T.seq (T.region (oN (EvN.mv (.fp (ZVa.c v) 0) rfl) (oN (EvN.nilfp rfl) (oN (EvN.fafp Try.underlying111 rfl (by kernel_rfl) rfl) (oN (EvN.loadfp (eL (cL ZIn.c) v.p) ty27 rfl rfl) (oN (EvN.lenL sl27 rfl) (oN (EvN.mv (I (0 : Int)) rfl) ?_)))))))
  refine TO.nil (T.block ?_)
  refine T.loop (S:=(List Int) × Int) (G:=(Bool × Nat)) (F_impl_values_outcome_L8 v) (fun s7 gh => (gh.1 = true -> s7.1 = [])) (fun s7 gh => [(14,I s7.2),(13,I (v.p.length : Int)),(3,hS gh.1 0 gh.2 1 s7.1.length),(0,.fp (ZVa.c v) 0)]) (fun s7 gh => [bE gh.1 gh.2 1 3 (s7.1.map cI)]) (s0:=(([] : List Int),(0 : Int))) (true,0) h (fun _ => rfl) (cutW rfl (wkC rfl (wkC rfl (wkC rfl (wkC rfl wkN))))) (fun s7 gh ws7 h n11 => ?_)
  obtain ⟨b10,u9⟩ := gh
  refine T.seq (T.region (oN (EvN.ilt rfl rfl) (TO.nil (T.seq ?_))))
  refine T.cond rfl (fun q12 => ?_) (fun q12 => ?_)
  ·replace h := condT q12 h
   refine T.skip ?_
   obtain ⟨s13,h,ks13⟩ := bindL h
   refine T.joinF (G:=(Bool × Nat)) (fun gh => (gh.1 = true -> s13 = [])) (fun gh => [(14,I s7.2),(13,I (v.p.length : Int)),(3,hS gh.1 0 gh.2 1 s13.length),(0,.fp (ZVa.c v) 0)]) (fun gh => [bE gh.1 gh.2 1 3 (s13.map cI)]) (fun gh n32 => ?_) ?_
   ·clear h
    have h := ks13
    clear ks13
    obtain ⟨b31,u30⟩ := gh
    refine T.region ?_
    obtain ⟨g33,h⟩ := gdW h
    refine oN (EvN.add rfl rfl g33) (oN (EvN.mv (I (s7.2 + (1 : Int))) rfl) (TO.nil ?_))
    obtain rfl := osi h
    exact ⟨(s13,(s7.2 + (1 : Int))),(b31,u30),rfl,n32,cutW rfl (wkC rfl (wkC rfl (wkC rfl (wkC rfl wkN))))⟩
   ·clear ks13
    refine T.block (T.seq (T.region (oN (EvN.mv (I s7.2) rfl) (oN (EvN.asg (I s7.2) rfl) (TO.nil (T.seq (T.region ?_)))))))
    refine oN (EvN.mv (.fp (ZVa.c v) 0) rfl) (oN (EvN.mv (I s7.2) rfl) (oN (EvN.nilfp rfl) (oN (EvN.fafpS 9 Try.underlying111 rfl (by kernel_rfl) rfl rfl (row2:=Z33.c v.reg)) ?_)))
    obtain ⟨g14,h⟩ := gdD h
    refine oN (EvN.ixafp Try.underlying109 ty108 rfl rfl g14) (oN (EvN.loadfp (.agg (Z3b.c (Z33.get v.reg s7.2))) ty108 rfl (sel3 (P:=fun (z0 : Int) => partV true 3 (Z33.c v.reg) (0 + z0.toNat * 3) = some (.agg (Z3b.c (Z33.get v.reg z0)))) g14 rfl rfl rfl)) (oN (EvN.mv (I (0 : Int)) rfl) (TO.nil (T.block ?_))))
    refine T.loop (S:=(List Int) × Int) (G:=(Bool × Nat)) (F_impl_values_outcome_L21 v s7) (fun s20 gh => (gh.1 = true -> s20.1 = [])) (fun s20 gh => [(23,I s20.2),(22,.agg (Z3b.c (Z33.get v.reg s7.2))),(14,I s7.2),(13,I (v.p.length : Int)),(3,hS gh.1 0 gh.2 1 s20.1.length),(0,.fp (ZVa.c v) 0)]) (fun s20 gh => [bE gh.1 gh.2 1 3 (s20.1.map cI)]) (s0:=(s7.1,(0 : Int))) (b10,u9) h n11 (cutW rfl (wkC rfl (wkC rfl (wkC rfl (wkC rfl (wkC rfl (wkC rfl wkN))))))) (fun s20 gh ws20 h n24 => ?_)
    let d0 := Z3b.get (Z33.get v.reg s7.2) s20.2
    obtain ⟨b23,u22⟩ := gh
    refine T.seq (T.region (oN (EvN.ilt rfl rfl) (TO.nil (T.seq ?_))))
    refine T.cond rfl (fun q25 => ?_) (fun q25 => ?_)
    ·replace h := condT q25 h
     refine T.skip (T.seq (T.block (T.seq (T.region ?_))))
     obtain ⟨g26,h⟩ := gdD h
     refine oN (EvN.ixag (Y d0) Try.underlying108 ty5 rfl rfl g26 (sel3 (P:=fun (z : Int) => partV false 1 (Z3b.c (Z33.get v.reg s7.2)) (z.toNat * 1) = some (Y (Z3b.get (Z33.get v.reg s7.2) z))) g26 rfl rfl rfl)) (oN (EvN.asg (Y d0) rfl) (TO.nil (T.region (oN (EvN.mv (hS b23 0 u22 1 s20.1.length) rfl) (oN (EvN.mv (Y d0) rfl) ?_)))))
     obtain ⟨g27,h⟩ := gdW h
     refine oN (EvN.iconv ty5.und Try.underlying3 rfl g27) (oN (EvN.mkF (c:=cI) ([d0] : List Int) [[I d0]] sl23 rfl rfl rfl (fun _ => rfl) (fun _ => rfl) rfl) ?_)
     obtain ⟨g28,h⟩ := gdL h
     refine oA (EvA.app1 (g:=b23) (l:=s20.1) d0 sl23 (by kernel_rfl) rfl rfl rfl n24 (SrcOk.fz (l:=([d0] : List Int)) rfl (fun _ => rfl)) g28) (oN (EvN.asg (hS false 0 (u22 + 1) 1 ((s20.1 ++ [d0]).length)) rfl) (TO.nil (T.clean (H0:=[bE false (u22 + 1) 1 3 ((s20.1 ++ [d0]).map cI)]) (e0:=envOf [(3,hS false 0 (u22 + 1) 1 ((s20.1 ++ [d0]).length)),(23,I s20.2),(22,.agg (Z3b.c (Z33.get v.reg s7.2))),(14,I s7.2),(13,I (v.p.length : Int)),(0,.fp (ZVa.c v) 0)]) rfl (wkC rfl (wkC rfl (wkC rfl (wkC rfl (wkC rfl (wkC rfl wkN)))))) (T.region ?_))))
     obtain ⟨g29,h⟩ := gdW h
     refine oN (EvN.add rfl rfl g29) (oN (EvN.mv (I (s20.2 + (1 : Int))) rfl) (TO.nil ?_))
     obtain rfl := osi h
     exact ⟨((s20.1 ++ [d0]),(s20.2 + (1 : Int))),(false,u22 + 1),rfl,nofun,cutW rfl (wkC rfl (wkC rfl (wkC rfl (wkC rfl (wkC rfl (wkC rfl wkN))))))⟩
    ·replace h := condF q25 h
     refine T.exit ?_
     refine ⟨_,(osi h).symm,fun h => ?_⟩
     replace h := congrArg some h
     obtain rfl := osi h
     exact ⟨(b23,u22),n24,cutW rfl (wkC rfl (wkC rfl (wkC rfl (wkC rfl wkN))))⟩
  ·replace h := condF q12 h
   refine T.exit ?_
   refine ⟨_,(osi h).symm,fun h => ?_⟩
   replace h := congrArg some h
   obtain rfl := osi h
   exact ⟨(b10,u9),n11,cutW rfl (wkC rfl (wkC rfl wkN))⟩
theorem F_impl_finished__impl_seq_P (s : ZSq) (moves : List Int) {q : (List Int) × Bool} (h : F_impl_finished__impl_seq s moves = some q) : PCall Try.prog 77 [.ifc 149 (.fp (ZSq.c s) 0),eL cI moves] (.tup [eL cI q.1,Bo q.2]) := by
 refine PCall.mkT Try.func77 rfl (by kernel_rfl) rfl (by kernel_rfl) (e0:=envOf [(0,.ifc 149 (.fp (ZSq.c s) 0)),(1,eL cI moves)]) (wkC rfl (wkC rfl wkN)) (T.seq (T.region (oN (EvN.asg (.nil) rfl) (oN (EvN.asg (Bo false) rfl) (TO.nil (T.seq (T.region ?_)))))))
 refine oN (EvN.mv (.ifc 149 (.fp (ZSq.c s) 0)) rfl) (oN (EvN.mv (eL cI moves) rfl) ?_)
 obtain ⟨v1,cv1,h⟩ := bindL h
 refine oN (EvN.call rfl rfl rfl (F_impl_follow__impl_seq_P s moves cv1) rfl) (oN (EvN.mv (.tup [ifO 149 ZSq.c v1.1,Bo v1.2]) rfl) (oN (EvN.ext (ifO 149 ZSq.c v1.1) rfl rfl) (oN (EvN.ext (Bo v1.2) rfl rfl) (oN (EvN.asg (ifO 149 ZSq.c v1.1) rfl) (oN (EvN.asg (Bo v1.2) rfl) (TO.nil (T.seq ?_)))))))
 refine T.seq (T.clean (H0:=[]) (e0:=envOf [(7,Bo v1.2),(6,ifO 149 ZSq.c v1.1)]) rfl (wkC rfl (wkC rfl wkN)) (T.region (oN (EvN.mv (Bo v1.2) rfl) (oN (EvN.not rfl) (oN (EvN.mv (Bo (!v1.2)) rfl) ?_)))))
 obtain ⟨s2,h,ks2⟩ := bindL h
 refine TO.joinF (G:=Unit) 4 (fun _ => True) (fun _ => [(20,Bo s2),(6,ifO 149 ZSq.c v1.1)]) (fun _ => []) ?_ (fun js2 => ?_)
 rotate_left
 ·clear ks2
  rcases bifL h with ⟨q3,h⟩ | ⟨q3,h⟩
  ·refine gS rfl q3 (gS rfl q3 (gS rfl q3 (oN (EvN.pickT rfl q3 (Bo true) rfl) ?_)))
   obtain rfl := osi h
   exact js2 _ _ ⟨(),trivial,cutW rfl (wkC rfl (wkC rfl wkN))⟩
  ·refine gN rfl q3 (EvN.mv (ifO 149 ZSq.c v1.1) rfl) ?_
   obtain ⟨g4,h⟩ := gdL h
   obtain ⟨v5,cv5,h⟩ := bindL h
   refine gN rfl q3 (EvN.invS 16 rfl (ifO_some g4) (MethT.of (off:=0) (by kernel_rfl)) rfl rfl (F_impl_seq_done_P (v1.1.getD default) cv5) rfl) (gN rfl q3 (EvN.not rfl) (oN (EvN.pickF rfl q3 (Bo (!v5)) rfl) ?_))
   obtain rfl := osi h
   exact js2 _ _ ⟨(),trivial,cutW rfl (wkC rfl (wkC rfl wkN))⟩
 ·intro _ _
  replace h := ks2
  clear ks2
  refine TO.nil ?_
  refine T.cond rfl (fun q6 => ?_) (fun q6 => ?_)
  ·replace h := condT q6 h
   refine T.seq (T.region (oN (EvN.asg (.nil) rfl) (oN (EvN.asg (Bo false) rfl) (TO.nil (T.ret ?_)))))
   obtain rfl := osi h
   repeat (first|refine retS ?_|refine retB ?_)
   exact Fin.ret (vs:=[.nil,Bo false]) (.cons (.tmp rfl) (.cons (.tmp rfl) .nil)) (.tupL (.cons .nil0 (.cons (.of_isF 9 _ rfl) .nil)))
  ·replace h := condF q6 h
   refine T.skip (T.seq (T.region (oN (EvN.mv (ifO 149 ZSq.c v1.1) rfl) ?_)))
   obtain ⟨g7,h⟩ := gdL h
   obtain ⟨v8,cv8,h⟩ := bindL h
   refine oN (EvN.invS 16 rfl (ifO_some g7) (MethT.of (off:=0) (by kernel_rfl)) rfl rfl (F_impl_values_outcome_P ((v1.1.getD default).values) cv8) rfl) (oN (EvN.asg (eL cI v8) rfl) (oN (EvN.asg (Bo true) rfl) (TO.nil (T.ret ?_))))
   obtain rfl := osi h
   repeat (first|refine retS ?_|refine retB ?_)
   exact Fin.ret (vs:=[eL cI v8,Bo true]) (.cons (.tmp rfl) (.cons (.tmp rfl) .nil)) (.tupL (.cons (.of_isF 9 _ rfl) (.cons (.of_isF 9 _ rfl) .nil)))
theorem F_impl_RunSchedule_P (p : List (List ZIn)) (schedule : List Int) {q : (List Int) × Bool} (h : F_impl_RunSchedule p schedule = some q) : PCall Try.prog 40 [eL (cL ZIn.c) p,eL cI schedule] (.tup [eL cI q.1,Bo q.2]) := by
 refine PCall.mkT Try.func40 rfl (by kernel_rfl) rfl (by kernel_rfl) (e0:=envOf [(0,eL (cL ZIn.c) p),(1,eL cI schedule)]) (wkC rfl (wkC rfl wkN)) (T.seq (T.region (oN (EvN.asg (.nil) rfl) (oN (EvN.asg (Bo false) rfl) (TO.nil (T.seq (T.seq ?_)))))))
 refine T.region (oN (EvN.mv (eL (cL ZIn.c) p) rfl) ?_)
 obtain ⟨v1,cv1,h⟩ := bindL h
 refine oN (EvN.call rfl rfl rfl (F_impl_ProgramValid_P p cv1) rfl) (oN (EvN.not rfl) (TO.nil ?_))
 refine T.cond rfl (fun q2 => ?_) (fun q2 => ?_)
 ·replace h := condT q2 h
  refine T.seq (T.clean (H0:=[]) (e0:=envOf []) rfl wkN (T.region (oN (EvN.asg (.nil) rfl) (oN (EvN.asg (Bo false) rfl) (TO.nil (T.ret ?_))))))
  obtain rfl := osi h
  repeat (first|refine retS ?_|refine retB ?_)
  exact Fin.ret (vs:=[.nil,Bo false]) (.cons (.tmp rfl) (.cons (.tmp rfl) .nil)) (.tupL (.cons .nil0 (.cons (.of_isF 9 _ rfl) .nil)))
 ·replace h := condF q2 h
  refine T.skip (T.seq (T.region (oN (EvN.mv (eL (cL ZIn.c) p) rfl) ?_)))
  obtain ⟨v3,cv3,h⟩ := bindL h
  refine oN (EvN.call rfl rfl rfl (F_impl_newSeq_P p cv3) rfl) (oN (EvN.mv (eL cI schedule) rfl) ?_)
  obtain ⟨v4,cv4,h⟩ := bindL h
  refine oN (EvN.call rfl rfl rfl (F_impl_finished__impl_seq_P v3 schedule cv4) rfl) (oN (EvN.ext (eL cI v4.1) rfl rfl) (oN (EvN.ext (Bo v4.2) rfl rfl) (oN (EvN.asg (eL cI v4.1) rfl) (oN (EvN.asg (Bo v4.2) rfl) (TO.nil (T.ret ?_))))))
  obtain rfl := osi h
  repeat (first|refine retS ?_|refine retB ?_)
  exact Fin.ret (vs:=[eL cI v4.1,Bo v4.2]) (.cons (.tmp rfl) (.cons (.tmp rfl) .nil)) (.tupL (.cons (.of_isF 9 _ rfl) (.cons (.of_isF 9 _ rfl) .nil)))
theorem F_impl_events_P (p : List (List ZIn)) {q : (List ZEv)} (h : F_impl_events p = some q) : PCall Try.prog 91 [eL (cL ZIn.c) p] (eL ZEv.c q) := by
 refine PCall.mkT Try.func91 rfl (by kernel_rfl) rfl (by kernel_rfl) (e0:=envOf [(0,eL (cL ZIn.c) p)]) (wkC rfl wkN) (T.seq (T.region (oN (EvN.asg (.nil) rfl) (TO.nil (T.seq (T.reserve (T.region ?_)))))))
 refine oN (EvN.asg (hS true 0 0 5 (([] : List ZEv).length)) rfl) (TO.nil ?_)
 obtain ⟨s1,h,ks1⟩ := bindL h
 refine T.joinF (G:=(Bool × Nat)) (fun gh => (gh.1 = true -> s1 = [])) (fun gh => [(3,hS gh.1 0 gh.2 5 s1.length),(0,eL (cL ZIn.c) p)]) (fun gh => [bE gh.1 gh.2 5 101 (s1.map ZEv.c)]) (fun gh n17 => ?_) ?_
 ·clear h
  have h := ks1
  clear ks1
  obtain ⟨b16,u15⟩ := gh
  obtain ⟨s18,h,ks18⟩ := bindL h
  refine T.joinF (G:=(Bool × Nat)) (fun gh => (gh.1 = true -> s18 = [])) (fun gh => [(3,hS gh.1 0 gh.2 5 s18.length)]) (fun gh => [bE gh.1 gh.2 5 101 (s18.map ZEv.c)]) (fun gh n59 => ?_) ?_
  ·clear h
   have h := ks18
   clear ks18
   obtain ⟨b58,u57⟩ := gh
   refine T.seq (T.region (oN (EvN.mv (hS b58 0 u57 5 s18.length) rfl) (oN (EvN.asg (hS b58 0 u57 5 s18.length) rfl) (TO.nil (T.ret ?_)))))
   obtain rfl := osi h
   repeat (first|refine retS ?_|refine retB ?_)
   exact Fin.ret (vs:=[hS b58 0 u57 5 s18.length]) (.cons (.tmp rfl) .nil) (Fz.own (g:=b58) (ver:=u57) (l:=s18) rfl rfl rfl n59 ZEv.isF)
  ·clear ks18
   refine T.seq (T.region (oN (EvN.mv (eL (cL ZIn.c) p) rfl) (oN (EvN.lenL sl27 rfl) (oN (EvN.mv (I (0 : Int)) rfl) (TO.nil (T.block ?_))))))
   refine T.loop (S:=(List ZEv) × Int) (G:=(Bool × Nat)) (F_impl_events_L25 p) (fun s24 gh => (gh.1 = true -> s24.1 = [])) (fun s24 gh => [(21,I s24.2),(20,I (p.length : Int)),(19,eL (cL ZIn.c) p),(3,hS gh.1 0 gh.2 5 s24.1.length)]) (fun s24 gh => [bE gh.1 gh.2 5 101 (s24.1.map ZEv.c)]) (s0:=(s1,(0 : Int))) (b16,u15) h n17 (cutW rfl (wkC rfl (wkC rfl (wkC rfl (wkC rfl wkN))))) (fun s24 gh ws24 h n28 => ?_)
   obtain ⟨b27,u26⟩ := gh
   refine T.seq (T.region (oN (EvN.ilt rfl rfl) (TO.nil (T.seq ?_))))
   refine T.cond rfl (fun q29 => ?_) (fun q29 => ?_)
   ·replace h := condT q29 h
    refine T.skip ?_
    obtain ⟨s30,h,ks30⟩ := bindL h
    refine T.joinF (G:=(Bool × Nat)) (fun gh => (gh.1 = true -> s30 = [])) (fun gh => [(21,I s24.2),(20,I (p.length : Int)),(19,eL (cL ZIn.c) p),(3,hS gh.1 0 gh.2 5 s30.length)]) (fun gh => [bE gh.1 gh.2 5 101 (s30.map ZEv.c)]) (fun gh n55 => ?_) ?_
    ·clear h
     have h := ks30
     clear ks30
     obtain ⟨b54,u53⟩ := gh
     refine T.region ?_
     obtain ⟨g56,h⟩ := gdW h
     refine oN (EvN.add rfl rfl g56) (oN (EvN.mv (I (s24.2 + (1 : Int))) rfl) (TO.nil ?_))
     obtain rfl := osi h
     exact ⟨(s30,(s24.2 + (1 : Int))),(b54,u53),rfl,n55,cutW rfl (wkC rfl (wkC rfl (wkC rfl (wkC rfl wkN))))⟩
    ·clear ks30
     refine T.block (T.seq (T.region (oN (EvN.mv (I s24.2) rfl) ?_)))
     obtain ⟨g31,h⟩ := gdD h
     refine oN (EvN.ixL sl27 rfl rfl g31 (fun _ => rfl)) (oN (EvN.loadfp (eL ZIn.c (p.getD s24.2.toNat default)) ty57 rfl rfl) (oN (EvN.asg (I s24.2) rfl) (oN (EvN.asg (eL ZIn.c (p.getD s24.2.toNat default)) rfl) (TO.nil (T.seq (T.region (oN (EvN.mv (eL ZIn.c (p.getD s24.2.toNat default)) rfl) ?_)))))))
     refine oN (EvN.lenL sl57 rfl) (oN (EvN.mv (I (0 : Int)) rfl) (TO.nil (T.block ?_)))
     refine T.loop (S:=(List ZEv) × Int) (G:=(Bool × Nat)) (F_impl_events_L38 p s24) (fun s37 gh => (gh.1 = true -> s37.1 = [])) (fun s37 gh => [(28,I s37.2),(27,I ((p.getD s24.2.toNat default).length : Int)),(26,eL ZIn.c (p.getD s24.2.toNat default)),(5,I s24.2),(21,I s24.2),(20,I (p.length : Int)),(19,eL (cL ZIn.c) p),(3,hS gh.1 0 gh.2 5 s37.1.length)]) (fun s37 gh => [bE gh.1 gh.2 5 101 (s37.1.map ZEv.c)]) (s0:=(s24.1,(0 : Int))) (b27,u26) h n28 (cutW rfl (wkC rfl (wkC rfl (wkC rfl (wkC rfl (wkC rfl (wkC rfl (wkC rfl (wkC rfl wkN))))))))) (fun s37 gh ws37 h n41 => ?_)
     obtain ⟨b40,u39⟩ := gh
     refine T.seq (T.region (oN (EvN.ilt rfl rfl) (TO.nil (T.seq ?_))))
     refine T.cond rfl (fun q42 => ?_) (fun q42 => ?_)
     ·replace h := condT q42 h
      refine T.skip ?_
      obtain ⟨s43,h,ks43⟩ := bindL h
      refine T.joinF (G:=(Bool × Nat)) (fun gh => (gh.1 = true -> s43 = [])) (fun gh => [(3,hS gh.1 0 gh.2 5 s43.length),(28,I s37.2),(27,I ((p.getD s24.2.toNat default).length : Int)),(26,eL ZIn.c (p.getD s24.2.toNat default)),(5,I s24.2),(21,I s24.2),(20,I (p.length : Int)),(19,eL (cL ZIn.c) p)]) (fun gh => [bE gh.1 gh.2 5 101 (s43.map ZEv.c)]) (fun gh n51 => ?_) ?_
      ·clear h
       have h := ks43
       clear ks43
       obtain ⟨b50,u49⟩ := gh
       refine T.region ?_
       obtain ⟨g52,h⟩ := gdW h
       refine oN (EvN.add rfl rfl g52) (oN (EvN.mv (I (s37.2 + (1 : Int))) rfl) (TO.nil ?_))
       obtain rfl := osi h
       exact ⟨(s43,(s37.2 + (1 : Int))),(b50,u49),rfl,n51,cutW rfl (wkC rfl (wkC rfl (wkC rfl (wkC rfl (wkC rfl (wkC rfl (wkC rfl (wkC rfl wkN))))))))⟩
      ·clear ks43
       refine T.block (T.seq (T.region (oN (EvN.mv (I s37.2) rfl) ?_)))
       obtain ⟨g44,h⟩ := gdD h
       refine oN (EvN.ixL sl57 rfl rfl g44 (fun _ => rfl)) (oN (EvN.loadfp (.agg (ZIn.c ((p.getD s24.2.toNat default).getD s37.2.toNat default))) ty56 rfl rfl) (oA (EvA.al zs56 rfl rfl) (oN (EvN.asg (I s37.2) rfl) (oV (EvA.st (cs:=[I (((p.getD s24.2.toNat default).getD s37.2.toNat default).Op),I (((p.getD s24.2.toNat default).getD s37.2.toNat default).Loc),I (((p.getD s24.2.toNat default).getD s37.2.toNat default).Reg),I (((p.getD s24.2.toNat default).getD s37.2.toNat default).Val)]) ⟨0,4,56,[[I (((p.getD s24.2.toNat default).getD s37.2.toNat default).Op),I (((p.getD s24.2.toNat default).getD s37.2.toNat default).Loc),I (((p.getD s24.2.toNat default).getD s37.2.toNat default).Reg),I (((p.getD s24.2.toNat default).getD s37.2.toNat default).Val)]]⟩ ty56 rfl rfl rfl rfl rfl rfl rfl rfl rfl) (TO.nil (T.seq (T.region ?_)))))))
       refine oN (EvN.fahp Try.underlying56 rfl (by kernel_rfl) rfl) (oA (EvA.loadhp (I (((p.getD s24.2.toNat default).getD s37.2.toNat default).Op)) ty3 rfl rfl rfl rfl rfl rfl) (oN (EvN.ine rfl rfl) (TO.nil ?_)))
       refine T.cond rfl (fun q45 => ?_) (fun q45 => ?_)
       ·replace h := condT q45 h
        refine T.clean (H0:=[bE b40 u39 5 101 (s37.1.map ZEv.c),some ⟨0,4,56,[[I (((p.getD s24.2.toNat default).getD s37.2.toNat default).Op),I (((p.getD s24.2.toNat default).getD s37.2.toNat default).Loc),I (((p.getD s24.2.toNat default).getD s37.2.toNat default).Reg),I (((p.getD s24.2.toNat default).getD s37.2.toNat default).Val)]]⟩]) (e0:=envOf [(7,I s37.2),(8,.hp 1 0 4 0 0),(28,I s37.2),(27,I ((p.getD s24.2.toNat default).length : Int)),(26,eL ZIn.c (p.getD s24.2.toNat default)),(5,I s24.2),(21,I s24.2),(20,I (p.length : Int)),(19,eL (cL ZIn.c) p),(3,hS b40 0 u39 5 s37.1.length)]) rfl (wkC rfl (wkC rfl (wkC rfl (wkC rfl (wkC rfl (wkC rfl (wkC rfl (wkC rfl (wkC rfl (wkC rfl wkN)))))))))) (T.drawF (fun i => [([],false),([],false),([],false),([],false),([1],false),([1],false),([],false),([1],false),([],false),([],false),([],false),([0],true),([],false)].getD i ([],false)) (by kernel_rfl) (by kernel_rfl) (fN rfl (EvN.mv (hS b40 0 u39 5 s37.1.length) rfl) (fN rfl (EvN.mv (I s24.2) rfl) (fN rfl (EvN.mv (I s37.2) rfl) (fN rfl (EvN.fahp Try.underlying56 rfl (by kernel_rfl) rfl) (fR [1] rfl (fun G hG => EvA.loadhp (I (((p.getD s24.2.toNat default).getD s37.2.toNat default).Loc)) ty3 rfl (hG.a0 rfl) rfl rfl rfl rfl) (fR [1] rfl (fun G hG => EvA.loadhp (.agg [I (((p.getD s24.2.toNat default).getD s37.2.toNat default).Op),I (((p.getD s24.2.toNat default).getD s37.2.toNat default).Loc),I (((p.getD s24.2.toNat default).getD s37.2.toNat default).Reg),I (((p.getD s24.2.toNat default).getD s37.2.toNat default).Val)]) ty56 rfl (hG.a0 rfl) rfl rfl rfl rfl) ?_)))))))
        obtain ⟨v46,cv46,h⟩ := bindL h
        refine fN rfl (EvN.call rfl rfl rfl (F_impl_Instr_reads_P (⟨((p.getD s24.2.toNat default).getD s37.2.toNat default).Op,((p.getD s24.2.toNat default).getD s37.2.toNat default).Loc,((p.getD s24.2.toNat default).getD s37.2.toNat default).Reg,((p.getD s24.2.toNat default).getD s37.2.toNat default).Val⟩ : ZIn) cv46) rfl) (fR [1] rfl (fun G hG => EvA.loadhp (.agg [I (((p.getD s24.2.toNat default).getD s37.2.toNat default).Op),I (((p.getD s24.2.toNat default).getD s37.2.toNat default).Loc),I (((p.getD s24.2.toNat default).getD s37.2.toNat default).Reg),I (((p.getD s24.2.toNat default).getD s37.2.toNat default).Val)]) ty56 rfl (hG.a0 rfl) rfl rfl rfl rfl) ?_)
        obtain ⟨v47,cv47,h⟩ := bindL h
        refine fN rfl (EvN.call rfl rfl rfl (F_impl_Instr_writes_P (⟨((p.getD s24.2.toNat default).getD s37.2.toNat default).Op,((p.getD s24.2.toNat default).getD s37.2.toNat default).Loc,((p.getD s24.2.toNat default).getD s37.2.toNat default).Reg,((p.getD s24.2.toNat default).getD s37.2.toNat default).Val⟩ : ZIn) cv47) rfl) (fN rfl (EvN.build [I s24.2,I s37.2,I (((p.getD s24.2.toNat default).getD s37.2.toNat default).Loc),Bo v46,Bo v47] Try.underlying101 zs101 fs101 rfl rfl) (fN rfl (EvN.mkF (c:=ZEv.c) ([(⟨s24.2,s37.2,((p.getD s24.2.toNat default).getD s37.2.toNat default).Loc,v46,v47⟩ : ZEv)] : List ZEv) [[I s24.2,I s37.2,I (((p.getD s24.2.toNat default).getD s37.2.toNat default).Loc),Bo v46,Bo v47]] sl98 rfl rfl rfl (fun _ => rfl) ZEv.isF rfl) ?_))
        obtain ⟨g48,h⟩ := gdL h
        refine fW 0 [] rfl rfl (fun G hG => EvA.app1 (g:=b40) (l:=s37.1) (⟨s24.2,s37.2,((p.getD s24.2.toNat default).getD s37.2.toNat default).Loc,v46,v47⟩ : ZEv) sl98 (by kernel_rfl) rfl rfl (hG.a0 rfl) n41 (SrcOk.fz (l:=([(⟨s24.2,s37.2,((p.getD s24.2.toNat default).getD s37.2.toNat default).Loc,v46,v47⟩ : ZEv)] : List ZEv)) rfl (fun _ => rfl)) g48) (fN rfl (EvN.asg (hS false 0 (u39 + 1) 5 ((s37.1 ++ [(⟨s24.2,s37.2,((p.getD s24.2.toNat default).getD s37.2.toNat default).Loc,v46,v47⟩ : ZEv)]).length)) rfl) (TF.nil ?_))
        obtain rfl := osi h
        exact ⟨(false,u39 + 1),nofun,cutS rfl (.cons (.list (g:=false) (ver:=u39 + 1) (l:=(s37.1 ++ [(⟨s24.2,s37.2,((p.getD s24.2.toNat default).getD s37.2.toNat default).Loc,v46,v47⟩ : ZEv)])) ZEv.isF) .nil) (stl_cons (.hS (g:=false) (b:=0) (ver:=u39 + 1) (s:=5) (n:=(s37.1 ++ [(⟨s24.2,s37.2,((p.getD s24.2.toNat default).getD s37.2.toNat default).Loc,v46,v47⟩ : ZEv)]).length) rfl) (stl_cons (.fz (.of_isF 9 _ rfl)) (stl_cons (.fz (.of_isF 9 _ rfl)) (stl_cons (.fz (.of_isF 9 _ rfl)) (stl_cons (.fz (.of_isF 9 _ rfl)) (stl_cons (.fz (.of_isF 9 _ rfl)) (stl_cons (.fz (.of_isF 9 _ rfl)) (stl_cons (.fz (.of_isF 9 _ rfl)) stl_nil))))))))⟩
       ·replace h := condF q45 h
        refine T.skip ?_
        obtain rfl := osi h
        exact ⟨(b40,u39),n41,cutS rfl (.cons (.list (g:=b40) (ver:=u39) (l:=s37.1) ZEv.isF) .nil) (stl_cons (.hS (g:=b40) (b:=0) (ver:=u39) (s:=5) (n:=s37.1.length) rfl) (stl_cons (.fz (.of_isF 9 _ rfl)) (stl_cons (.fz (.of_isF 9 _ rfl)) (stl_cons (.fz (.of_isF 9 _ rfl)) (stl_cons (.fz (.of_isF 9 _ rfl)) (stl_cons (.fz (.of_isF 9 _ rfl)) (stl_cons (.fz (.of_isF 9 _ rfl)) (stl_cons (.fz (.of_isF 9 _ rfl)) stl_nil))))))))⟩
     ·replace h := condF q42 h
      refine T.exit ?_
      refine ⟨_,(osi h).symm,fun h => ?_⟩
      replace h := congrArg some h
      obtain rfl := osi h
      exact ⟨(b40,u39),n41,cutW rfl (wkC rfl (wkC rfl (wkC rfl (wkC rfl wkN))))⟩
   ·replace h := condF q29 h
    refine T.exit ?_
    refine ⟨_,(osi h).symm,fun h => ?_⟩
    replace h := congrArg some h
    obtain rfl := osi h
    exact ⟨(b27,u26),n28,cutW rfl (wkC rfl wkN)⟩
 ·clear ks1
  refine T.seq (T.region (oN (EvN.mv (I (0 : Int)) rfl) (TO.nil (T.block ?_))))
  refine T.loop (S:=(List ZEv) × Int) (G:=(Bool × Nat)) F_impl_events_L8 (fun s7 gh => (gh.1 = true -> s7.1 = [])) (fun s7 gh => [(9,I s7.2),(3,hS gh.1 0 gh.2 5 s7.1.length),(0,eL (cL ZIn.c) p)]) (fun s7 gh => [bE gh.1 gh.2 5 101 (s7.1.map ZEv.c)]) (s0:=(([] : List ZEv),(0 : Int))) (true,0) h (fun _ => rfl) (cutW rfl (wkC rfl (wkC rfl (wkC rfl wkN)))) (fun s7 gh ws7 h n11 => ?_)
  let d0 := (⟨(-1 : Int),s7.2,s7.2,false,true⟩ : ZEv)
  obtain ⟨b10,u9⟩ := gh
  refine T.seq (T.region (oN (EvN.ilt rfl rfl) (TO.nil (T.seq ?_))))
  refine T.cond rfl (fun q12 => ?_) (fun q12 => ?_)
  ·replace h := condT q12 h
   refine T.skip (T.seq (T.block (T.seq (T.region (oN (EvN.mv (I s7.2) rfl) (oN (EvN.asg (I s7.2) rfl) (TO.nil ?_)))))))
   refine T.region (oN (EvN.mv (hS b10 0 u9 5 s7.1.length) rfl) (oN (EvN.mv (I s7.2) rfl) (oN (EvN.mv (I s7.2) rfl) (oN (EvN.build [I (-1 : Int),I s7.2,I s7.2,Bo false,Bo true] Try.underlying101 zs101 fs101 rfl rfl) (oN (EvN.mkF (c:=ZEv.c) ([d0] : List ZEv) [[I (-1 : Int),I s7.2,I s7.2,Bo false,Bo true]] sl98 rfl rfl rfl (fun _ => rfl) ZEv.isF rfl) ?_)))))
   obtain ⟨g13,h⟩ := gdL h
   refine oA (EvA.app1 (g:=b10) (l:=s7.1) d0 sl98 (by kernel_rfl) rfl rfl rfl n11 (SrcOk.fz (l:=([d0] : List ZEv)) rfl (fun _ => rfl)) g13) (oN (EvN.asg (hS false 0 (u9 + 1) 5 ((s7.1 ++ [d0]).length)) rfl) (TO.nil (T.clean (H0:=[bE false (u9 + 1) 5 101 ((s7.1 ++ [d0]).map ZEv.c)]) (e0:=envOf [(3,hS false 0 (u9 + 1) 5 ((s7.1 ++ [d0]).length)),(9,I s7.2),(0,eL (cL ZIn.c) p)]) rfl (wkC rfl (wkC rfl (wkC rfl wkN))) (T.region ?_))))
   obtain ⟨g14,h⟩ := gdW h
   refine oN (EvN.add rfl rfl g14) (oN (EvN.mv (I (s7.2 + (1 : Int))) rfl) (TO.nil ?_))
   obtain rfl := osi h
   exact ⟨((s7.1 ++ [d0]),(s7.2 + (1 : Int))),(false,u9 + 1),rfl,nofun,cutW rfl (wkC rfl (wkC rfl (wkC rfl wkN)))⟩
  ·replace h := condF q12 h
   refine T.exit ?_
   refine ⟨_,(osi h).symm,fun h => ?_⟩
   replace h := congrArg some h
   obtain rfl := osi h
   exact ⟨(b10,u9),n11,cutW rfl (wkC rfl (wkC rfl wkN))⟩
theorem F_math_bits_Mul64_P (x : Int) (y : Int) {q : Int × Int} (h : F_math_bits_Mul64 x y = some q) : PCall Try.prog 180 [.v (.int .u64 x),.v (.int .u64 y)] (.tup [.v (.int .u64 q.1),.v (.int .u64 q.2)]) := by
 refine PCall.mkT Try.func180 rfl (by kernel_rfl) rfl (by kernel_rfl) (e0:=envOf [(0,.v (.int .u64 x)),(1,.v (.int .u64 y))]) (wkC rfl (wkC rfl wkN)) (T.seq (T.region (oN (EvN.asg (.v (.int .u64 (0 : Int))) rfl) (oN (EvN.asg (.v (.int .u64 (0 : Int))) rfl) (TO.nil (T.seq (T.region ?_)))))))
 refine oN (EvN.mv (.v (.int .u64 x)) rfl) (oN (EvN.band rfl rfl) (oN (EvN.asg (.v (.int .u64 (bAnd .u64 x (4294967295 : Int)))) rfl) (TO.nil (T.seq (T.region (oN (EvN.mv (.v (.int .u64 x)) rfl) ?_))))))
 obtain ⟨g1,h⟩ := gdD h
 refine oN (EvN.shr rfl rfl g1) (oN (EvN.asg (.v (.int .u64 (bShr .u64 x (32 : Int)))) rfl) (TO.nil (T.seq (T.clean (H0:=[]) (e0:=envOf [(7,.v (.int .u64 (bShr .u64 x (32 : Int)))),(6,.v (.int .u64 (bAnd .u64 x (4294967295 : Int)))),(0,.v (.int .u64 x)),(1,.v (.int .u64 y))]) rfl (wkC rfl (wkC rfl (wkC rfl (wkC rfl wkN)))) (T.region (oN (EvN.mv (.v (.int .u64 y)) rfl) (oN (EvN.band rfl rfl) ?_)))))))
 refine oN (EvN.asg (.v (.int .u64 (bAnd .u64 y (4294967295 : Int)))) rfl) (TO.nil (T.seq (T.region (oN (EvN.mv (.v (.int .u64 y)) rfl) (oN (EvN.shr rfl rfl g1) (oN (EvN.asg (.v (.int .u64 (bShr .u64 y (32 : Int)))) rfl) (TO.nil ?_)))))))
 refine T.seq (T.region (oN (EvN.mv (.v (.int .u64 (bAnd .u64 x (4294967295 : Int)))) rfl) (oN (EvN.mv (.v (.int .u64 (bAnd .u64 y (4294967295 : Int)))) rfl) ?_)))
 obtain ⟨g2,h⟩ := gdW h
 refine oN (EvN.mul rfl rfl g2) (oN (EvN.asg (.v (.int .u64 ((bAnd .u64 x (4294967295 : Int)) * (bAnd .u64 y (4294967295 : Int))))) rfl) (TO.nil (T.seq (T.clean (H0:=[]) (e0:=envOf [(10,.v (.int .u64 ((bAnd .u64 x (4294967295 : Int)) * (bAnd .u64 y (4294967295 : Int))))),(9,.v (.int .u64 (bShr .u64 y (32 : Int)))),(8,.v (.int .u64 (bAnd .u64 y (4294967295 : Int)))),(7,.v (.int .u64 (bShr .u64 x (32 : Int)))),(6,.v (.int .u64 (bAnd .u64 x (4294967295 : Int)))),(0,.v (.int .u64 x)),(1,.v (.int .u64 y))]) rfl (wkC rfl (wkC rfl (wkC rfl (wkC rfl (wkC rfl (wkC rfl (wkC rfl wkN))))))) (T.region (oN (EvN.mv (.v (.int .u64 (bShr .u64 x (32 : Int)))) rfl) (oN (EvN.mv (.v (.int .u64 (bAnd .u64 y (4294967295 : Int)))) rfl) ?_)))))))
 obtain ⟨g3,h⟩ := gdW h
 refine oN (EvN.mul rfl rfl g3) (oN (EvN.mv (.v (.int .u64 ((bAnd .u64 x (4294967295 : Int)) * (bAnd .u64 y (4294967295 : Int))))) rfl) (oN (EvN.shr rfl rfl g1) ?_))
 obtain ⟨g4,h⟩ := gdW h
 refine oN (EvN.add rfl rfl g4) (oN (EvN.asg (.v (.int .u64 (((bShr .u64 x (32 : Int)) * (bAnd .u64 y (4294967295 : Int))) + (bShr .u64 ((bAnd .u64 x (4294967295 : Int)) * (bAnd .u64 y (4294967295 : Int))) (32 : Int))))) rfl) (TO.nil (T.seq (T.clean (H0:=[]) (e0:=envOf [(11,.v (.int .u64 (((bShr .u64 x (32 : Int)) * (bAnd .u64 y (4294967295 : Int))) + (bShr .u64 ((bAnd .u64 x (4294967295 : Int)) * (bAnd .u64 y (4294967295 : Int))) (32 : Int))))),(9,.v (.int .u64 (bShr .u64 y (32 : Int)))),(7,.v (.int .u64 (bShr .u64 x (32 : Int)))),(6,.v (.int .u64 (bAnd .u64 x (4294967295 : Int)))),(0,.v (.int .u64 x)),(1,.v (.int .u64 y))]) rfl (wkC rfl (wkC rfl (wkC rfl (wkC rfl (wkC rfl (wkC rfl wkN)))))) (T.region (oN (EvN.mv (.v (.int .u64 (((bShr .u64 x (32 : Int)) * (bAnd .u64 y (4294967295 : Int))) + (bShr .u64 ((bAnd .u64 x (4294967295 : Int)) * (bAnd .u64 y (4294967295 : Int))) (32 : Int))))) rfl) (oN (EvN.band rfl rfl) ?_)))))))
 refine oN (EvN.asg (.v (.int .u64 (bAnd .u64 (((bShr .u64 x (32 : Int)) * (bAnd .u64 y (4294967295 : Int))) + (bShr .u64 ((bAnd .u64 x (4294967295 : Int)) * (bAnd .u64 y (4294967295 : Int))) (32 : Int))) (4294967295 : Int)))) rfl) (TO.nil (T.seq (T.region (oN (EvN.mv (.v (.int .u64 (((bShr .u64 x (32 : Int)) * (bAnd .u64 y (4294967295 : Int))) + (bShr .u64 ((bAnd .u64 x (4294967295 : Int)) * (bAnd .u64 y (4294967295 : Int))) (32 : Int))))) rfl) (oN (EvN.shr rfl rfl g1) (oN (EvN.asg (.v (.int .u64 (bShr .u64 (((bShr .u64 x (32 : Int)) * (bAnd .u64 y (4294967295 : Int))) + (bShr .u64 ((bAnd .u64 x (4294967295 : Int)) * (bAnd .u64 y (4294967295 : Int))) (32 : Int))) (32 : Int)))) rfl) (TO.nil ?_)))))))
 refine T.seq (T.region (oN (EvN.mv (.v (.int .u64 (bAnd .u64 (((bShr .u64 x (32 : Int)) * (bAnd .u64 y (4294967295 : Int))) + (bShr .u64 ((bAnd .u64 x (4294967295 : Int)) * (bAnd .u64 y (4294967295 : Int))) (32 : Int))) (4294967295 : Int)))) rfl) (oN (EvN.mv (.v (.int .u64 (bAnd .u64 x (4294967295 : Int)))) rfl) (oN (EvN.mv (.v (.int .u64 (bShr .u64 y (32 : Int)))) rfl) ?_))))
 obtain ⟨g5,h⟩ := gdW h
 refine oN (EvN.mul rfl rfl g5) ?_
 obtain ⟨g6,h⟩ := gdW h
 refine oN (EvN.add rfl rfl g6) (oN (EvN.asg (.v (.int .u64 ((bAnd .u64 (((bShr .u64 x (32 : Int)) * (bAnd .u64 y (4294967295 : Int))) + (bShr .u64 ((bAnd .u64 x (4294967295 : Int)) * (bAnd .u64 y (4294967295 : Int))) (32 : Int))) (4294967295 : Int)) + ((bAnd .u64 x (4294967295 : Int)) * (bShr .u64 y (32 : Int)))))) rfl) (TO.nil (T.seq (T.clean (H0:=[]) (e0:=envOf [(12,.v (.int .u64 ((bAnd .u64 (((bShr .u64 x (32 : Int)) * (bAnd .u64 y (4294967295 : Int))) + (bShr .u64 ((bAnd .u64 x (4294967295 : Int)) * (bAnd .u64 y (4294967295 : Int))) (32 : Int))) (4294967295 : Int)) + ((bAnd .u64 x (4294967295 : Int)) * (bShr .u64 y (32 : Int)))))),(13,.v (.int .u64 (bShr .u64 (((bShr .u64 x (32 : Int)) * (bAnd .u64 y (4294967295 : Int))) + (bShr .u64 ((bAnd .u64 x (4294967295 : Int)) * (bAnd .u64 y (4294967295 : Int))) (32 : Int))) (32 : Int)))),(9,.v (.int .u64 (bShr .u64 y (32 : Int)))),(7,.v (.int .u64 (bShr .u64 x (32 : Int)))),(0,.v (.int .u64 x)),(1,.v (.int .u64 y))]) rfl (wkC rfl (wkC rfl (wkC rfl (wkC rfl (wkC rfl (wkC rfl wkN)))))) (T.region (oN (EvN.mv (.v (.int .u64 (bShr .u64 x (32 : Int)))) rfl) (oN (EvN.mv (.v (.int .u64 (bShr .u64 y (32 : Int)))) rfl) ?_)))))))
 obtain ⟨g7,h⟩ := gdW h
 refine oN (EvN.mul rfl rfl g7) (oN (EvN.mv (.v (.int .u64 (bShr .u64 (((bShr .u64 x (32 : Int)) * (bAnd .u64 y (4294967295 : Int))) + (bShr .u64 ((bAnd .u64 x (4294967295 : Int)) * (bAnd .u64 y (4294967295 : Int))) (32 : Int))) (32 : Int)))) rfl) ?_)
 obtain ⟨g8,h⟩ := gdW h
 refine oN (EvN.add rfl rfl g8) (oN (EvN.mv (.v (.int .u64 ((bAnd .u64 (((bShr .u64 x (32 : Int)) * (bAnd .u64 y (4294967295 : Int))) + (bShr .u64 ((bAnd .u64 x (4294967295 : Int)) * (bAnd .u64 y (4294967295 : Int))) (32 : Int))) (4294967295 : Int)) + ((bAnd .u64 x (4294967295 : Int)) * (bShr .u64 y (32 : Int)))))) rfl) (oN (EvN.shr rfl rfl g1) ?_))
 obtain ⟨g9,h⟩ := gdW h
 refine oN (EvN.add rfl rfl g9) (oN (EvN.asg (.v (.int .u64 ((((bShr .u64 x (32 : Int)) * (bShr .u64 y (32 : Int))) + (bShr .u64 (((bShr .u64 x (32 : Int)) * (bAnd .u64 y (4294967295 : Int))) + (bShr .u64 ((bAnd .u64 x (4294967295 : Int)) * (bAnd .u64 y (4294967295 : Int))) (32 : Int))) (32 : Int))) + (bShr .u64 ((bAnd .u64 (((bShr .u64 x (32 : Int)) * (bAnd .u64 y (4294967295 : Int))) + (bShr .u64 ((bAnd .u64 x (4294967295 : Int)) * (bAnd .u64 y (4294967295 : Int))) (32 : Int))) (4294967295 : Int)) + ((bAnd .u64 x (4294967295 : Int)) * (bShr .u64 y (32 : Int)))) (32 : Int))))) rfl) (TO.nil (T.seq (T.clean (H0:=[]) (e0:=envOf [(4,.v (.int .u64 ((((bShr .u64 x (32 : Int)) * (bShr .u64 y (32 : Int))) + (bShr .u64 (((bShr .u64 x (32 : Int)) * (bAnd .u64 y (4294967295 : Int))) + (bShr .u64 ((bAnd .u64 x (4294967295 : Int)) * (bAnd .u64 y (4294967295 : Int))) (32 : Int))) (32 : Int))) + (bShr .u64 ((bAnd .u64 (((bShr .u64 x (32 : Int)) * (bAnd .u64 y (4294967295 : Int))) + (bShr .u64 ((bAnd .u64 x (4294967295 : Int)) * (bAnd .u64 y (4294967295 : Int))) (32 : Int))) (4294967295 : Int)) + ((bAnd .u64 x (4294967295 : Int)) * (bShr .u64 y (32 : Int)))) (32 : Int))))),(0,.v (.int .u64 x)),(1,.v (.int .u64 y))]) rfl (wkC rfl (wkC rfl (wkC rfl wkN))) (T.region (oN (EvN.mv (.v (.int .u64 x)) rfl) (oN (EvN.mv (.v (.int .u64 y)) rfl) ?_)))))))
 obtain ⟨g10,h⟩ := gdW h
 refine oN (EvN.mul rfl rfl g10) (oN (EvN.asg (.v (.int .u64 (x * y))) rfl) (TO.nil (T.ret ?_)))
 obtain rfl := osi h
 repeat (first|refine retS ?_|refine retB ?_)
 exact Fin.ret (vs:=[.v (.int .u64 ((((bShr .u64 x (32 : Int)) * (bShr .u64 y (32 : Int))) + (bShr .u64 (((bShr .u64 x (32 : Int)) * (bAnd .u64 y (4294967295 : Int))) + (bShr .u64 ((bAnd .u64 x (4294967295 : Int)) * (bAnd .u64 y (4294967295 : Int))) (32 : Int))) (32 : Int))) + (bShr .u64 ((bAnd .u64 (((bShr .u64 x (32 : Int)) * (bAnd .u64 y (4294967295 : Int))) + (bShr .u64 ((bAnd .u64 x (4294967295 : Int)) * (bAnd .u64 y (4294967295 : Int))) (32 : Int))) (4294967295 : Int)) + ((bAnd .u64 x (4294967295 : Int)) * (bShr .u64 y (32 : Int)))) (32 : Int)))),.v (.int .u64 (x * y))]) (.cons (.tmp rfl) (.cons (.tmp rfl) .nil)) (.tupL (.cons (.of_isF 9 _ rfl) (.cons (.of_isF 9 _ rfl) .nil)))
theorem F_math_bits_Mul_P (x : Int) (y : Int) {q : Int × Int} (h : F_math_bits_Mul x y = some q) : PCall Try.prog 155 [.v (.int .u64 x),.v (.int .u64 y)] (.tup [.v (.int .u64 q.1),.v (.int .u64 q.2)]) := by
 refine PCall.mkT Try.func155 rfl (by kernel_rfl) rfl (by kernel_rfl) (e0:=envOf [(0,.v (.int .u64 x)),(1,.v (.int .u64 y))]) (wkC rfl (wkC rfl wkN)) (T.seq (T.region (oN (EvN.asg (.v (.int .u64 (0 : Int))) rfl) (oN (EvN.asg (.v (.int .u64 (0 : Int))) rfl) (TO.nil (T.seq ?_))))))
 refine T.cond rfl (fun q => absurd (q.symm.trans rfl) (by decide)) (fun _ => ?_)
 refine T.skip (T.seq (T.region (oN (EvN.mv (.v (.int .u64 x)) rfl) (oN (EvN.mv (.v (.int .u64 y)) rfl) ?_))))
 obtain ⟨v1,cv1,h⟩ := bindL h
 refine oN (EvN.call rfl rfl rfl (F_math_bits_Mul64_P x y cv1) rfl) (oN (EvN.mv (.tup [.v (.int .u64 v1.1),.v (.int .u64 v1.2)]) rfl) (oN (EvN.ext (.v (.int .u64 v1.1)) rfl rfl) (oN (EvN.ext (.v (.int .u64 v1.2)) rfl rfl) (oN (EvN.asg (.v (.int .u64 v1.1)) rfl) (oN (EvN.asg (.v (.int .u64 v1.2)) rfl) (TO.nil (T.seq ?_)))))))
 refine T.clean (H0:=[]) (e0:=envOf [(9,.v (.int .u64 v1.2)),(8,.v (.int .u64 v1.1))]) rfl (wkC rfl (wkC rfl wkN)) (T.region (oN (EvN.mv (.v (.int .u64 v1.1)) rfl) (oN (EvN.mv (.v (.int .u64 v1.2)) rfl) (oN (EvN.asg (.v (.int .u64 v1.1)) rfl) (oN (EvN.asg (.v (.int .u64 v1.2)) rfl) (TO.nil (T.ret ?_)))))))
 obtain rfl := osi h
 repeat (first|refine retS ?_|refine retB ?_)
 exact Fin.ret (vs:=[.v (.int .u64 v1.1),.v (.int .u64 v1.2)]) (.cons (.tmp rfl) (.cons (.tmp rfl) .nil)) (.tupL (.cons (.of_isF 9 _ rfl) (.cons (.of_isF 9 _ rfl) .nil)))
theorem F_slices_Repeat_int_int_P (x : List Int) (count : Int) {q : (List Int)} (h : F_slices_Repeat_int_int x count = some q) : PCall Try.prog 121 [eL cI x,I count] (eL cI q) := by
 refine PCall.mkT Try.func121 rfl (by kernel_rfl) rfl (by kernel_rfl) (e0:=envOf [(0,eL cI x),(1,I count)]) (wkC rfl (wkC rfl wkN)) (T.seq (T.region (oN (EvN.asg (.nil) rfl) (TO.nil ?_))))
 obtain ⟨s1,h,ks1⟩ := bindL h
 refine T.joinF (G:=Unit) (fun gh => True) (fun gh => [(0,eL cI x),(1,I count)]) (fun gh => []) (fun gh hg => ?_) ?_
 ·clear h
  have h := ks1
  clear ks1
  refine T.seq (T.region (oN (EvN.mv (eL cI x) rfl) (oN (EvN.lenL sl23 rfl) ?_)))
  obtain ⟨g3,h⟩ := gdW h
  refine oN (EvN.iconv ty3.und Try.underlying168 rfl g3) (oN (EvN.mv (I count) rfl) ?_)
  obtain ⟨g4,h⟩ := gdW h
  refine oN (EvN.iconv ty3.und Try.underlying168 rfl g4) ?_
  obtain ⟨v5,cv5,h⟩ := bindL h
  let d0 := (List.replicate v5.2.toNat (default : Int))
  refine oN (EvN.call rfl rfl rfl (F_math_bits_Mul_P (x.length : Int) count cv5) rfl) (oN (EvN.mv (.tup [.v (.int .u64 v5.1),.v (.int .u64 v5.2)]) rfl) (oN (EvN.ext (.v (.int .u64 v5.1)) rfl rfl) (oN (EvN.ext (.v (.int .u64 v5.2)) rfl rfl) (oN (EvN.asg (.v (.int .u64 v5.1)) rfl) (oN (EvN.asg (.v (.int .u64 v5.2)) rfl) (TO.nil ?_))))))
  obtain ⟨s6,h,ks6⟩ := bindL h
  refine T.joinF (G:=Unit) (fun gh => True) (fun gh => [(6,.v (.int .u64 v5.2)),(0,eL cI x)]) (fun gh => []) (fun gh hg => ?_) ?_
  ·clear h
   have h := ks6
   clear ks6
   refine T.seq (T.region (oN (EvN.mv (.v (.int .u64 v5.2)) rfl) ?_))
   obtain ⟨g10,h⟩ := gdW h
   refine oN (EvN.iconv ty168.und Try.underlying3 rfl g10) ?_
   obtain ⟨g11,h⟩ := gdD h
   refine oA (EvA.mkN (c:=cI) (default : Int) sl23 rfl rfl g11 rfl rfl rfl) (oN (EvN.asg (hS false 0 0 1 (d0.length)) rfl) (TO.nil (T.seq (T.region (oN (EvN.mv (hS false 0 0 1 (d0.length)) rfl) (oN (EvN.mv (eL cI x) rfl) (oA (EvA.copyO (l:=d0) x sl23 rfl rfl (show 0 + d0.length <= d0.length by simp) (SrcN.el rfl (fun _ => rfl))) ?_)))))))
   refine oN (EvN.asg (I ((min x.length (d0.length) : Nat) : Int)) rfl) (TO.nil ?_)
   obtain ⟨s12,h,ks12⟩ := bindL h
   refine T.joinF (G:=Nat) (fun gh => True) (fun gh => [(7,hS false 0 gh 1 s12.length)]) (fun gh => [bE false gh 1 3 (s12.map cI)]) (fun u23 hg => ?_) ?_
   ·clear h
    have h := ks12
    clear ks12
    refine T.seq (T.region (oN (EvN.mv (hS false 0 u23 1 s12.length) rfl) (oN (EvN.asg (hS false 0 u23 1 s12.length) rfl) (TO.nil (T.ret ?_)))))
    obtain rfl := osi h
    repeat (first|refine retS ?_|refine retB ?_)
    exact Fin.ret (vs:=[hS false 0 u23 1 s12.length]) (.cons (.tmp rfl) .nil) (Fz.own (g:=false) (ver:=u23) (l:=s12) rfl rfl rfl nofun (fun _ => rfl))
   ·clear ks12
    refine T.block ?_
    refine T.loop (S:=(List Int) × Int) (G:=Nat) F_slices_Repeat_int_int_L17 (fun s16 gh => True) (fun s16 gh => [(8,I s16.2),(7,hS false 0 gh 1 s16.1.length)]) (fun s16 gh => [bE false gh 1 3 (s16.1.map cI)]) (s0:=((cpy d0 0 x (d0.length)),((min x.length (d0.length) : Nat) : Int))) 0 h trivial (cutW rfl (wkC rfl (wkC (congrArg (hS false 0 0 1) (by simp [cpy_length] : d0.length = (cpy d0 0 x (d0.length)).length)) wkN))) (fun s16 u18 ws16 h hg => ?_)
    refine T.seq (T.seq (T.region (oN (EvN.mv (I s16.2) rfl) (oN (EvN.mv (hS false 0 u18 1 s16.1.length) rfl) (oN (EvN.lenO (g:=false) sl23 rfl nofun) (oN (EvN.ilt rfl rfl) (TO.nil ?_)))))))
    refine T.cond rfl (fun q19 => ?_) (fun q19 => ?_)
    ·replace h := condT q19 h
     refine T.skip (T.block (T.drawF (fun i => [([],false),([],false),([],false),([],false),([],false),([],false),([],false),([0],true),([],false),([],false)].getD i ([],false)) (by kernel_rfl) (by kernel_rfl) (fN rfl (EvN.mv (I s16.2) rfl) (fN rfl (EvN.mv (hS false 0 u18 1 s16.1.length) rfl) (fN rfl (EvN.mv (I s16.2) rfl) ?_)))))
     obtain ⟨g20,h⟩ := gdD h
     refine fN rfl (EvN.slhs Try.underlying23 ty3 (l:=s16.2) (h:=(s16.1.length : Int)) rfl (.yes rfl) .no g20) (fN rfl (EvN.mv (hS false 0 u18 1 s16.1.length) rfl) (fN rfl (EvN.mv (I s16.2) rfl) ?_))
     obtain ⟨g21,h⟩ := gdD h
     refine fN rfl (EvN.slhs Try.underlying23 ty3 (l:=(0 : Int)) (h:=s16.2) rfl .no (.yes rfl) g21) (fW 0 [] rfl rfl (fun G hG => EvA.copyO (l:=s16.1) ((s16.1.drop (0 + (0 : Int).toNat)).take (s16.2.toNat - (0 : Int).toNat)) sl23 rfl (hG.a0 rfl) (osl_le (l:=s16.1) g20 rfl) (SrcN.ow (l:=s16.1) (0 + (0 : Int).toNat) (s16.2.toNat - (0 : Int).toNat) rfl (hG.a0 rfl) (osl_le (l:=s16.1) g21 rfl))) ?_)
     obtain ⟨g22,h⟩ := gdW h
     refine fN rfl (EvN.add rfl rfl g22) (fN rfl (EvN.asg (I (s16.2 + ((min ((s16.1.drop (0 + (0 : Int).toNat)).take (s16.2.toNat - (0 : Int).toNat)).length ((s16.1.length : Int).toNat - s16.2.toNat) : Nat) : Int))) rfl) (TF.nil ?_))
     obtain rfl := osi h
     exact ⟨((cpy s16.1 (0 + s16.2.toNat) ((s16.1.drop (0 + (0 : Int).toNat)).take (s16.2.toNat - (0 : Int).toNat)) ((s16.1.length : Int).toNat - s16.2.toNat)),(s16.2 + ((min ((s16.1.drop (0 + (0 : Int).toNat)).take (s16.2.toNat - (0 : Int).toNat)).length ((s16.1.length : Int).toNat - s16.2.toNat) : Nat) : Int))),u18,rfl,trivial,cutW rfl (wkC rfl (wkC (congrArg (hS false 0 u18 1) (by simp [cpy_length] : s16.1.length = (cpy s16.1 (0 + s16.2.toNat) ((s16.1.drop (0 + (0 : Int).toNat)).take (s16.2.toNat - (0 : Int).toNat)) ((s16.1.length : Int).toNat - s16.2.toNat)).length)) wkN))⟩
    ·replace h := condF q19 h
     refine T.exit ?_
     refine ⟨_,(osi h).symm,fun h => ?_⟩
     replace h := congrArg some h
     obtain rfl := osi h
     exact ⟨u18,trivial,cutW rfl (wkC rfl wkN)⟩
  ·clear ks6
   refine T.seq (T.clean (H0:=[]) (e0:=envOf [(6,.v (.int .u64 v5.2)),(5,.v (.int .u64 v5.1)),(0,eL cI x)]) rfl (wkC rfl (wkC rfl (wkC rfl wkN))) (T.region (oN (EvN.mv (.v (.int .u64 v5.1)) rfl) (oN (EvN.igt rfl rfl) (oN (EvN.mv (Bo (decide ((0 : Int) < v5.1))) rfl) ?_)))))
   obtain ⟨s7,h,ks7⟩ := bindL h
   refine TO.joinF (G:=Unit) 3 (fun _ => True) (fun _ => [(26,Bo s7),(6,.v (.int .u64 v5.2)),(0,eL cI x)]) (fun _ => []) ?_ (fun js7 => ?_)
   rotate_left
   ·clear ks7
    rcases bifL h with ⟨q8,h⟩ | ⟨q8,h⟩
    ·refine gS rfl q8 (gS rfl q8 (oN (EvN.pickT rfl q8 (Bo true) rfl) ?_))
     obtain rfl := osi h
     exact js7 _ _ ⟨(),trivial,cutW rfl (wkC rfl (wkC rfl (wkC rfl wkN)))⟩
    ·refine gN rfl q8 (EvN.mv (.v (.int .u64 v5.2)) rfl) (gN rfl q8 (EvN.igt rfl rfl) (oN (EvN.pickF rfl q8 (Bo (decide ((9223372036854775807 : Int) < v5.2))) rfl) ?_))
     obtain rfl := osi h
     exact js7 _ _ ⟨(),trivial,cutW rfl (wkC rfl (wkC rfl (wkC rfl wkN)))⟩
   ·intro _ _
    replace h := ks7
    clear ks7
    refine TO.nil ?_
    refine T.cond rfl (fun q9 => ?_) (fun q9 => ?_)
    ·replace h := condT q9 h
     cases h
    ·replace h := condF q9 h
     refine T.skip ?_
     obtain rfl := osi h
     exact ⟨(),trivial,cutW rfl (wkC rfl (wkC rfl wkN))⟩
 ·clear ks1
  refine T.seq (T.region (oN (EvN.mv (I count) rfl) (oN (EvN.ilt rfl rfl) (TO.nil ?_))))
  refine T.cond rfl (fun q2 => ?_) (fun q2 => ?_)
  ·replace h := condT q2 h
   cases h
  ·replace h := condF q2 h
   refine T.skip ?_
   obtain rfl := osi h
   exact ⟨(),trivial,cutW rfl (wkC rfl (wkC rfl wkN))⟩
theorem F_slices_Repeat_int_int_OP (x : List Int) (count : Int) {q : (List Int)} (h : F_slices_Repeat_int_int x count = some q) : BCall Try.prog 121 [eL cI x,I count] [] (OwnR 1 3 (fun x => x) q.length (q.map cI) 0 []) := by
 refine BCall.mkO Try.func121 rfl (by kernel_rfl) rfl (by kernel_rfl) (e0:=envOf [(0,eL cI x),(1,I count)]) (wkC rfl (wkC rfl wkN)) ren_id (rowsM (fun _ => rfl)) (T.seq (T.region (oN (EvN.asg (.nil) rfl) (TO.nil ?_))))
 obtain ⟨s1,h,ks1⟩ := bindL h
 refine T.joinF (G:=Unit) (fun gh => True) (fun gh => [(0,eL cI x),(1,I count)]) (fun gh => []) (fun gh hg => ?_) ?_
 ·clear h
  have h := ks1
  clear ks1
  refine T.seq (T.region (oN (EvN.mv (eL cI x) rfl) (oN (EvN.lenL sl23 rfl) ?_)))
  obtain ⟨g3,h⟩ := gdW h
  refine oN (EvN.iconv ty3.und Try.underlying168 rfl g3) (oN (EvN.mv (I count) rfl) ?_)
  obtain ⟨g4,h⟩ := gdW h
  refine oN (EvN.iconv ty3.und Try.underlying168 rfl g4) ?_
  obtain ⟨v5,cv5,h⟩ := bindL h
  let d0 := (List.replicate v5.2.toNat (default : Int))
  refine oN (EvN.call rfl rfl rfl (F_math_bits_Mul_P (x.length : Int) count cv5) rfl) (oN (EvN.mv (.tup [.v (.int .u64 v5.1),.v (.int .u64 v5.2)]) rfl) (oN (EvN.ext (.v (.int .u64 v5.1)) rfl rfl) (oN (EvN.ext (.v (.int .u64 v5.2)) rfl rfl) (oN (EvN.asg (.v (.int .u64 v5.1)) rfl) (oN (EvN.asg (.v (.int .u64 v5.2)) rfl) (TO.nil ?_))))))
  obtain ⟨s6,h,ks6⟩ := bindL h
  refine T.joinF (G:=Unit) (fun gh => True) (fun gh => [(6,.v (.int .u64 v5.2)),(0,eL cI x)]) (fun gh => []) (fun gh hg => ?_) ?_
  ·clear h
   have h := ks6
   clear ks6
   refine T.seq (T.region (oN (EvN.mv (.v (.int .u64 v5.2)) rfl) ?_))
   obtain ⟨g10,h⟩ := gdW h
   refine oN (EvN.iconv ty168.und Try.underlying3 rfl g10) ?_
   obtain ⟨g11,h⟩ := gdD h
   refine oA (EvA.mkN (c:=cI) (default : Int) sl23 rfl rfl g11 rfl rfl rfl) (oN (EvN.asg (hS false 0 0 1 (d0.length)) rfl) (TO.nil (T.seq (T.region (oN (EvN.mv (hS false 0 0 1 (d0.length)) rfl) (oN (EvN.mv (eL cI x) rfl) (oA (EvA.copyO (l:=d0) x sl23 rfl rfl (show 0 + d0.length <= d0.length by simp) (SrcN.el rfl (fun _ => rfl))) ?_)))))))
   refine oN (EvN.asg (I ((min x.length (d0.length) : Nat) : Int)) rfl) (TO.nil ?_)
   obtain ⟨s12,h,ks12⟩ := bindL h
   refine T.joinF (G:=Nat) (fun gh => True) (fun gh => [(7,hS false 0 gh 1 s12.length)]) (fun gh => [bE false gh 1 3 (s12.map cI)]) (fun u23 hg => ?_) ?_
   ·clear h
    have h := ks12
    clear ks12
    refine T.seq (T.region (oN (EvN.mv (hS false 0 u23 1 s12.length) rfl) (oN (EvN.asg (hS false 0 u23 1 s12.length) rfl) (TO.nil (T.ret ?_)))))
    obtain rfl := osi h
    repeat (first|refine retS ?_|refine retB ?_)
    exact Fin.ret (vs:=[hS false 0 u23 1 s12.length]) (.cons (.tmp rfl) .nil) ⟨0,false,u23,nofun,rfl,ownB rfl⟩
   ·clear ks12
    refine T.block ?_
    refine T.loop (S:=(List Int) × Int) (G:=Nat) F_slices_Repeat_int_int_L17 (fun s16 gh => True) (fun s16 gh => [(8,I s16.2),(7,hS false 0 gh 1 s16.1.length)]) (fun s16 gh => [bE false gh 1 3 (s16.1.map cI)]) (s0:=((cpy d0 0 x (d0.length)),((min x.length (d0.length) : Nat) : Int))) 0 h trivial (cutW rfl (wkC rfl (wkC (congrArg (hS false 0 0 1) (by simp [cpy_length] : d0.length = (cpy d0 0 x (d0.length)).length)) wkN))) (fun s16 u18 ws16 h hg => ?_)
    refine T.seq (T.seq (T.region (oN (EvN.mv (I s16.2) rfl) (oN (EvN.mv (hS false 0 u18 1 s16.1.length) rfl) (oN (EvN.lenO (g:=false) sl23 rfl nofun) (oN (EvN.ilt rfl rfl) (TO.nil ?_)))))))
    refine T.cond rfl (fun q19 => ?_) (fun q19 => ?_)
    ·replace h := condT q19 h
     refine T.skip (T.block (T.drawF (fun i => [([],false),([],false),([],false),([],false),([],false),([],false),([],false),([0],true),([],false),([],false)].getD i ([],false)) (by kernel_rfl) (by kernel_rfl) (fN rfl (EvN.mv (I s16.2) rfl) (fN rfl (EvN.mv (hS false 0 u18 1 s16.1.length) rfl) (fN rfl (EvN.mv (I s16.2) rfl) ?_)))))
     obtain ⟨g20,h⟩ := gdD h
     refine fN rfl (EvN.slhs Try.underlying23 ty3 (l:=s16.2) (h:=(s16.1.length : Int)) rfl (.yes rfl) .no g20) (fN rfl (EvN.mv (hS false 0 u18 1 s16.1.length) rfl) (fN rfl (EvN.mv (I s16.2) rfl) ?_))
     obtain ⟨g21,h⟩ := gdD h
     refine fN rfl (EvN.slhs Try.underlying23 ty3 (l:=(0 : Int)) (h:=s16.2) rfl .no (.yes rfl) g21) (fW 0 [] rfl rfl (fun G hG => EvA.copyO (l:=s16.1) ((s16.1.drop (0 + (0 : Int).toNat)).take (s16.2.toNat - (0 : Int).toNat)) sl23 rfl (hG.a0 rfl) (osl_le (l:=s16.1) g20 rfl) (SrcN.ow (l:=s16.1) (0 + (0 : Int).toNat) (s16.2.toNat - (0 : Int).toNat) rfl (hG.a0 rfl) (osl_le (l:=s16.1) g21 rfl))) ?_)
     obtain ⟨g22,h⟩ := gdW h
     refine fN rfl (EvN.add rfl rfl g22) (fN rfl (EvN.asg (I (s16.2 + ((min ((s16.1.drop (0 + (0 : Int).toNat)).take (s16.2.toNat - (0 : Int).toNat)).length ((s16.1.length : Int).toNat - s16.2.toNat) : Nat) : Int))) rfl) (TF.nil ?_))
     obtain rfl := osi h
     exact ⟨((cpy s16.1 (0 + s16.2.toNat) ((s16.1.drop (0 + (0 : Int).toNat)).take (s16.2.toNat - (0 : Int).toNat)) ((s16.1.length : Int).toNat - s16.2.toNat)),(s16.2 + ((min ((s16.1.drop (0 + (0 : Int).toNat)).take (s16.2.toNat - (0 : Int).toNat)).length ((s16.1.length : Int).toNat - s16.2.toNat) : Nat) : Int))),u18,rfl,trivial,cutW rfl (wkC rfl (wkC (congrArg (hS false 0 u18 1) (by simp [cpy_length] : s16.1.length = (cpy s16.1 (0 + s16.2.toNat) ((s16.1.drop (0 + (0 : Int).toNat)).take (s16.2.toNat - (0 : Int).toNat)) ((s16.1.length : Int).toNat - s16.2.toNat)).length)) wkN))⟩
    ·replace h := condF q19 h
     refine T.exit ?_
     refine ⟨_,(osi h).symm,fun h => ?_⟩
     replace h := congrArg some h
     obtain rfl := osi h
     exact ⟨u18,trivial,cutW rfl (wkC rfl wkN)⟩
  ·clear ks6
   refine T.seq (T.clean (H0:=[]) (e0:=envOf [(6,.v (.int .u64 v5.2)),(5,.v (.int .u64 v5.1)),(0,eL cI x)]) rfl (wkC rfl (wkC rfl (wkC rfl wkN))) (T.region (oN (EvN.mv (.v (.int .u64 v5.1)) rfl) (oN (EvN.igt rfl rfl) (oN (EvN.mv (Bo (decide ((0 : Int) < v5.1))) rfl) ?_)))))
   obtain ⟨s7,h,ks7⟩ := bindL h
   refine TO.joinF (G:=Unit) 3 (fun _ => True) (fun _ => [(26,Bo s7),(6,.v (.int .u64 v5.2)),(0,eL cI x)]) (fun _ => []) ?_ (fun js7 => ?_)
   rotate_left
   ·clear ks7
    rcases bifL h with ⟨q8,h⟩ | ⟨q8,h⟩
    ·refine gS rfl q8 (gS rfl q8 (oN (EvN.pickT rfl q8 (Bo true) rfl) ?_))
     obtain rfl := osi h
     exact js7 _ _ ⟨(),trivial,cutW rfl (wkC rfl (wkC rfl (wkC rfl wkN)))⟩
    ·refine gN rfl q8 (EvN.mv (.v (.int .u64 v5.2)) rfl) (gN rfl q8 (EvN.igt rfl rfl) (oN (EvN.pickF rfl q8 (Bo (decide ((9223372036854775807 : Int) < v5.2))) rfl) ?_))
     obtain rfl := osi h
     exact js7 _ _ ⟨(),trivial,cutW rfl (wkC rfl (wkC rfl (wkC rfl wkN)))⟩
   ·intro _ _
    replace h := ks7
    clear ks7
    refine TO.nil ?_
    refine T.cond rfl (fun q9 => ?_) (fun q9 => ?_)
    ·replace h := condT q9 h
     cases h
    ·replace h := condF q9 h
     refine T.skip ?_
     obtain rfl := osi h
     exact ⟨(),trivial,cutW rfl (wkC rfl (wkC rfl wkN))⟩
 ·clear ks1
  refine T.seq (T.region (oN (EvN.mv (I count) rfl) (oN (EvN.ilt rfl rfl) (TO.nil ?_))))
  refine T.cond rfl (fun q2 => ?_) (fun q2 => ?_)
  ·replace h := condT q2 h
   cases h
  ·replace h := condF q2 h
   refine T.skip ?_
   obtain rfl := osi h
   exact ⟨(),trivial,cutW rfl (wkC rfl (wkC rfl wkN))⟩
theorem F_impl_numbers_P (p : List (List ZIn)) {q : (List (List Int))} (h : F_impl_numbers p = some q) : PCall Try.prog 114 [eL (cL ZIn.c) p] (eL (cL cI) q) := by
 refine PCall.mkT Try.func114 rfl (by kernel_rfl) rfl (by kernel_rfl) (e0:=envOf [(0,eL (cL ZIn.c) p)]) (wkC rfl wkN) (T.seq (T.region (oN (EvN.asg (.nil) rfl) (TO.nil (T.seq (T.region (oN (EvN.mv (eL (cL ZIn.c) p) rfl) ?_)))))))
 refine oN (EvN.lenL sl27 rfl) ?_
 obtain ⟨g1,h⟩ := gdD h
 refine oA (EvA.mkZ sl37 rfl rfl g1 rfl rfl) (TO.reserveN (p.length : Int).toNat (TO.clean (H0:=(bE false 0 1 23 (nrs 1 (fun i => (true,i,0)) 1 (List.replicate (p.length : Int).toNat ([] : List Int))) :: (List.replicate (p.length : Int).toNat none))) (e0:=envOf [(11,hS false 0 0 1 ((p.length : Int).toNat)),(0,eL (cL ZIn.c) p)]) (congrArg (fun r => [bE false 0 1 23 r] ++ List.replicate (p.length : Int).toNat none) (nrs_nil (α:=Int) 1 1 (p.length : Int).toNat).symm) (wkC rfl (wkC rfl wkN)) (oN (EvN.asg (hS false 0 0 1 ((p.length : Int).toNat)) rfl) (TO.nil (T.seq (T.region (oN (EvN.asg (I (3 : Int)) rfl) ?_)))))))
 refine TO.nil ?_
 obtain ⟨s2,h,ks2⟩ := bindL h
 refine T.joinF (G:=(NG × AH × Nat)) (fun gh => NN gh.2.1 gh.1 1 3 cI s2) (fun gh => [(3,hS false 0 gh.2.2 1 s2.length)]) (fun gh => (bE false gh.2.2 1 23 (nrs 1 gh.1 1 s2) :: gh.2.1)) (fun gh hN70 => ?_) ?_
 ·clear h
  have h := ks2
  clear ks2
  obtain ⟨y68,kk69,u67⟩ := gh
  refine T.seq (T.region (oN (EvN.mv (hS false 0 u67 1 s2.length) rfl) (oN (EvN.asg (hS false 0 u67 1 s2.length) rfl) (TO.nil (T.ret ?_)))))
  obtain rfl := osi h
  repeat (first|refine retS ?_|refine retB ?_)
  exact Fin.ret (vs:=[hS false 0 u67 1 s2.length]) (.cons (.tmp rfl) .nil) (NN.fz hN70 (S:=[bE false u67 1 23 (nrs 1 y68 1 s2)]) (ver:=u67) rfl rfl (fun _ => rfl))
 ·clear ks2
  refine T.seq (T.region (oN (EvN.mv (eL (cL ZIn.c) p) rfl) (oN (EvN.lenL sl27 rfl) (oN (EvN.mv (I (0 : Int)) rfl) (TO.nil (T.block ?_))))))
  refine T.loop (S:=(List (List Int)) × Int × Int) (G:=(NG × AH × Nat)) (F_impl_numbers_L14 p) (fun s13 gh => NN gh.2.1 gh.1 1 3 cI s13.1) (fun s13 gh => [(14,I s13.2.1),(13,I (p.length : Int)),(12,eL (cL ZIn.c) p),(4,I s13.2.2),(3,hS false 0 gh.2.2 1 s13.1.length)]) (fun s13 gh => (bE false gh.2.2 1 23 (nrs 1 gh.1 1 s13.1) :: gh.2.1)) (s0:=((List.replicate (p.length : Int).toNat ([] : List Int)),(0 : Int),(3 : Int))) ((fun i => (true,i,0)),(List.replicate (p.length : Int).toNat none),0) h (NN.rep (p.length : Int).toNat) (cutW rfl (wkC rfl (wkC rfl (wkC rfl (wkC rfl (wkC (congrArg (hS false 0 0 1) (by simp : (p.length : Int).toNat = (List.replicate (p.length : Int).toNat ([] : List Int)).length)) wkN)))))) (fun s13 gh ws13 h hN18 => ?_)
  let d0 := p.getD s13.2.1.toNat default
  obtain ⟨y16,kk17,u15⟩ := gh
  refine T.seq (T.region (oN (EvN.ilt rfl rfl) (TO.nil (T.seq ?_))))
  refine T.cond rfl (fun q19 => ?_) (fun q19 => ?_)
  ·replace h := condT q19 h
   refine T.skip ?_
   obtain ⟨s20,h,ks20⟩ := bindL h
   refine T.joinF (G:=(NG × AH × Nat)) (fun gh => NN gh.2.1 gh.1 1 3 cI s20.1) (fun gh => [(14,I s13.2.1),(13,I (p.length : Int)),(12,eL (cL ZIn.c) p),(4,I s20.2),(3,hS false 0 gh.2.2 1 s20.1.length)]) (fun gh => (bE false gh.2.2 1 23 (nrs 1 gh.1 1 s20.1) :: gh.2.1)) (fun gh hN65 => ?_) ?_
   ·clear h
    have h := ks20
    clear ks20
    obtain ⟨y63,kk64,u62⟩ := gh
    refine T.region ?_
    obtain ⟨g66,h⟩ := gdW h
    refine oN (EvN.add rfl rfl g66) (oN (EvN.mv (I (s13.2.1 + (1 : Int))) rfl) (TO.nil ?_))
    obtain rfl := osi h
    exact ⟨(s20.1,(s13.2.1 + (1 : Int)),s20.2),(y63,kk64,u62),rfl,hN65,cutW rfl (wkC rfl (wkC rfl (wkC rfl (wkC rfl (wkC rfl wkN)))))⟩
   ·clear ks20
    refine T.block (T.seq (T.region (oN (EvN.mv (I s13.2.1) rfl) ?_)))
    obtain ⟨g21,h⟩ := gdD h
    refine oN (EvN.ixL sl27 rfl rfl g21 (fun _ => rfl)) (oN (EvN.loadfp (eL ZIn.c d0) ty57 rfl rfl) (oN (EvN.asg (I s13.2.1) rfl) (oN (EvN.asg (eL ZIn.c d0) rfl) (TO.nil (T.seq (T.region (oN (EvN.mv (eL ZIn.c d0) rfl) ?_)))))))
    refine oN (EvN.lenL sl57 rfl) (oN (EvN.mv (I (0 : Int)) rfl) (TO.nil (T.block ?_)))
    refine T.loop (S:=(List (List Int)) × Int × Int) (G:=(NG × AH × Nat)) (F_impl_numbers_L33 p s13) (fun s32 gh => NN gh.2.1 gh.1 1 3 cI s32.1) (fun s32 gh => [(21,I s32.2.1),(20,I (d0.length : Int)),(19,eL ZIn.c d0),(5,I s13.2.1),(14,I s13.2.1),(13,I (p.length : Int)),(12,eL (cL ZIn.c) p),(4,I s32.2.2),(3,hS false 0 gh.2.2 1 s32.1.length)]) (fun s32 gh => (bE false gh.2.2 1 23 (nrs 1 gh.1 1 s32.1) :: gh.2.1)) (s0:=(s13.1,(0 : Int),s13.2.2)) (y16,kk17,u15) h hN18 (cutW rfl (wkC rfl (wkC rfl (wkC rfl (wkC rfl (wkC rfl (wkC rfl (wkC rfl (wkC rfl (wkC rfl wkN)))))))))) (fun s32 gh ws32 h hN37 => ?_)
    obtain ⟨y35,kk36,u34⟩ := gh
    refine T.seq (T.region (oN (EvN.ilt rfl rfl) (TO.nil (T.seq ?_))))
    refine T.cond rfl (fun q38 => ?_) (fun q38 => ?_)
    ·replace h := condT q38 h
     refine T.skip ?_
     obtain ⟨s39,h,ks39⟩ := bindL h
     refine T.joinF (G:=(NG × AH × Nat)) (fun gh => NN gh.2.1 gh.1 1 3 cI s39.1) (fun gh => [(21,I s32.2.1),(20,I (d0.length : Int)),(19,eL ZIn.c d0),(5,I s13.2.1),(14,I s13.2.1),(13,I (p.length : Int)),(12,eL (cL ZIn.c) p),(4,I s39.2),(3,hS false 0 gh.2.2 1 s39.1.length)]) (fun gh => (bE false gh.2.2 1 23 (nrs 1 gh.1 1 s39.1) :: gh.2.1)) (fun gh hN60 => ?_) ?_
     ·clear h
      have h := ks39
      clear ks39
      obtain ⟨y58,kk59,u57⟩ := gh
      refine T.region ?_
      obtain ⟨g61,h⟩ := gdW h
      refine oN (EvN.add rfl rfl g61) (oN (EvN.mv (I (s32.2.1 + (1 : Int))) rfl) (TO.nil ?_))
      obtain rfl := osi h
      exact ⟨(s39.1,(s32.2.1 + (1 : Int)),s39.2),(y58,kk59,u57),rfl,hN60,cutW rfl (wkC rfl (wkC rfl (wkC rfl (wkC rfl (wkC rfl (wkC rfl (wkC rfl (wkC rfl (wkC rfl wkN)))))))))⟩
     ·clear ks39
      refine T.block (T.seq (T.region ?_))
      obtain ⟨g40,h⟩ := gdD h
      refine oN (EvN.ixL sl57 rfl rfl g40 (fun _ => rfl)) (oN (EvN.loadfp (.agg (ZIn.c (d0.getD s32.2.1.toNat default))) ty56 rfl rfl) (oA (EvA.al zs56 rfl rfl) (TO.reid (e0:=envOf [(8,.hp 1 0 4 0 0),(24,.agg (ZIn.c (d0.getD s32.2.1.toNat default))),(21,I s32.2.1),(20,I (d0.length : Int)),(19,eL ZIn.c d0),(5,I s13.2.1),(14,I s13.2.1),(13,I (p.length : Int)),(12,eL (cL ZIn.c) p),(4,I s32.2.2),(3,hS false 0 u34 1 s32.1.length)]) (Reid.rot (m:=1) (S:=[bE false u34 1 23 (nrs 1 y35 1 s32.1)]) (S' := [bE false u34 1 23 (nrs 2 y35 1 s32.1)]) (K:=kk36) (x:=some ⟨0,4,56,[[I (0 : Int),I (0 : Int),I (0 : Int),I (0 : Int)]]⟩) (x' := some ⟨0,4,56,[[I (0 : Int),I (0 : Int),I (0 : Int),I (0 : Int)]]⟩) rfl rfl rfl (.nest (hN37.renK rfl) .nil) hN37.kf (.some (.rowL (.cons (ren_isF 9 _ rfl) (.cons (ren_isF 9 _ rfl) (.cons (ren_isF 9 _ rfl) (.cons (ren_isF 9 _ rfl) .nil))))) .nil)) (renE_cons (a0:=.hp (kk36.length + 1) 0 4 0 0) rfl (.hp Rot.new) (renE_F rfl rfl (renE_F rfl rfl (renE_F rfl rfl (renE_F rfl rfl (renE_F rfl rfl (renE_F rfl rfl (renE_F rfl rfl (renE_F rfl rfl (renE_F rfl rfl (renE_cons (a0:=hS false 0 u34 1 s32.1.length) rfl (ren_hSg (Rot.low rfl)) renE_nil))))))))))) (oV (EvA.st (cs:=[I ((d0.getD s32.2.1.toNat default).Op),I ((d0.getD s32.2.1.toNat default).Loc),I ((d0.getD s32.2.1.toNat default).Reg),I ((d0.getD s32.2.1.toNat default).Val)]) ⟨0,4,56,[[I ((d0.getD s32.2.1.toNat default).Op),I ((d0.getD s32.2.1.toNat default).Loc),I ((d0.getD s32.2.1.toNat default).Reg),I ((d0.getD s32.2.1.toNat default).Val)]]⟩ ty56 rfl rfl rfl rfl rfl rfl rfl rfl rfl) (TO.nil (T.seq (T.region ?_)))))))
      refine oN (EvN.fahp Try.underlying56 rfl (by kernel_rfl) rfl) (oA (EvA.loadhp (I ((d0.getD s32.2.1.toNat default).Op)) ty3 rfl rfl rfl rfl rfl rfl) (oN (EvN.ieq rfl rfl) (TO.nil ?_)))
      refine T.cond rfl (fun q41 => ?_) (fun q41 => ?_)
      ·replace h := condT q41 h
       refine T.region (oN (EvN.mv (hS false 0 u34 1 s32.1.length) rfl) (oN (EvN.mv (I s13.2.1) rfl) (oN (EvN.mv (hS false 0 u34 1 s32.1.length) rfl) (oN (EvN.mv (I s13.2.1) rfl) ?_))))
       obtain ⟨g42,h⟩ := gdD h
       refine oN (EvN.ixO (g:=false) sl37 rfl rfl nofun g42) ?_
       have n47 := hN37.nil_ (toNat_lt' rfl g42)
       have hX46 := hN37.opened (toNat_lt' rfl g42)
       refine TO.reid (e0:=envOf [(32,.hp 0 u34 1 s13.2.1.toNat 0),(29,I s13.2.1),(28,hS false 0 u34 1 s32.1.length),(21,I s32.2.1),(20,I (d0.length : Int)),(19,eL ZIn.c d0),(5,I s13.2.1),(14,I s13.2.1),(13,I (p.length : Int)),(12,eL (cL ZIn.c) p),(4,I s32.2.2),(3,hS false 0 u34 1 s32.1.length)]) (Reid.open (m:=2) (S:=[bE false u34 1 23 (nrs 2 y35 1 s32.1),some ⟨0,4,56,[[I ((d0.getD s32.2.1.toNat default).Op),I ((d0.getD s32.2.1.toNat default).Loc),I ((d0.getD s32.2.1.toNat default).Reg),I ((d0.getD s32.2.1.toNat default).Val)]]⟩]) (S' := [bE false u34 1 23 (nxs 3 y35 1 s32.1 s13.2.1.toNat (y35 s13.2.1.toNat).1 2 ((y35 s13.2.1.toNat).2.2) ((s32.1.getD s13.2.1.toNat []).length)),some ⟨0,4,56,[[I ((d0.getD s32.2.1.toNat default).Op),I ((d0.getD s32.2.1.toNat default).Loc),I ((d0.getD s32.2.1.toNat default).Reg),I ((d0.getD s32.2.1.toNat default).Val)]]⟩]) (K:=kk36) (x:=bE (y35 s13.2.1.toNat).1 (y35 s13.2.1.toNat).2.2 1 3 ((s32.1.getD s13.2.1.toNat []).map cI)) rfl (hN37.at_ (toNat_lt' rfl g42)) rfl (.nest (hN37.renOpn (toNat_lt' rfl g42)) (.some (.rowL (.cons (ren_isF 9 _ rfl) (.cons (ren_isF 9 _ rfl) (.cons (ren_isF 9 _ rfl) (.cons (ren_isF 9 _ rfl) .nil))))) .nil)) hN37.kf) (renE_cons (a0:=.hp 0 u34 1 s13.2.1.toNat 0) rfl (.hp (Opn.low rfl)) (renE_F rfl rfl (renE_cons (a0:=hS false 0 u34 1 s32.1.length) rfl (ren_hSg (Opn.low rfl)) (renE_F rfl rfl (renE_F rfl rfl (renE_F rfl rfl (renE_F rfl rfl (renE_F rfl rfl (renE_F rfl rfl (renE_F rfl rfl (renE_F rfl rfl (renE_cons (a0:=hS false 0 u34 1 s32.1.length) rfl (ren_hSg (Opn.low rfl)) renE_nil)))))))))))) ?_
       generalize (y35 s13.2.1.toNat).1 = b43 at n47 ⊢
       generalize (y35 s13.2.1.toNat).2.2 = u44
       generalize kk36.set (y35 s13.2.1.toNat).2.1 none = kk45 at hX46 ⊢
       refine oA (EvA.loadhp (hS b43 2 u44 1 ((s32.1.getD s13.2.1.toNat []).length)) ty23 rfl rfl rfl rfl (nxs_get (toNat_lt' rfl g42)) rfl) (oN (EvN.mkF (c:=cI) ([(-1 : Int)] : List Int) [[I (-1 : Int)]] sl23 rfl rfl rfl (fun _ => rfl) (fun _ => rfl) rfl) ?_)
       obtain ⟨g48,h⟩ := gdL h
       refine oA (EvA.app1 (g:=b43) (l:=(s32.1.getD s13.2.1.toNat [])) (-1 : Int) sl23 (by kernel_rfl) rfl rfl rfl n47 (SrcOk.fz (l:=([(-1 : Int)] : List Int)) rfl (fun _ => rfl)) g48) (oN (EvN.ixO (g:=false) sl37 rfl rfl nofun g42) (oV (EvA.st (cs:=[hS false 2 (u44 + 1) 1 (((s32.1.getD s13.2.1.toNat []) ++ [(-1 : Int)]).length)]) ⟨u34,1,23,(nxs 3 y35 1 s32.1 s13.2.1.toNat false 2 (u44 + 1) (((s32.1.getD s13.2.1.toNat []) ++ [(-1 : Int)]).length))⟩ ty23 rfl rfl rfl rfl rfl (nxs_get hX46.hi) rfl rfl (congrArg (ABlk.mk u34 1 23) nxs_set)) (TO.nil ?_)))
       obtain rfl := osi h
       exact ⟨((up 1 ((up 1 y35).put s13.2.1.toNat (false,0,u44 + 1))),(some ⟨0,4,56,[[I ((d0.getD s32.2.1.toNat default).Op),I ((d0.getD s32.2.1.toNat default).Loc),I ((d0.getD s32.2.1.toNat default).Reg),I ((d0.getD s32.2.1.toNat default).Val)]]⟩ :: (bE false (u44 + 1) 1 3 (((s32.1.getD s13.2.1.toNat []) ++ [(-1 : Int)]).map cI) :: kk45)),u34),((hX46.close (g:=false) (v:=u44 + 1) (r:=((s32.1.getD s13.2.1.toNat []) ++ [(-1 : Int)])) nofun (fun _ => rfl)).push (fun _ hb => osi hb ▸ rowsF_row rfl)),cutW (congrArg (fun r_ : List (List AV) => (bE false u34 1 23 r_ :: some ⟨0,4,56,[[I ((d0.getD s32.2.1.toNat default).Op),I ((d0.getD s32.2.1.toNat default).Loc),I ((d0.getD s32.2.1.toNat default).Reg),I ((d0.getD s32.2.1.toNat default).Val)]]⟩ :: bE false (u44 + 1) 1 3 (((s32.1.getD s13.2.1.toNat []) ++ [(-1 : Int)]).map cI) :: kk45 : AH)) (show (nxs 3 y35 1 s32.1 s13.2.1.toNat false 2 (u44 + 1) (((s32.1.getD s13.2.1.toNat []) ++ [(-1 : Int)]).length)) = nrs 1 (up 1 ((up 1 y35).put s13.2.1.toNat (false,0,u44 + 1))) 1 (s32.1.set s13.2.1.toNat ((s32.1.getD s13.2.1.toNat []) ++ [(-1 : Int)])) from nxs_close (m:=2) (gh:=y35) (r:=((s32.1.getD s13.2.1.toNat []) ++ [(-1 : Int)])) hX46.hi).symm) (wkC rfl (wkC rfl (wkC rfl (wkC rfl (wkC rfl (wkC rfl (wkC rfl (wkC rfl (wkC (congrArg (hS false 0 u34 1) (by simp : s32.1.length = (s32.1.set s13.2.1.toNat ((s32.1.getD s13.2.1.toNat []) ++ [(-1 : Int)])).length)) wkN)))))))))⟩
      ·replace h := condF q41 h
       refine T.seq (T.region (oN (EvN.mv (hS false 0 u34 1 s32.1.length) rfl) (oN (EvN.mv (I s13.2.1) rfl) (oN (EvN.mv (hS false 0 u34 1 s32.1.length) rfl) (oN (EvN.mv (I s13.2.1) rfl) ?_)))))
       obtain ⟨g49,h⟩ := gdD h
       refine oN (EvN.ixO (g:=false) sl37 rfl rfl nofun g49) ?_
       have n54 := hN37.nil_ (toNat_lt' rfl g49)
       have hX53 := hN37.opened (toNat_lt' rfl g49)
       refine TO.reid (e0:=envOf [(41,.hp 0 u34 1 s13.2.1.toNat 0),(38,I s13.2.1),(37,hS false 0 u34 1 s32.1.length),(21,I s32.2.1),(20,I (d0.length : Int)),(19,eL ZIn.c d0),(5,I s13.2.1),(14,I s13.2.1),(13,I (p.length : Int)),(12,eL (cL ZIn.c) p),(4,I s32.2.2),(3,hS false 0 u34 1 s32.1.length)]) (Reid.open (m:=2) (S:=[bE false u34 1 23 (nrs 2 y35 1 s32.1),some ⟨0,4,56,[[I ((d0.getD s32.2.1.toNat default).Op),I ((d0.getD s32.2.1.toNat default).Loc),I ((d0.getD s32.2.1.toNat default).Reg),I ((d0.getD s32.2.1.toNat default).Val)]]⟩]) (S' := [bE false u34 1 23 (nxs 3 y35 1 s32.1 s13.2.1.toNat (y35 s13.2.1.toNat).1 2 ((y35 s13.2.1.toNat).2.2) ((s32.1.getD s13.2.1.toNat []).length)),some ⟨0,4,56,[[I ((d0.getD s32.2.1.toNat default).Op),I ((d0.getD s32.2.1.toNat default).Loc),I ((d0.getD s32.2.1.toNat default).Reg),I ((d0.getD s32.2.1.toNat default).Val)]]⟩]) (K:=kk36) (x:=bE (y35 s13.2.1.toNat).1 (y35 s13.2.1.toNat).2.2 1 3 ((s32.1.getD s13.2.1.toNat []).map cI)) rfl (hN37.at_ (toNat_lt' rfl g49)) rfl (.nest (hN37.renOpn (toNat_lt' rfl g49)) (.some (.rowL (.cons (ren_isF 9 _ rfl) (.cons (ren_isF 9 _ rfl) (.cons (ren_isF 9 _ rfl) (.cons (ren_isF 9 _ rfl) .nil))))) .nil)) hN37.kf) (renE_cons (a0:=.hp 0 u34 1 s13.2.1.toNat 0) rfl (.hp (Opn.low rfl)) (renE_F rfl rfl (renE_cons (a0:=hS false 0 u34 1 s32.1.length) rfl (ren_hSg (Opn.low rfl)) (renE_F rfl rfl (renE_F rfl rfl (renE_F rfl rfl (renE_F rfl rfl (renE_F rfl rfl (renE_F rfl rfl (renE_F rfl rfl (renE_F rfl rfl (renE_cons (a0:=hS false 0 u34 1 s32.1.length) rfl (ren_hSg (Opn.low rfl)) renE_nil)))))))))))) ?_
       generalize (y35 s13.2.1.toNat).1 = b50 at n54 ⊢
       generalize (y35 s13.2.1.toNat).2.2 = u51
       generalize kk36.set (y35 s13.2.1.toNat).2.1 none = kk52 at hX53 ⊢
       refine oA (EvA.loadhp (hS b50 2 u51 1 ((s32.1.getD s13.2.1.toNat []).length)) ty23 rfl rfl rfl rfl (nxs_get (toNat_lt' rfl g49)) rfl) (oN (EvN.mv (I s32.2.2) rfl) (oN (EvN.mkF (c:=cI) ([s32.2.2] : List Int) [[I s32.2.2]] sl23 rfl rfl rfl (fun _ => rfl) (fun _ => rfl) rfl) ?_))
       obtain ⟨g55,h⟩ := gdL h
       refine oA (EvA.app1 (g:=b50) (l:=(s32.1.getD s13.2.1.toNat [])) s32.2.2 sl23 (by kernel_rfl) rfl rfl rfl n54 (SrcOk.fz (l:=([s32.2.2] : List Int)) rfl (fun _ => rfl)) g55) (oN (EvN.ixO (g:=false) sl37 rfl rfl nofun g49) (oV (EvA.st (cs:=[hS false 2 (u51 + 1) 1 (((s32.1.getD s13.2.1.toNat []) ++ [s32.2.2]).length)]) ⟨u34,1,23,(nxs 3 y35 1 s32.1 s13.2.1.toNat false 2 (u51 + 1) (((s32.1.getD s13.2.1.toNat []) ++ [s32.2.2]).length))⟩ ty23 rfl rfl rfl rfl rfl (nxs_get hX53.hi) rfl rfl (congrArg (ABlk.mk u34 1 23) nxs_set)) (TO.nil (T.clean (H0:=(bE false u34 1 23 (nxs 3 y35 1 s32.1 s13.2.1.toNat false 2 (u51 + 1) (((s32.1.getD s13.2.1.toNat []) ++ [s32.2.2]).length)) :: some ⟨0,4,56,[[I ((d0.getD s32.2.1.toNat default).Op),I ((d0.getD s32.2.1.toNat default).Loc),I ((d0.getD s32.2.1.toNat default).Reg),I ((d0.getD s32.2.1.toNat default).Val)]]⟩ :: bE false (u51 + 1) 1 3 (((s32.1.getD s13.2.1.toNat []) ++ [s32.2.2]).map cI) :: kk52)) (e0:=envOf [(21,I s32.2.1),(20,I (d0.length : Int)),(19,eL ZIn.c d0),(5,I s13.2.1),(14,I s13.2.1),(13,I (p.length : Int)),(12,eL (cL ZIn.c) p),(4,I s32.2.2),(3,hS false 0 u34 1 s32.1.length)]) rfl (wkC rfl (wkC rfl (wkC rfl (wkC rfl (wkC rfl (wkC rfl (wkC rfl (wkC rfl (wkC rfl wkN))))))))) (T.region (oN (EvN.mv (I s32.2.2) rfl) ?_))))))
       obtain ⟨g56,h⟩ := gdW h
       refine oN (EvN.add rfl rfl g56) (oN (EvN.asg (I (s32.2.2 + (1 : Int))) rfl) (TO.nil ?_))
       obtain rfl := osi h
       exact ⟨((up 1 ((up 1 y35).put s13.2.1.toNat (false,0,u51 + 1))),(some ⟨0,4,56,[[I ((d0.getD s32.2.1.toNat default).Op),I ((d0.getD s32.2.1.toNat default).Loc),I ((d0.getD s32.2.1.toNat default).Reg),I ((d0.getD s32.2.1.toNat default).Val)]]⟩ :: (bE false (u51 + 1) 1 3 (((s32.1.getD s13.2.1.toNat []) ++ [s32.2.2]).map cI) :: kk52)),u34),((hX53.close (g:=false) (v:=u51 + 1) (r:=((s32.1.getD s13.2.1.toNat []) ++ [s32.2.2])) nofun (fun _ => rfl)).push (fun _ hb => osi hb ▸ rowsF_row rfl)),cutW (congrArg (fun r_ : List (List AV) => (bE false u34 1 23 r_ :: some ⟨0,4,56,[[I ((d0.getD s32.2.1.toNat default).Op),I ((d0.getD s32.2.1.toNat default).Loc),I ((d0.getD s32.2.1.toNat default).Reg),I ((d0.getD s32.2.1.toNat default).Val)]]⟩ :: bE false (u51 + 1) 1 3 (((s32.1.getD s13.2.1.toNat []) ++ [s32.2.2]).map cI) :: kk52 : AH)) (show (nxs 3 y35 1 s32.1 s13.2.1.toNat false 2 (u51 + 1) (((s32.1.getD s13.2.1.toNat []) ++ [s32.2.2]).length)) = nrs 1 (up 1 ((up 1 y35).put s13.2.1.toNat (false,0,u51 + 1))) 1 (s32.1.set s13.2.1.toNat ((s32.1.getD s13.2.1.toNat []) ++ [s32.2.2])) from nxs_close (m:=2) (gh:=y35) (r:=((s32.1.getD s13.2.1.toNat []) ++ [s32.2.2])) hX53.hi).symm) (wkC rfl (wkC rfl (wkC rfl (wkC rfl (wkC rfl (wkC rfl (wkC rfl (wkC rfl (wkC (congrArg (hS false 0 u34 1) (by simp : s32.1.length = (s32.1.set s13.2.1.toNat ((s32.1.getD s13.2.1.toNat []) ++ [s32.2.2])).length)) wkN)))))))))⟩
    ·replace h := condF q38 h
     refine T.exit ?_
     refine ⟨_,(osi h).symm,fun h => ?_⟩
     replace h := congrArg some h
     obtain rfl := osi h
     exact ⟨(y35,kk36,u34),hN37,cutW rfl (wkC rfl (wkC rfl (wkC rfl (wkC rfl (wkC rfl wkN)))))⟩
  ·replace h := condF q19 h
   refine T.exit ?_
   refine ⟨_,(osi h).symm,fun h => ?_⟩
   replace h := congrArg some h
   obtain rfl := osi h
   exact ⟨(y16,kk17,u15),hN18,cutW rfl (wkC rfl wkN)⟩
end Go.Proofs.Ytlmjnhnpahicmaa
