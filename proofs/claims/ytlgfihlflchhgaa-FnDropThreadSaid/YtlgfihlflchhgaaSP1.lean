/-
 The program's code computes the functions over plain values; printed by lift.py. No conditions.
-/
import Derived.Test.YtlgfihlflchhgaaSPd
import Derived.Test.YtlgfihlflchhgaaSf
import Derived.Test.YtlgfihlflchhgaaGH
namespace Go.Proofs.Ytlgfihlflchhgaa
open Go.RowKit
set_option maxRecDepth 100000
theorem F_slices_Equal_impl_Instr_impl_Instr_P (s1_:List ZIn) (s2_:List ZIn) {q:Bool} (h:F_slices_Equal_impl_Instr_impl_Instr s1_ s2_=some q):PCall Try.prog 24 [eL ZIn.c s1_,eL ZIn.c s2_] (Bo q):=by
 refine pM Try.func24 rfl (by kernel_rfl) rfl (T.sr (oN as' (TO.nil (T.seq (T.sr (oN mv (oN (EvN.lenL sl31 rfl) (oN mv (oN (EvN.lenL sl31 rfl) (oN (EvN.ine rfl rfl) (TO.nil ?_)))))))))))
 refine T.ifH rfl h (fun q1 h => ?_) (fun q1 h => ?_)
 ·refine T.sr (oN as' (TO.nil (T.ret ?_)))
  obtain rfl:=osj h
  exact finR rfl rfl rfl
 ·refine T.skip ?_
  obtain ⟨Ks2,es2,ws2,h,ks2⟩:=sumL h
  refine T.join (S:=Unit) (G:=Unit) (fun s2=>Ks2 s2=some q) (fun s2 gh=>True) (fun s2 gh=>[]) (fun s2 gh=>[]) (fun s2 gh h hg => ?_) ?_
  ·clear ks2
   subst es2
   refine T.sr (oN as' (TO.nil (T.ret ?_)))
   obtain rfl:=osj h
   exact finR rfl rfl rfl
  ·refine T.sr (oN mv (oN (EvN.lenL sl31 rfl) (oN mv (TO.nil (T.block ?_)))))
   refine T.lU h (fun s5=>[(13,I s5),(12,I (s1_.length:Int)),(0,eL ZIn.c s1_),(1,eL ZIn.c s2_)]) (fun s5=>[]) (kw rfl rfl) (fun s5 ws5 h => ?_)
   refine T.sr (oN (EvN.ilt rfl rfl) (TO.nil (T.seq ?_)))
   refine T.ifH rfl h (fun q7 h => ?_) (fun q7 h => ?_)
   ·refine T.skip (T.seq (T.block (T.sr (oN mv (oN as' (TO.nil (T.seq (T.drawF (fun _=>([],false)) (by kernel_rfl) (by kernel_rfl) (fN rfl mv (fN rfl mv (jD h fun g8 h=>fN rfl (EvN.ixL sl31 rfl rfl g8 (fun _=>rfl)) (fN rfl (lf (.agg (ZIn.c (s1_.getD s5.toNat default))) ty33 rfl) (fN rfl mv (fN rfl mv ?_))))))))))))))
    refine jD h fun g9 h=>fN rfl (EvN.ixL sl31 rfl rfl g9 (fun _=>rfl)) (fN rfl (lf (.agg (ZIn.c (s2_.getD s5.toNat default))) ty33 rfl) (fN rfl (EvN.ane (((s1_.getD s5.toNat default).Op)==((s2_.getD s5.toNat default).Op)&&(((s1_.getD s5.toNat default).Loc)==((s2_.getD s5.toNat default).Loc)&&(((s1_.getD s5.toNat default).Reg)==((s2_.getD s5.toNat default).Reg)&&(((s1_.getD s5.toNat default).Val)==((s2_.getD s5.toNat default).Val)&&true)))) (cs:=[I ((s1_.getD s5.toNat default).Op),I ((s1_.getD s5.toNat default).Loc),I ((s1_.getD s5.toNat default).Reg),I ((s1_.getD s5.toNat default).Val)]) (ds:=[I ((s2_.getD s5.toNat default).Op),I ((s2_.getD s5.toNat default).Loc),I ((s2_.getD s5.toNat default).Reg),I ((s2_.getD s5.toNat default).Val)]) te33 rfl rfl (by kernel_rfl)) (TF.nil ?_)))
    refine T.ifH rfl h (fun q10 h => ?_) (fun q10 h => ?_)
    ·refine T.seq (T.clean (H0:=[]) (e0:=envOf []) rfl wkN (T.region (oN as' (TO.nil (T.ret (lX h fun h => ?_))))))
     obtain rfl:=osj h
     replace h:=congrArg some (show _=_ from ks2)
     obtain rfl:=osj h
     exact finR rfl rfl rfl
    ·refine T.skip (T.region (jW h fun g11 h=>oN (EvN.add rfl rfl g11) (oN mv (TO.nil ?_))))
     exact lE h (kw rfl rfl)
   ·refine T.exit (lX h fun h => ?_)
    obtain rfl:=osj h
    exact ⟨(),(),ks2,trivial,kw rfl rfl⟩
theorem F_impl_ProgramSame_1_P (x:List ZIn) (y:List ZIn) {q:Bool} (h:F_impl_ProgramSame_1 x y=some q):PCall Try.prog 23 [eL ZIn.c x,eL ZIn.c y] (Bo q):=by
 refine pM Try.func23 rfl (by kernel_rfl) rfl (T.sr (oN as' (TO.nil (T.sr (oN mv (oN mv (oC h (fun _=>F_slices_Equal_impl_Instr_impl_Instr_P _ _) rfl rfl rfl rfl fun v1 _ h=>oN as' (TO.nil (T.ret ?_)))))))))
 obtain rfl:=osj h
 exact finR rfl rfl rfl
theorem F_slices_EqualFunc_impl_Instr_impl_Instr_impl_Instr_impl_Instr__impl_ProgramSame_1_P (s1_:List (List ZIn)) (s2_:List (List ZIn)) {q:Bool} (h:F_slices_EqualFunc_impl_Instr_impl_Instr_impl_Instr_impl_Instr__impl_ProgramSame_1 s1_ s2_=some q):PCall Try.prog 22 [eL (cL ZIn.c) s1_,eL (cL ZIn.c) s2_,.fn (.func 23) []] (Bo q):=by
 refine pM Try.func22 rfl (by kernel_rfl) rfl (T.sr (oN as' (TO.nil (T.seq (T.sr (oN mv (oN (EvN.lenL sl23 rfl) (oN mv (oN (EvN.lenL sl23 rfl) (oN (EvN.ine rfl rfl) (TO.nil ?_)))))))))))
 refine T.ifH rfl h (fun q1 h => ?_) (fun q1 h => ?_)
 ·refine T.sr (oN as' (TO.nil (T.ret ?_)))
  obtain rfl:=osj h
  exact finR rfl rfl rfl
 ·refine T.skip ?_
  obtain ⟨Ks2,es2,ws2,h,ks2⟩:=sumL h
  refine T.join (S:=Unit) (G:=Unit) (fun s2=>Ks2 s2=some q) (fun s2 gh=>True) (fun s2 gh=>[]) (fun s2 gh=>[]) (fun s2 gh h hg => ?_) ?_
  ·clear ks2
   subst es2
   refine T.sr (oN as' (TO.nil (T.ret ?_)))
   obtain rfl:=osj h
   exact finR rfl rfl rfl
  ·refine T.sr (oN mv (oN (EvN.lenL sl23 rfl) (oN mv (TO.nil (T.block ?_)))))
   refine T.lU h (fun s5=>[(17,I s5),(16,I (s1_.length:Int)),(15,eL (cL ZIn.c) s1_),(1,eL (cL ZIn.c) s2_),(2,.fn (.func 23) [])]) (fun s5=>[]) (kw rfl rfl) (fun s5 ws5 h => ?_)
   refine T.sr (oN (EvN.ilt rfl rfl) (TO.nil (T.seq ?_)))
   refine T.ifH rfl h (fun q7 h => ?_) (fun q7 h => ?_)
   ·refine T.skip (T.seq (T.block (T.sr (oN mv (jD h fun g8 h=>oN (EvN.ixL sl23 rfl rfl g8 (fun _=>rfl)) (oN (lf (eL ZIn.c (s1_.getD s5.toNat default)) ty31 rfl) (oN as' (oN as' (TO.nil (T.sr (oN mv (oN mv (jD h fun g9 h=>oN (EvN.ixL sl23 rfl rfl g9 (fun _=>rfl)) ?_)))))))))))))
    refine oN (lf (eL ZIn.c (s2_.getD s5.toNat default)) ty31 rfl) (oN as' (TO.nil (T.sr (oN mv (oN mv (oN mv (oC h (fun _=>F_impl_ProgramSame_1_P _ _) rfl rfl rfl rfl fun v10 _ h=>oN (EvN.not rfl) (TO.nil ?_))))))))
    refine T.ifH rfl h (fun q11 h => ?_) (fun q11 h => ?_)
    ·refine T.seq (T.clean (H0:=[]) (e0:=envOf []) rfl wkN (T.region (oN as' (TO.nil (T.ret (lX h fun h => ?_))))))
     obtain rfl:=osj h
     replace h:=congrArg some (show _=_ from ks2)
     obtain rfl:=osj h
     exact finR rfl rfl rfl
    ·refine T.skip (T.clean (H0:=[]) (e0:=envOf [(17,I s5),(16,I (s1_.length:Int)),(15,eL (cL ZIn.c) s1_),(1,eL (cL ZIn.c) s2_),(2,.fn (.func 23) [])]) rfl (wkC rfl (wkC rfl (wkC rfl (wkC rfl (wkC rfl wkN))))) (T.region (jW h fun g12 h=>oN (EvN.add rfl rfl g12) (oN mv (TO.nil ?_)))))
     exact lE h (kw rfl rfl)
   ·refine T.exit (lX h fun h => ?_)
    obtain rfl:=osj h
    exact ⟨(),(),ks2,trivial,kw rfl rfl⟩
theorem F_impl_ProgramSame_P (a:List (List ZIn)) (b:List (List ZIn)) {q:Bool} (h:F_impl_ProgramSame a b=some q):PCall Try.prog 8 [eL (cL ZIn.c) a,eL (cL ZIn.c) b] (Bo q):=by
 refine pM Try.func8 rfl (by kernel_rfl) rfl (T.sr (oN as' (TO.nil (T.sr (oN mv (oN mv (oC h (fun _=>F_slices_EqualFunc_impl_Instr_impl_Instr_impl_Instr_impl_Instr__impl_ProgramSame_1_P _ _) rfl rfl rfl rfl fun v1 _ h=>oN as' (TO.nil (T.ret ?_)))))))))
 obtain rfl:=osj h
 exact finR rfl rfl rfl
end Go.Proofs.Ytlgfihlflchhgaa
