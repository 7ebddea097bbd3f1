/-
 The program's code computes the functions over plain values; printed by lift.py. No conditions.
-/
import Derived.Test.YtlmjnhnpahicmaaS26d
import Derived.Test.YtlmjnhnpahicmaaSf
import Derived.Test.YtlmjnhnpahicmaaGH
import Derived.Test.YtlmjnhnpahicmaaBrV
import Derived.Test.YtlmjnhnpahicmaaSM1
import Derived.Test.YtlmjnhnpahicmaaS261
namespace Go.Proofs.Ytlmjnhnpahicmaa
open Go.RowKit
set_option maxRecDepth 100000
theorem F_slices_Equal_int_int_P (s1_:List Int) (s2_:List Int) {q:Bool} (h:F_slices_Equal_int_int s1_ s2_=some q):PCall Try.prog 52 [eL cI s1_,eL cI s2_] (Bo q):=by
 refine pM Try.func52 rfl (by kernel_rfl) rfl (T.sr (oN as' (TO.nil (T.seq (T.sr (oN mv (oN (EvN.lenL sl23 rfl) (oN mv (oN (EvN.lenL sl23 rfl) (oN (EvN.ine rfl rfl) (TO.nil ?_)))))))))))
 refine T.ifH rfl h (fun q1 h => ?_) (fun q1 h => ?_)
 ·refine T.sr (oN as' (TO.nil (T.ret ?_)))
  obtain rfl:=osj h
  exact finR rfl rfl rfl
 ·refine T.skip ?_
  obtain ⟨Ks2,es2,ws2,h,ks2⟩:=sumL h
  refine T.join (S:=Unit) (G:=Unit) (fun s2=>Ks2 s2=some q) (fun s2 gh=>True) (fun s2 gh=>[]) (fun s2 gh=>[]) (fun s2 gh h hg => ?_) ?_
  ·clear ks2
   subst es2
   refine T.sr (oN as' (TO.nil (T.ret ?_)))
   obtain rfl:=osj h
   exact finR rfl rfl rfl
  ·refine T.sr (oN mv (oN (EvN.lenL sl23 rfl) (oN mv (TO.nil (T.block ?_)))))
   refine T.lU h (fun s5=>[(13,I s5),(12,I (s1_.length:Int)),(0,eL cI s1_),(1,eL cI s2_)]) (fun s5=>[]) (kw rfl rfl) (fun s5 ws5 h => ?_)
   refine T.sr (oN (EvN.ilt rfl rfl) (TO.nil (T.seq ?_)))
   refine T.ifH rfl h (fun q7 h => ?_) (fun q7 h => ?_)
   ·refine T.skip (T.seq (T.block (T.sr (oN mv (oN as' (TO.nil (T.seq (T.drawF (fun _=>([],false)) (by kernel_rfl) (by kernel_rfl) (fN rfl mv (fN rfl mv (jD h fun g8 h=>fN rfl (EvN.ixL sl23 rfl rfl g8 (fun _=>rfl)) (fN rfl (lf (I (s1_.getD s5.toNat default)) ty3 rfl) (fN rfl mv (fN rfl mv ?_))))))))))))))
    refine jD h fun g9 h=>fN rfl (EvN.ixL sl23 rfl rfl g9 (fun _=>rfl)) (fN rfl (lf (I (s2_.getD s5.toNat default)) ty3 rfl) (fN rfl (EvN.ine rfl rfl) (TF.nil ?_)))
    refine T.ifH rfl h (fun q10 h => ?_) (fun q10 h => ?_)
    ·refine T.seq (T.clean (H0:=[]) (e0:=envOf []) rfl wkN (T.region (oN as' (TO.nil (T.ret (lX h fun h => ?_))))))
     obtain rfl:=osj h
     replace h:=congrArg some (show _=_ from ks2)
     obtain rfl:=osj h
     exact finR rfl rfl rfl
    ·refine T.skip (T.region (jW h fun g11 h=>oN (EvN.add rfl rfl g11) (oN mv (TO.nil ?_))))
     exact lE h (kw rfl rfl)
   ·refine T.exit (lX h fun h => ?_)
    obtain rfl:=osj h
    exact ⟨(),(),ks2,trivial,kw rfl rfl⟩
theorem F_laws_eqIntS_P (a:List Int) (b:List Int) {q:Bool} (h:F_laws_eqIntS a b=some q):PCall Try.prog 18 [eL cI a,eL cI b] (Bo q):=by
 refine pM Try.func18 rfl (by kernel_rfl) rfl (T.sr (oN as' (TO.nil (T.seq (T.sr (oN mv (oN (EvN.lenL sl23 rfl) (oN mv (oN (EvN.lenL sl23 rfl) (oN (EvN.ine rfl rfl) (TO.nil ?_)))))))))))
 refine T.ifH rfl h (fun q1 h => ?_) (fun q1 h => ?_)
 ·refine T.sr (oN as' (TO.nil (T.ret ?_)))
  obtain rfl:=osj h
  exact finR rfl rfl rfl
 ·refine T.skip ?_
  obtain ⟨Ks2,es2,ws2,h,ks2⟩:=sumL h
  refine T.join (S:=Unit) (G:=Unit) (fun s2=>Ks2 s2=some q) (fun s2 gh=>True) (fun s2 gh=>[]) (fun s2 gh=>[]) (fun s2 gh h hg => ?_) ?_
  ·clear ks2
   subst es2
   refine T.sr (oN as' (TO.nil (T.ret ?_)))
   obtain rfl:=osj h
   exact finR rfl rfl rfl
  ·refine T.sr (oN as' (TO.nil (T.block ?_)))
   refine T.lU h (fun s5=>[(5,I s5),(0,eL cI a),(1,eL cI b)]) (fun s5=>[]) (kw rfl rfl) (fun s5 ws5 h => ?_)
   refine T.seq (T.sr (oN mv (oN mv (oN (EvN.lenL sl23 rfl) (oN (EvN.ilt rfl rfl) (TO.nil ?_))))))
   refine T.ifH rfl h (fun q7 h => ?_) (fun q7 h => ?_)
   ·refine T.skip (T.seq (T.block (T.seq (T.drawF (fun _=>([],false)) (by kernel_rfl) (by kernel_rfl) (fN rfl mv (fN rfl mv (jD h fun g8 h=>fN rfl (EvN.ixL sl23 rfl rfl g8 (fun _=>rfl)) (fN rfl (lf (I (a.getD s5.toNat default)) ty3 rfl) (fN rfl mv (fN rfl mv (jD h fun g9 h=>fN rfl (EvN.ixL sl23 rfl rfl g9 (fun _=>rfl)) (fN rfl (lf (I (b.getD s5.toNat default)) ty3 rfl) (fN rfl (EvN.ine rfl rfl) ?_)))))))))))))
    refine TF.nil ?_
    refine T.ifH rfl h (fun q10 h => ?_) (fun q10 h => ?_)
    ·refine T.seq (T.clean (H0:=[]) (e0:=envOf []) rfl wkN (T.region (oN as' (TO.nil (T.ret (lX h fun h => ?_))))))
     obtain rfl:=osj h
     replace h:=congrArg some (show _=_ from ks2)
     obtain rfl:=osj h
     exact finR rfl rfl rfl
    ·refine T.skip (T.region (oN mv (jW h fun g11 h=>oN (EvN.add rfl rfl g11) (oN as' (TO.nil ?_)))))
     exact lE h (kw rfl rfl)
   ·refine T.exit (lX h fun h => ?_)
    obtain rfl:=osj h
    exact ⟨(),(),ks2,trivial,kw rfl rfl⟩
end Go.Proofs.Ytlmjnhnpahicmaa
