/-
 The program's code computes the functions over plain values; printed by lift.py. No conditions.
-/
import Derived.Test.YtlmjnhnpahicmaaS26d
import Derived.Test.YtlmjnhnpahicmaaSf
import Derived.Test.YtlmjnhnpahicmaaBrV
import Derived.Test.YtlmjnhnpahicmaaS262
namespace Go.Proofs.Ytlmjnhnpahicmaa
open Go.RowKit
set_option maxRecDepth 100000
theorem F_laws_eqIntS_P (a : List Int) (b : List Int) {q : Bool} (h : F_laws_eqIntS a b = some q) : PCall Try.prog 18 [eL cI a, eL cI b] (Bo q) := by
 refine PCall.mkT Try.func18 rfl (by kernel_rfl) rfl (by kernel_rfl) (e0 := envOf [(0, eL cI a), (1, eL cI b)]) (wkC rfl (wkC rfl wkN)) ?_
 refine T.seq ?_
 refine T.region ?_
 refine oN (EvN.asg (Bo false) rfl) ?_
 refine TO.nil ?_
 refine T.seq ?_
 refine T.seq ?_
 refine T.region ?_
 refine oN (EvN.mv (eL cI a) rfl) ?_
 refine oN (EvN.lenL sl23 rfl) ?_
 refine oN (EvN.mv (eL cI b) rfl) ?_
 refine oN (EvN.lenL sl23 rfl) ?_
 refine oN (EvN.ine rfl rfl) ?_
 refine TO.nil ?_
 refine T.cond rfl (fun q1 => ?_) (fun q1 => ?_)
 ·replace h := condT q1 h
  refine T.seq ?_
  refine T.clean (H0 := []) (e0 := envOf []) rfl wkN ?_
  refine T.region ?_
  refine oN (EvN.asg (Bo false) rfl) ?_
  refine TO.nil ?_
  refine T.ret ?_
  obtain rfl := osi h
  repeat (first|refine retS ?_|refine retB ?_)
  exact Fin.ret (vs := [Bo false]) (.cons (.tmp rfl) .nil) (.of_isF 9 _ rfl)
 ·replace h := condF q1 h
  refine T.skip ?_
  obtain ⟨Ks2, es2, ws2, h, ks2⟩ := sumL h
  refine T.join (S := Unit) (G := Unit) (fun s2 => Ks2 s2 = some q) (fun s2 gh => True) (fun s2 gh => []) (fun s2 gh => []) (fun s2 gh h hg => ?_) ?_
  ·clear ks2
   subst es2
   refine T.seq ?_
   refine T.region ?_
   refine oN (EvN.asg (Bo true) rfl) ?_
   refine TO.nil ?_
   refine T.ret ?_
   obtain rfl := osi h
   repeat (first|refine retS ?_|refine retB ?_)
   exact Fin.ret (vs := [Bo true]) (.cons (.tmp rfl) .nil) (.of_isF 9 _ rfl)
  ·refine T.seq ?_
   refine T.clean (H0 := []) (e0 := envOf [(0, eL cI a), (1, eL cI b)]) rfl (wkC rfl (wkC rfl wkN)) ?_
   refine T.region ?_
   refine oN (EvN.asg (I (0 : Int)) rfl) ?_
   refine TO.nil ?_
   refine T.block ?_
   refine T.loop (S := Int) (G := Unit) (F_laws_eqIntS_L6 a b) (fun s5 gh => True) (fun s5 gh => [(5, I s5), (0, eL cI a), (1, eL cI b)]) (fun s5 gh => []) (s0 := (0 : Int)) () h trivial (cutW rfl (wkC rfl (wkC rfl (wkC rfl wkN)))) (fun s5 gh ws5 h hg => ?_)
   refine T.seq ?_
   refine T.seq ?_
   refine T.region ?_
   refine oN (EvN.mv (I s5) rfl) ?_
   refine oN (EvN.mv (eL cI a) rfl) ?_
   refine oN (EvN.lenL sl23 rfl) ?_
   refine oN (EvN.ilt rfl rfl) ?_
   refine TO.nil ?_
   refine T.cond rfl (fun q7 => ?_) (fun q7 => ?_)
   ·replace h := condT q7 h
    refine T.skip ?_
    refine T.seq ?_
    refine T.block ?_
    refine T.seq ?_
    refine T.drawF (fun _ => ([], false)) (by kernel_rfl) (by kernel_rfl) ?_
    refine fN rfl (EvN.mv (eL cI a) rfl) ?_
    refine fN rfl (EvN.mv (I s5) rfl) ?_
    obtain ⟨g8, h⟩ := gdD h
    refine fN rfl (EvN.ixL sl23 rfl rfl g8 (fun _ => rfl)) ?_
    refine fN rfl (EvN.loadfp (I (a.getD s5.toNat default)) ty3 rfl rfl) ?_
    refine fN rfl (EvN.mv (eL cI b) rfl) ?_
    refine fN rfl (EvN.mv (I s5) rfl) ?_
    obtain ⟨g9, h⟩ := gdD h
    refine fN rfl (EvN.ixL sl23 rfl rfl g9 (fun _ => rfl)) ?_
    refine fN rfl (EvN.loadfp (I (b.getD s5.toNat default)) ty3 rfl rfl) ?_
    refine fN rfl (EvN.ine rfl rfl) ?_
    refine TF.nil ?_
    refine T.cond rfl (fun q10 => ?_) (fun q10 => ?_)
    ·replace h := condT q10 h
     refine T.seq ?_
     refine T.clean (H0 := []) (e0 := envOf []) rfl wkN ?_
     refine T.region ?_
     refine oN (EvN.asg (Bo false) rfl) ?_
     refine TO.nil ?_
     refine T.ret ?_
     refine ⟨_, (osi h).symm, fun h => ?_⟩
     replace h := congrArg some h
     obtain rfl := osi h
     replace h := congrArg some (show _ = _ from ks2)
     obtain rfl := osi h
     repeat (first|refine retS ?_|refine retB ?_)
     exact Fin.ret (vs := [Bo false]) (.cons (.tmp rfl) .nil) (.of_isF 9 _ rfl)
    ·replace h := condF q10 h
     refine T.skip ?_
     refine T.clean (H0 := []) (e0 := envOf [(5, I s5), (0, eL cI a), (1, eL cI b)]) rfl (wkC rfl (wkC rfl (wkC rfl wkN))) ?_
     refine T.region ?_
     refine oN (EvN.mv (I s5) rfl) ?_
     obtain ⟨g11, h⟩ := gdW h
     refine oN (EvN.add rfl rfl g11) ?_
     refine oN (EvN.asg (I (s5 + (1 : Int))) rfl) ?_
     refine TO.nil ?_
     obtain rfl := osi h
     exact ⟨(s5 + (1 : Int)), (), rfl, trivial, cutW rfl (wkC rfl (wkC rfl (wkC rfl wkN)))⟩
   ·replace h := condF q7 h
    refine T.exit ?_
    refine ⟨_, (osi h).symm, fun h => ?_⟩
    replace h := congrArg some h
    obtain rfl := osi h
    exact ⟨(), (), ks2, trivial, cutW rfl wkN⟩
end Go.Proofs.Ytlmjnhnpahicmaa
