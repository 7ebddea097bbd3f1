/-
  The program's code computes the functions over plain values; printed by lift.py. No conditions.
-/
import Derived.Test.YtjogdblionfmiaaSPd
import Derived.Test.YtjogdblionfmiaaSf
namespace Go.Proofs.Ytjogdblionfmiaa
open Go.RowKit
set_option maxRecDepth 100000
theorem F_slices_Equal_impl_Instr_impl_Instr_P (s1_ : List Ximpl_Instr) (s2_ : List Ximpl_Instr) {q : Bool} (h : F_slices_Equal_impl_Instr_impl_Instr s1_ s2_ = some q) : PCall Try.prog 70 [eL Ximpl_Instr.c s1_, eL Ximpl_Instr.c s2_] (Bo q) := by
  refine PCall.mkT Try.func70 rfl (by kernel_rfl) rfl (by kernel_rfl) (e0 := envOf [(0, eL Ximpl_Instr.c s1_), (1, eL Ximpl_Instr.c s2_)]) (weak_cons rfl (weak_cons rfl weak_nil)) ?_
  refine T.seq ?_
  refine T.region ?_
  refine oN (EvN.asg (Bo false) rfl) ?_
  refine TO.nil ?_
  refine T.seq ?_
  refine T.seq ?_
  refine T.region ?_
  refine oN (EvN.mv (eL Ximpl_Instr.c s1_) rfl) ?_
  refine oN (EvN.lenL sl78 rfl) ?_
  refine oN (EvN.mv (eL Ximpl_Instr.c s2_) rfl) ?_
  refine oN (EvN.lenL sl78 rfl) ?_
  refine oN (EvN.ine rfl rfl) ?_
  refine TO.nil ?_
  refine T.cond rfl (fun q1 => ?_) (fun q1 => ?_)
  · replace h := condT q1 h
    refine T.seq ?_
    refine T.clean (H0 := []) (e0 := envOf []) rfl weak_nil ?_
    refine T.region ?_
    refine oN (EvN.asg (Bo false) rfl) ?_
    refine TO.nil ?_
    refine T.ret ?_
    obtain rfl := Option.some.inj h
    repeat first | refine retS ?_ | refine retB ?_
    exact Fin.ret (vs := [Bo false]) (.cons (.tmp rfl) .nil) (.of_isF 9 _ rfl)
  · replace h := condF q1 h
    refine T.skip ?_
    obtain ⟨Ks2, es2, ws2, h, ks2⟩ := sumL h
    refine T.join (S := Unit) (G := Unit) (fun s2 => Ks2 s2 = some q) (fun s2 gh => True) (fun s2 gh => []) (fun s2 gh => []) (fun s2 gh h hg => ?_) ?_
    · clear ks2
      subst es2
      refine T.seq ?_
      refine T.region ?_
      refine oN (EvN.asg (Bo true) rfl) ?_
      refine TO.nil ?_
      refine T.ret ?_
      obtain rfl := Option.some.inj h
      repeat first | refine retS ?_ | refine retB ?_
      exact Fin.ret (vs := [Bo true]) (.cons (.tmp rfl) .nil) (.of_isF 9 _ rfl)
    · refine T.seq ?_
      refine T.clean (H0 := []) (e0 := envOf [(0, eL Ximpl_Instr.c s1_), (1, eL Ximpl_Instr.c s2_)]) rfl (weak_cons rfl (weak_cons rfl weak_nil)) ?_
      refine T.region ?_
      refine oN (EvN.mv (eL Ximpl_Instr.c s1_) rfl) ?_
      refine oN (EvN.lenL sl78 rfl) ?_
      refine oN (EvN.mv (I (0 : Int)) rfl) ?_
      refine TO.nil ?_
      refine T.block ?_
      refine T.loop (S := Int) (G := Unit) (F_slices_Equal_impl_Instr_impl_Instr_L4 s1_ s2_) (fun s3 gh => True) (fun s3 gh => [(13, I s3), (12, I (s1_.length : Int)), (0, eL Ximpl_Instr.c s1_), (1, eL Ximpl_Instr.c s2_)]) (fun s3 gh => []) (s0 := (0 : Int)) () h trivial (cutW rfl (weak_cons rfl (weak_cons rfl (weak_cons rfl (weak_cons rfl weak_nil))))) (fun s3 gh ws3 h hg => ?_)
      refine T.seq ?_
      refine T.region ?_
      refine oN (EvN.ilt rfl rfl) ?_
      refine TO.nil ?_
      refine T.seq ?_
      refine T.cond rfl (fun q5 => ?_) (fun q5 => ?_)
      · replace h := condT q5 h
        refine T.skip ?_
        refine T.seq ?_
        refine T.block ?_
        refine T.seq ?_
        refine T.region ?_
        refine oN (EvN.mv (I s3) rfl) ?_
        refine oN (EvN.asg (I s3) rfl) ?_
        refine TO.nil ?_
        refine T.seq ?_
        refine T.drawF (fun _ => ([], false)) (by kernel_rfl) (by kernel_rfl) ?_
        refine fN rfl (EvN.mv (eL Ximpl_Instr.c s1_) rfl) ?_
        refine fN rfl (EvN.mv (I s3) rfl) ?_
        obtain ⟨g6, h⟩ := gdD h
        refine fN rfl (EvN.ixL sl78 rfl rfl g6 (fun _ => rfl)) ?_
        refine fN rfl (EvN.loadfp (.agg (Ximpl_Instr.c (s1_.getD s3.toNat default))) ty81 rfl rfl) ?_
        refine fN rfl (EvN.mv (eL Ximpl_Instr.c s2_) rfl) ?_
        refine fN rfl (EvN.mv (I s3) rfl) ?_
        obtain ⟨g7, h⟩ := gdD h
        refine fN rfl (EvN.ixL sl78 rfl rfl g7 (fun _ => rfl)) ?_
        refine fN rfl (EvN.loadfp (.agg (Ximpl_Instr.c (s2_.getD s3.toNat default))) ty81 rfl rfl) ?_
        refine fN rfl (EvN.ane (((s1_.getD s3.toNat default).Op) == ((s2_.getD s3.toNat default).Op) && (((s1_.getD s3.toNat default).Loc) == ((s2_.getD s3.toNat default).Loc) && (((s1_.getD s3.toNat default).Reg) == ((s2_.getD s3.toNat default).Reg) && (((s1_.getD s3.toNat default).Val) == ((s2_.getD s3.toNat default).Val) && true)))) (cs := [I ((s1_.getD s3.toNat default).Op), I ((s1_.getD s3.toNat default).Loc), I ((s1_.getD s3.toNat default).Reg), I ((s1_.getD s3.toNat default).Val)]) (ds := [I ((s2_.getD s3.toNat default).Op), I ((s2_.getD s3.toNat default).Loc), I ((s2_.getD s3.toNat default).Reg), I ((s2_.getD s3.toNat default).Val)]) te81 rfl rfl (by kernel_rfl)) ?_
        refine TF.nil ?_
        refine T.cond rfl (fun q8 => ?_) (fun q8 => ?_)
        · replace h := condT q8 h
          refine T.seq ?_
          refine T.clean (H0 := []) (e0 := envOf []) rfl weak_nil ?_
          refine T.region ?_
          refine oN (EvN.asg (Bo false) rfl) ?_
          refine TO.nil ?_
          refine T.ret ?_
          refine ⟨_, (Option.some.inj h).symm, fun h => ?_⟩
          replace h := congrArg some h
          obtain rfl := Option.some.inj h
          replace h := congrArg some (show _ = _ from ks2)
          obtain rfl := Option.some.inj h
          repeat first | refine retS ?_ | refine retB ?_
          exact Fin.ret (vs := [Bo false]) (.cons (.tmp rfl) .nil) (.of_isF 9 _ rfl)
        · replace h := condF q8 h
          refine T.skip ?_
          refine T.clean (H0 := []) (e0 := envOf [(13, I s3), (12, I (s1_.length : Int)), (0, eL Ximpl_Instr.c s1_), (1, eL Ximpl_Instr.c s2_)]) rfl (weak_cons rfl (weak_cons rfl (weak_cons rfl (weak_cons rfl weak_nil)))) ?_
          refine T.region ?_
          obtain ⟨g9, h⟩ := gdW h
          refine oN (EvN.add rfl rfl g9) ?_
          refine oN (EvN.mv (I (s3 + (1 : Int))) rfl) ?_
          refine TO.nil ?_
          obtain rfl := Option.some.inj h
          exact ⟨(s3 + (1 : Int)), (), rfl, trivial, cutW rfl (weak_cons rfl (weak_cons rfl (weak_cons rfl (weak_cons rfl weak_nil))))⟩
      · replace h := condF q5 h
        refine T.exit ?_
        refine ⟨_, (Option.some.inj h).symm, fun h => ?_⟩
        replace h := congrArg some h
        obtain rfl := Option.some.inj h
        exact ⟨(), (), ks2, trivial, cutW rfl weak_nil⟩

theorem F_impl_ProgramSame_1_P (x : List Ximpl_Instr) (y : List Ximpl_Instr) {q : Bool} (h : F_impl_ProgramSame_1 x y = some q) : PCall Try.prog 69 [eL Ximpl_Instr.c x, eL Ximpl_Instr.c y] (Bo q) := by
  refine PCall.mkT Try.func69 rfl (by kernel_rfl) rfl (by kernel_rfl) (e0 := envOf [(0, eL Ximpl_Instr.c x), (1, eL Ximpl_Instr.c y)]) (weak_cons rfl (weak_cons rfl weak_nil)) ?_
  refine T.seq ?_
  refine T.region ?_
  refine oN (EvN.asg (Bo false) rfl) ?_
  refine TO.nil ?_
  refine T.seq ?_
  refine T.region ?_
  refine oN (EvN.mv (eL Ximpl_Instr.c x) rfl) ?_
  refine oN (EvN.mv (eL Ximpl_Instr.c y) rfl) ?_
  obtain ⟨v1, cv1, h⟩ := bindL h
  refine oN (EvN.call rfl rfl rfl (F_slices_Equal_impl_Instr_impl_Instr_P x y cv1) rfl) ?_
  refine oN (EvN.asg (Bo v1) rfl) ?_
  refine TO.nil ?_
  refine T.ret ?_
  obtain rfl := Option.some.inj h
  repeat first | refine retS ?_ | refine retB ?_
  exact Fin.ret (vs := [Bo v1]) (.cons (.tmp rfl) .nil) (.of_isF 9 _ rfl)

theorem F_slices_EqualFunc_impl_Instr_impl_Instr_impl_Instr_impl_Instr__impl_ProgramSame_1_P (s1_ : List (List Ximpl_Instr)) (s2_ : List (List Ximpl_Instr)) {q : Bool} (h : F_slices_EqualFunc_impl_Instr_impl_Instr_impl_Instr_impl_Instr__impl_ProgramSame_1 s1_ s2_ = some q) : PCall Try.prog 68 [eL (cL Ximpl_Instr.c) s1_, eL (cL Ximpl_Instr.c) s2_, .fn (.func 69) []] (Bo q) := by
  refine PCall.mkT Try.func68 rfl (by kernel_rfl) rfl (by kernel_rfl) (e0 := envOf [(0, eL (cL Ximpl_Instr.c) s1_), (1, eL (cL Ximpl_Instr.c) s2_), (2, .fn (.func 69) [])]) (weak_cons rfl (weak_cons rfl (weak_cons rfl weak_nil))) ?_
  refine T.seq ?_
  refine T.region ?_
  refine oN (EvN.asg (Bo false) rfl) ?_
  refine TO.nil ?_
  refine T.seq ?_
  refine T.seq ?_
  refine T.region ?_
  refine oN (EvN.mv (eL (cL Ximpl_Instr.c) s1_) rfl) ?_
  refine oN (EvN.lenL sl23 rfl) ?_
  refine oN (EvN.mv (eL (cL Ximpl_Instr.c) s2_) rfl) ?_
  refine oN (EvN.lenL sl23 rfl) ?_
  refine oN (EvN.ine rfl rfl) ?_
  refine TO.nil ?_
  refine T.cond rfl (fun q1 => ?_) (fun q1 => ?_)
  · replace h := condT q1 h
    refine T.seq ?_
    refine T.clean (H0 := []) (e0 := envOf []) rfl weak_nil ?_
    refine T.region ?_
    refine oN (EvN.asg (Bo false) rfl) ?_
    refine TO.nil ?_
    refine T.ret ?_
    obtain rfl := Option.some.inj h
    repeat first | refine retS ?_ | refine retB ?_
    exact Fin.ret (vs := [Bo false]) (.cons (.tmp rfl) .nil) (.of_isF 9 _ rfl)
  · replace h := condF q1 h
    refine T.skip ?_
    obtain ⟨Ks2, es2, ws2, h, ks2⟩ := sumL h
    refine T.join (S := Unit) (G := Unit) (fun s2 => Ks2 s2 = some q) (fun s2 gh => True) (fun s2 gh => []) (fun s2 gh => []) (fun s2 gh h hg => ?_) ?_
    · clear ks2
      subst es2
      refine T.seq ?_
      refine T.region ?_
      refine oN (EvN.asg (Bo true) rfl) ?_
      refine TO.nil ?_
      refine T.ret ?_
      obtain rfl := Option.some.inj h
      repeat first | refine retS ?_ | refine retB ?_
      exact Fin.ret (vs := [Bo true]) (.cons (.tmp rfl) .nil) (.of_isF 9 _ rfl)
    · refine T.seq ?_
      refine T.clean (H0 := []) (e0 := envOf [(0, eL (cL Ximpl_Instr.c) s1_), (1, eL (cL Ximpl_Instr.c) s2_), (2, .fn (.func 69) [])]) rfl (weak_cons rfl (weak_cons rfl (weak_cons rfl weak_nil))) ?_
      refine T.region ?_
      refine oN (EvN.mv (eL (cL Ximpl_Instr.c) s1_) rfl) ?_
      refine oN (EvN.lenL sl23 rfl) ?_
      refine oN (EvN.mv (I (0 : Int)) rfl) ?_
      refine TO.nil ?_
      refine T.block ?_
      refine T.loop (S := Int) (G := Unit) (F_slices_EqualFunc_impl_Instr_impl_Instr_impl_Instr_impl_Instr__impl_ProgramSame_1_L4 s1_ s2_) (fun s3 gh => True) (fun s3 gh => [(17, I s3), (16, I (s1_.length : Int)), (15, eL (cL Ximpl_Instr.c) s1_), (1, eL (cL Ximpl_Instr.c) s2_), (2, .fn (.func 69) [])]) (fun s3 gh => []) (s0 := (0 : Int)) () h trivial (cutW rfl (weak_cons rfl (weak_cons rfl (weak_cons rfl (weak_cons rfl (weak_cons rfl weak_nil)))))) (fun s3 gh ws3 h hg => ?_)
      refine T.seq ?_
      refine T.region ?_
      refine oN (EvN.ilt rfl rfl) ?_
      refine TO.nil ?_
      refine T.seq ?_
      refine T.cond rfl (fun q5 => ?_) (fun q5 => ?_)
      · replace h := condT q5 h
        refine T.skip ?_
        refine T.seq ?_
        refine T.block ?_
        refine T.seq ?_
        refine T.region ?_
        refine oN (EvN.mv (I s3) rfl) ?_
        obtain ⟨g6, h⟩ := gdD h
        refine oN (EvN.ixL sl23 rfl rfl g6 (fun _ => rfl)) ?_
        refine oN (EvN.loadfp (eL Ximpl_Instr.c (s1_.getD s3.toNat default)) ty78 rfl rfl) ?_
        refine oN (EvN.asg (I s3) rfl) ?_
        refine oN (EvN.asg (eL Ximpl_Instr.c (s1_.getD s3.toNat default)) rfl) ?_
        refine TO.nil ?_
        refine T.seq ?_
        refine T.region ?_
        refine oN (EvN.mv (eL (cL Ximpl_Instr.c) s2_) rfl) ?_
        refine oN (EvN.mv (I s3) rfl) ?_
        obtain ⟨g7, h⟩ := gdD h
        refine oN (EvN.ixL sl23 rfl rfl g7 (fun _ => rfl)) ?_
        refine oN (EvN.loadfp (eL Ximpl_Instr.c (s2_.getD s3.toNat default)) ty78 rfl rfl) ?_
        refine oN (EvN.asg (eL Ximpl_Instr.c (s2_.getD s3.toNat default)) rfl) ?_
        refine TO.nil ?_
        refine T.seq ?_
        refine T.clean (H0 := []) (e0 := envOf [(9, eL Ximpl_Instr.c (s2_.getD s3.toNat default)), (8, eL Ximpl_Instr.c (s1_.getD s3.toNat default)), (17, I s3), (16, I (s1_.length : Int)), (15, eL (cL Ximpl_Instr.c) s1_), (1, eL (cL Ximpl_Instr.c) s2_), (2, .fn (.func 69) [])]) rfl (weak_cons rfl (weak_cons rfl (weak_cons rfl (weak_cons rfl (weak_cons rfl (weak_cons rfl (weak_cons rfl weak_nil))))))) ?_
        refine T.region ?_
        refine oN (EvN.mv (.fn (.func 69) []) rfl) ?_
        refine oN (EvN.mv (eL Ximpl_Instr.c (s1_.getD s3.toNat default)) rfl) ?_
        refine oN (EvN.mv (eL Ximpl_Instr.c (s2_.getD s3.toNat default)) rfl) ?_
        obtain ⟨v8, cv8, h⟩ := bindL h
        refine oN (EvN.call rfl rfl rfl (F_impl_ProgramSame_1_P (s1_.getD s3.toNat default) (s2_.getD s3.toNat default) cv8) rfl) ?_
        refine oN (EvN.not rfl) ?_
        refine TO.nil ?_
        refine T.cond rfl (fun q9 => ?_) (fun q9 => ?_)
        · replace h := condT q9 h
          refine T.seq ?_
          refine T.clean (H0 := []) (e0 := envOf []) rfl weak_nil ?_
          refine T.region ?_
          refine oN (EvN.asg (Bo false) rfl) ?_
          refine TO.nil ?_
          refine T.ret ?_
          refine ⟨_, (Option.some.inj h).symm, fun h => ?_⟩
          replace h := congrArg some h
          obtain rfl := Option.some.inj h
          replace h := congrArg some (show _ = _ from ks2)
          obtain rfl := Option.some.inj h
          repeat first | refine retS ?_ | refine retB ?_
          exact Fin.ret (vs := [Bo false]) (.cons (.tmp rfl) .nil) (.of_isF 9 _ rfl)
        · replace h := condF q9 h
          refine T.skip ?_
          refine T.clean (H0 := []) (e0 := envOf [(17, I s3), (16, I (s1_.length : Int)), (15, eL (cL Ximpl_Instr.c) s1_), (1, eL (cL Ximpl_Instr.c) s2_), (2, .fn (.func 69) [])]) rfl (weak_cons rfl (weak_cons rfl (weak_cons rfl (weak_cons rfl (weak_cons rfl weak_nil))))) ?_
          refine T.region ?_
          obtain ⟨g10, h⟩ := gdW h
          refine oN (EvN.add rfl rfl g10) ?_
          refine oN (EvN.mv (I (s3 + (1 : Int))) rfl) ?_
          refine TO.nil ?_
          obtain rfl := Option.some.inj h
          exact ⟨(s3 + (1 : Int)), (), rfl, trivial, cutW rfl (weak_cons rfl (weak_cons rfl (weak_cons rfl (weak_cons rfl (weak_cons rfl weak_nil)))))⟩
      · replace h := condF q5 h
        refine T.exit ?_
        refine ⟨_, (Option.some.inj h).symm, fun h => ?_⟩
        replace h := congrArg some h
        obtain rfl := Option.some.inj h
        exact ⟨(), (), ks2, trivial, cutW rfl weak_nil⟩

theorem F_impl_ProgramSame_P (a : List (List Ximpl_Instr)) (b : List (List Ximpl_Instr)) {q : Bool} (h : F_impl_ProgramSame a b = some q) : PCall Try.prog 15 [eL (cL Ximpl_Instr.c) a, eL (cL Ximpl_Instr.c) b] (Bo q) := by
  refine PCall.mkT Try.func15 rfl (by kernel_rfl) rfl (by kernel_rfl) (e0 := envOf [(0, eL (cL Ximpl_Instr.c) a), (1, eL (cL Ximpl_Instr.c) b)]) (weak_cons rfl (weak_cons rfl weak_nil)) ?_
  refine T.seq ?_
  refine T.region ?_
  refine oN (EvN.asg (Bo false) rfl) ?_
  refine TO.nil ?_
  refine T.seq ?_
  refine T.region ?_
  refine oN (EvN.mv (eL (cL Ximpl_Instr.c) a) rfl) ?_
  refine oN (EvN.mv (eL (cL Ximpl_Instr.c) b) rfl) ?_
  obtain ⟨v1, cv1, h⟩ := bindL h
  refine oN (EvN.call rfl rfl rfl (F_slices_EqualFunc_impl_Instr_impl_Instr_impl_Instr_impl_Instr__impl_ProgramSame_1_P a b cv1) rfl) ?_
  refine oN (EvN.asg (Bo v1) rfl) ?_
  refine TO.nil ?_
  refine T.ret ?_
  obtain rfl := Option.some.inj h
  repeat first | refine retS ?_ | refine retB ?_
  exact Fin.ret (vs := [Bo v1]) (.cons (.tmp rfl) .nil) (.of_isF 9 _ rfl)
end Go.Proofs.Ytjogdblionfmiaa
