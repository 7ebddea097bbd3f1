/-
  The program's code computes the functions over plain values; printed by lift.py. No conditions.
-/
import Derived.Test.YtjogdblionfmiaaDoorS15d
import Derived.Test.YtjogdblionfmiaaDoorSf
import Derived.Test.YtjogdblionfmiaaDoorSE1
namespace Go.Proofs.YtjogdblionfmiaaDoor
open Go.RowKit
set_option maxRecDepth 100000
theorem F_laws_szInstrS_P (a : List Xlaws_Instr) (left : Int) {q : Int} (h : F_laws_szInstrS a left = some q) : PCall Tryd.prog 14 [eL Xlaws_Instr.c a, I left] (I q) := by
  refine PCall.mkT Tryd.func14 rfl (by kernel_rfl) rfl (by kernel_rfl) (e0 := envOf [(0, eL Xlaws_Instr.c a), (1, I left)]) (weak_cons rfl (weak_cons rfl weak_nil)) ?_
  refine T.seq ?_
  refine T.region ?_
  refine oN (EvN.asg (I (0 : Int)) rfl) ?_
  refine TO.nil ?_
  refine T.seq ?_
  refine T.region ?_
  refine oN (EvN.mv (I left) rfl) ?_
  refine oN (EvN.mv (eL Xlaws_Instr.c a) rfl) ?_
  refine oN (EvN.lenL sl42 rfl) ?_
  obtain ⟨g1, h⟩ := gdW h
  refine oN (EvN.sub rfl rfl g1) ?_
  refine oN (EvN.asg (I (left - (a.length : Int))) rfl) ?_
  refine TO.nil ?_
  refine T.seq ?_
  refine T.seq ?_
  refine T.clean (H0 := []) (e0 := envOf [(1, I (left - (a.length : Int)))]) rfl (weak_cons rfl weak_nil) ?_
  refine T.region ?_
  refine oN (EvN.mv (I (left - (a.length : Int))) rfl) ?_
  refine oN (EvN.ilt rfl rfl) ?_
  refine TO.nil ?_
  refine T.cond rfl (fun q2 => ?_) (fun q2 => ?_)
  · replace h := condT q2 h
    refine T.seq ?_
    refine T.region ?_
    refine oN (EvN.asg (I (-1 : Int)) rfl) ?_
    refine TO.nil ?_
    refine T.ret ?_
    obtain rfl := Option.some.inj h
    repeat first | refine retS ?_ | refine retB ?_
    exact Fin.ret (vs := [I (-1 : Int)]) (.cons (.tmp rfl) .nil) (.of_isF 9 _ rfl)
  · replace h := condF q2 h
    refine T.skip ?_
    refine T.seq ?_
    refine T.region ?_
    refine oN (EvN.mv (I (left - (a.length : Int))) rfl) ?_
    refine oN (EvN.asg (I (left - (a.length : Int))) rfl) ?_
    refine TO.nil ?_
    refine T.ret ?_
    obtain rfl := Option.some.inj h
    repeat first | refine retS ?_ | refine retB ?_
    exact Fin.ret (vs := [I (left - (a.length : Int))]) (.cons (.tmp rfl) .nil) (.of_isF 9 _ rfl)

theorem F_laws_szInstrSS_P (a : List (List Xlaws_Instr)) (left : Int) {q : Int} (h : F_laws_szInstrSS a left = some q) : PCall Tryd.prog 6 [eL (cL Xlaws_Instr.c) a, I left] (I q) := by
  refine PCall.mkT Tryd.func6 rfl (by kernel_rfl) rfl (by kernel_rfl) (e0 := envOf [(0, eL (cL Xlaws_Instr.c) a), (1, I left)]) (weak_cons rfl (weak_cons rfl weak_nil)) ?_
  refine T.seq ?_
  refine T.region ?_
  refine oN (EvN.asg (I (0 : Int)) rfl) ?_
  refine TO.nil ?_
  refine T.seq ?_
  refine T.region ?_
  refine oN (EvN.mv (I left) rfl) ?_
  refine oN (EvN.mv (eL (cL Xlaws_Instr.c) a) rfl) ?_
  refine oN (EvN.lenL sl22 rfl) ?_
  obtain ⟨g1, h⟩ := gdW h
  refine oN (EvN.sub rfl rfl g1) ?_
  refine oN (EvN.asg (I (left - (a.length : Int))) rfl) ?_
  refine TO.nil ?_
  refine T.seq ?_
  refine T.seq ?_
  refine T.clean (H0 := []) (e0 := envOf [(1, I (left - (a.length : Int))), (0, eL (cL Xlaws_Instr.c) a)]) rfl (weak_cons rfl (weak_cons rfl weak_nil)) ?_
  refine T.region ?_
  refine oN (EvN.mv (I (left - (a.length : Int))) rfl) ?_
  refine oN (EvN.ilt rfl rfl) ?_
  refine TO.nil ?_
  refine T.cond rfl (fun q2 => ?_) (fun q2 => ?_)
  · replace h := condT q2 h
    refine T.seq ?_
    refine T.region ?_
    refine oN (EvN.asg (I (-1 : Int)) rfl) ?_
    refine TO.nil ?_
    refine T.ret ?_
    obtain rfl := Option.some.inj h
    repeat first | refine retS ?_ | refine retB ?_
    exact Fin.ret (vs := [I (-1 : Int)]) (.cons (.tmp rfl) .nil) (.of_isF 9 _ rfl)
  · replace h := condF q2 h
    refine T.skip ?_
    obtain ⟨Ks3, es3, ws3, h, ks3⟩ := sumL h
    refine T.join (S := Int) (G := Unit) (fun s3 => Ks3 s3 = some q) (fun s3 gh => True) (fun s3 gh => [(1, I s3)]) (fun s3 gh => []) (fun s3 gh h hg => ?_) ?_
    · clear ks3
      subst es3
      refine T.seq ?_
      refine T.region ?_
      refine oN (EvN.mv (I s3) rfl) ?_
      refine oN (EvN.asg (I s3) rfl) ?_
      refine TO.nil ?_
      refine T.ret ?_
      obtain rfl := Option.some.inj h
      repeat first | refine retS ?_ | refine retB ?_
      exact Fin.ret (vs := [I s3]) (.cons (.tmp rfl) .nil) (.of_isF 9 _ rfl)
    · refine T.seq ?_
      refine T.region ?_
      refine oN (EvN.asg (I (0 : Int)) rfl) ?_
      refine TO.nil ?_
      refine T.block ?_
      refine T.loop (S := Int × Int) (G := Unit) (F_laws_szInstrSS_L5 a) (fun s4 gh => True) (fun s4 gh => [(5, I s4.1), (1, I s4.2), (0, eL (cL Xlaws_Instr.c) a)]) (fun s4 gh => []) (s0 := ((0 : Int), (left - (a.length : Int)))) () h trivial (cutW rfl (weak_cons rfl (weak_cons rfl (weak_cons rfl weak_nil)))) (fun s4 gh ws4 h hg => ?_)
      refine T.seq ?_
      refine T.seq ?_
      refine T.region ?_
      refine oN (EvN.mv (I s4.1) rfl) ?_
      refine oN (EvN.mv (eL (cL Xlaws_Instr.c) a) rfl) ?_
      refine oN (EvN.lenL sl22 rfl) ?_
      refine oN (EvN.ilt rfl rfl) ?_
      refine TO.nil ?_
      refine T.cond rfl (fun q6 => ?_) (fun q6 => ?_)
      · replace h := condT q6 h
        refine T.skip ?_
        refine T.seq ?_
        refine T.block ?_
        refine T.seq ?_
        refine T.region ?_
        refine oN (EvN.mv (eL (cL Xlaws_Instr.c) a) rfl) ?_
        refine oN (EvN.mv (I s4.1) rfl) ?_
        obtain ⟨g7, h⟩ := gdD h
        refine oN (EvN.ixL sl22 rfl rfl g7 (fun _ => rfl)) ?_
        refine oN (EvN.loadfp (eL Xlaws_Instr.c (a.getD s4.1.toNat default)) ty42 rfl rfl) ?_
        refine oN (EvN.mv (I s4.2) rfl) ?_
        obtain ⟨v8, cv8, h⟩ := bindL h
        refine oN (EvN.call rfl rfl rfl (F_laws_szInstrS_P (a.getD s4.1.toNat default) s4.2 cv8) rfl) ?_
        refine oN (EvN.asg (I v8) rfl) ?_
        refine TO.nil ?_
        refine T.seq ?_
        refine T.clean (H0 := []) (e0 := envOf [(1, I v8), (5, I s4.1), (0, eL (cL Xlaws_Instr.c) a)]) rfl (weak_cons rfl (weak_cons rfl (weak_cons rfl weak_nil))) ?_
        refine T.region ?_
        refine oN (EvN.mv (I v8) rfl) ?_
        refine oN (EvN.ilt rfl rfl) ?_
        refine TO.nil ?_
        refine T.cond rfl (fun q9 => ?_) (fun q9 => ?_)
        · replace h := condT q9 h
          refine T.seq ?_
          refine T.region ?_
          refine oN (EvN.asg (I (-1 : Int)) rfl) ?_
          refine TO.nil ?_
          refine T.ret ?_
          refine ⟨_, (Option.some.inj h).symm, fun h => ?_⟩
          replace h := congrArg some h
          obtain rfl := Option.some.inj h
          replace h := congrArg some (show _ = _ from ks3)
          obtain rfl := Option.some.inj h
          repeat first | refine retS ?_ | refine retB ?_
          exact Fin.ret (vs := [I (-1 : Int)]) (.cons (.tmp rfl) .nil) (.of_isF 9 _ rfl)
        · replace h := condF q9 h
          refine T.skip ?_
          refine T.region ?_
          refine oN (EvN.mv (I s4.1) rfl) ?_
          obtain ⟨g10, h⟩ := gdW h
          refine oN (EvN.add rfl rfl g10) ?_
          refine oN (EvN.asg (I (s4.1 + (1 : Int))) rfl) ?_
          refine TO.nil ?_
          obtain rfl := Option.some.inj h
          exact ⟨((s4.1 + (1 : Int)), v8), (), rfl, trivial, cutW rfl (weak_cons rfl (weak_cons rfl (weak_cons rfl weak_nil)))⟩
      · replace h := condF q6 h
        refine T.exit ?_
        refine ⟨_, (Option.some.inj h).symm, fun h => ?_⟩
        replace h := congrArg some h
        obtain rfl := Option.some.inj h
        exact ⟨s4.2, (), ks3, trivial, cutW rfl (weak_cons rfl weak_nil)⟩

theorem F_laws_toInstr_P (a : Xlaws_Instr) {q : Ximpl_Instr} (h : F_laws_toInstr a = some q) : PCall Tryd.prog 34 [.agg (Xlaws_Instr.c a)] (.agg (Ximpl_Instr.c q)) := by
  refine PCall.mkT Tryd.func34 rfl (by kernel_rfl) rfl (by kernel_rfl) (e0 := envOf [(0, .agg (Xlaws_Instr.c a))]) (weak_cons rfl weak_nil) ?_
  refine T.seq ?_
  refine T.region ?_
  refine oN (EvN.bxF [I a.Op, I a.Loc, I a.Reg, I a.Val] rfl rfl rfl) ?_
  refine oA (EvA.al zs39 rfl rfl) ?_
  refine TO.nil ?_
  refine T.seq ?_
  refine T.region ?_
  refine oA (EvA.al zs39 rfl rfl) ?_
  refine TO.nil ?_
  refine T.seq ?_
  refine T.region ?_
  refine oN (EvN.fafp Tryd.underlying58 rfl (by kernel_rfl) rfl) ?_
  refine oN (EvN.loadfp (I a.Op) ty3 rfl rfl) ?_
  refine oN (EvN.fahp Tryd.underlying39 rfl (by kernel_rfl) rfl) ?_
  refine oV (EvA.st (cs := [I a.Op]) ⟨0, 4, 39, [[I a.Op, I (0 : Int), I (0 : Int), I (0 : Int)]]⟩ ty3 rfl rfl rfl rfl rfl rfl rfl rfl rfl) ?_
  refine TO.nil ?_
  refine T.seq ?_
  refine T.region ?_
  refine oN (EvN.fafp Tryd.underlying58 rfl (by kernel_rfl) rfl) ?_
  refine oN (EvN.loadfp (I a.Loc) ty3 rfl rfl) ?_
  refine oN (EvN.fahp Tryd.underlying39 rfl (by kernel_rfl) rfl) ?_
  refine oV (EvA.st (cs := [I a.Loc]) ⟨0, 4, 39, [[I a.Op, I a.Loc, I (0 : Int), I (0 : Int)]]⟩ ty3 rfl rfl rfl rfl rfl rfl rfl rfl rfl) ?_
  refine TO.nil ?_
  refine T.seq ?_
  refine T.clean (H0 := [some ⟨0, 4, 39, [[I (0 : Int), I (0 : Int), I (0 : Int), I (0 : Int)]]⟩, some ⟨0, 4, 39, [[I a.Op, I a.Loc, I (0 : Int), I (0 : Int)]]⟩]) (e0 := envOf [(3, .hp 1 0 4 0 0), (2, .hp 0 0 4 0 0), (1, .fp (Xlaws_Instr.c a) 0)]) rfl (weak_cons rfl (weak_cons rfl (weak_cons rfl weak_nil))) ?_
  refine T.region ?_
  refine oN (EvN.fafp Tryd.underlying58 rfl (by kernel_rfl) rfl) ?_
  refine oN (EvN.loadfp (I a.Reg) ty3 rfl rfl) ?_
  refine oN (EvN.fahp Tryd.underlying39 rfl (by kernel_rfl) rfl) ?_
  refine oV (EvA.st (cs := [I a.Reg]) ⟨0, 4, 39, [[I a.Op, I a.Loc, I a.Reg, I (0 : Int)]]⟩ ty3 rfl rfl rfl rfl rfl rfl rfl rfl rfl) ?_
  refine TO.nil ?_
  refine T.seq ?_
  refine T.region ?_
  refine oN (EvN.fafp Tryd.underlying58 rfl (by kernel_rfl) rfl) ?_
  refine oN (EvN.loadfp (I a.Val) ty3 rfl rfl) ?_
  refine oN (EvN.fahp Tryd.underlying39 rfl (by kernel_rfl) rfl) ?_
  refine oV (EvA.st (cs := [I a.Val]) ⟨0, 4, 39, [[I a.Op, I a.Loc, I a.Reg, I a.Val]]⟩ ty3 rfl rfl rfl rfl rfl rfl rfl rfl rfl) ?_
  refine TO.nil ?_
  refine T.seq ?_
  refine T.clean (H0 := [some ⟨0, 4, 39, [[I (0 : Int), I (0 : Int), I (0 : Int), I (0 : Int)]]⟩, some ⟨0, 4, 39, [[I a.Op, I a.Loc, I a.Reg, I a.Val]]⟩]) (e0 := envOf [(3, .hp 1 0 4 0 0), (2, .hp 0 0 4 0 0)]) rfl (weak_cons rfl (weak_cons rfl weak_nil)) ?_
  refine T.region ?_
  refine oA (EvA.loadhp (.agg [I a.Op, I a.Loc, I a.Reg, I a.Val]) ty39 rfl rfl rfl rfl rfl rfl) ?_
  refine oV (EvA.st (cs := [I a.Op, I a.Loc, I a.Reg, I a.Val]) ⟨0, 4, 39, [[I a.Op, I a.Loc, I a.Reg, I a.Val]]⟩ ty39 rfl rfl rfl rfl rfl rfl rfl rfl rfl) ?_
  refine TO.nil ?_
  refine T.ret ?_
  obtain rfl := Option.some.inj h
  repeat first | refine retS ?_ | refine retB ?_
  exact Fin.ret (vs := [.agg [I a.Op, I a.Loc, I a.Reg, I a.Val]]) (.cons (.cell (.agg [I a.Op, I a.Loc, I a.Reg, I a.Val]) ty39 rfl rfl rfl rfl rfl rfl) .nil) (.of_isF 9 _ rfl)

theorem F_laws_toInstrS_P (a : List Xlaws_Instr) {q : (List Ximpl_Instr)} (h : F_laws_toInstrS a = some q) : PCall Tryd.prog 17 [eL Xlaws_Instr.c a] (eL Ximpl_Instr.c q) := by
  refine PCall.mkT Tryd.func17 rfl (by kernel_rfl) rfl (by kernel_rfl) (e0 := envOf [(0, eL Xlaws_Instr.c a)]) (weak_cons rfl weak_nil) ?_
  refine T.seq ?_
  refine T.region ?_
  refine oN (EvN.asg (.nil) rfl) ?_
  refine TO.nil ?_
  refine T.seq ?_
  refine T.region ?_
  refine oN (EvN.mv (eL Xlaws_Instr.c a) rfl) ?_
  refine oN (EvN.lenL sl42 rfl) ?_
  obtain ⟨g1, h⟩ := gdD h
  refine oA (EvA.mkN (c := Ximpl_Instr.c) (default : Ximpl_Instr) sl40 rfl rfl g1 rfl rfl rfl) ?_
  refine oN (EvN.asg (hS false 0 0 4 ((List.replicate (a.length : Int).toNat (default : Ximpl_Instr)).length)) rfl) ?_
  refine TO.nil ?_
  obtain ⟨s2, h, ks2⟩ := bindL h
  refine T.joinF (G := Nat) (fun gh => True) (fun gh => [(3, hS false 0 gh 4 s2.length)]) (fun gh => [bE false gh 4 39 (s2.map Ximpl_Instr.c)]) (fun u12 hg => ?_) ?_
  · clear h
    have h := ks2
    clear ks2
    refine T.seq ?_
    refine T.region ?_
    refine oN (EvN.mv (hS false 0 u12 4 s2.length) rfl) ?_
    refine oN (EvN.asg (hS false 0 u12 4 s2.length) rfl) ?_
    refine TO.nil ?_
    refine T.ret ?_
    obtain rfl := Option.some.inj h
    repeat first | refine retS ?_ | refine retB ?_
    exact Fin.ret (vs := [hS false 0 u12 4 s2.length]) (.cons (.tmp rfl) .nil) (Fz.own (g := false) (ver := u12) (l := s2) rfl rfl rfl nofun Ximpl_Instr.isF)
  · clear ks2
    refine T.seq ?_
    refine T.region ?_
    refine oN (EvN.asg (I (0 : Int)) rfl) ?_
    refine TO.nil ?_
    refine T.block ?_
    refine T.loop (S := (List Ximpl_Instr) × Int) (G := Nat) (F_laws_toInstrS_L5 a) (fun s4 gh => True) (fun s4 gh => [(4, I s4.2), (3, hS false 0 gh 4 s4.1.length), (0, eL Xlaws_Instr.c a)]) (fun s4 gh => [bE false gh 4 39 (s4.1.map Ximpl_Instr.c)]) (s0 := ((List.replicate (a.length : Int).toNat (default : Ximpl_Instr)), (0 : Int))) 0 h trivial (cutW rfl (weak_cons rfl (weak_cons rfl (weak_cons rfl weak_nil)))) (fun s4 u6 ws4 h hg => ?_)
    refine T.seq ?_
    refine T.seq ?_
    refine T.region ?_
    refine oN (EvN.mv (I s4.2) rfl) ?_
    refine oN (EvN.mv (eL Xlaws_Instr.c a) rfl) ?_
    refine oN (EvN.lenL sl42 rfl) ?_
    refine oN (EvN.ilt rfl rfl) ?_
    refine TO.nil ?_
    refine T.cond rfl (fun q7 => ?_) (fun q7 => ?_)
    · replace h := condT q7 h
      refine T.skip ?_
      refine T.seq ?_
      refine T.block ?_
      refine T.region ?_
      refine oN (EvN.mv (hS false 0 u6 4 s4.1.length) rfl) ?_
      refine oN (EvN.mv (I s4.2) rfl) ?_
      refine oN (EvN.mv (eL Xlaws_Instr.c a) rfl) ?_
      refine oN (EvN.mv (I s4.2) rfl) ?_
      obtain ⟨g8, h⟩ := gdD h
      refine oN (EvN.ixL sl42 rfl rfl g8 (fun _ => rfl)) ?_
      refine oN (EvN.loadfp (.agg (Xlaws_Instr.c (a.getD s4.2.toNat default))) ty58 rfl rfl) ?_
      obtain ⟨v9, cv9, h⟩ := bindL h
      refine oN (EvN.call rfl rfl rfl (F_laws_toInstr_P (a.getD s4.2.toNat default) cv9) rfl) ?_
      obtain ⟨g10, h⟩ := gdD h
      refine oN (EvN.ixO (g := false) sl40 rfl rfl nofun g10) ?_
      refine oV (EvA.stO (g := false) (l := s4.1) (cs := [I v9.Op, I v9.Loc, I v9.Reg, I v9.Val]) v9 ty39 rfl rfl rfl nofun (toNat_lt' rfl g10) rfl rfl rfl) ?_
      refine TO.nil ?_
      refine T.clean (H0 := [bE false u6 4 39 ((s4.1.set s4.2.toNat v9).map Ximpl_Instr.c)]) (e0 := envOf [(4, I s4.2), (3, hS false 0 u6 4 s4.1.length), (0, eL Xlaws_Instr.c a)]) rfl (weak_cons rfl (weak_cons rfl (weak_cons rfl weak_nil))) ?_
      refine T.region ?_
      refine oN (EvN.mv (I s4.2) rfl) ?_
      obtain ⟨g11, h⟩ := gdW h
      refine oN (EvN.add rfl rfl g11) ?_
      refine oN (EvN.asg (I (s4.2 + (1 : Int))) rfl) ?_
      refine TO.nil ?_
      obtain rfl := Option.some.inj h
      exact ⟨((s4.1.set s4.2.toNat v9), (s4.2 + (1 : Int))), u6, rfl, trivial, cutW rfl (weak_cons rfl (weak_cons (congrArg (hS false 0 u6 4) (by simp : s4.1.length = (s4.1.set s4.2.toNat v9).length)) (weak_cons rfl weak_nil)))⟩
    · replace h := condF q7 h
      refine T.exit ?_
      refine ⟨_, (Option.some.inj h).symm, fun h => ?_⟩
      replace h := congrArg some h
      obtain rfl := Option.some.inj h
      exact ⟨u6, trivial, cutW rfl (weak_cons rfl weak_nil)⟩

theorem F_laws_toInstrSS_P (a : List (List Xlaws_Instr)) {q : (List (List Ximpl_Instr))} (h : F_laws_toInstrSS a = some q) : PCall Tryd.prog 8 [eL (cL Xlaws_Instr.c) a] (eL (cL Ximpl_Instr.c) q) := by
  refine PCall.mkT Tryd.func8 rfl (by kernel_rfl) rfl (by kernel_rfl) (e0 := envOf [(0, eL (cL Xlaws_Instr.c) a)]) (weak_cons rfl weak_nil) ?_
  refine T.seq ?_
  refine T.region ?_
  refine oN (EvN.asg (.nil) rfl) ?_
  refine TO.nil ?_
  refine T.seq ?_
  refine T.region ?_
  refine oN (EvN.mv (eL (cL Xlaws_Instr.c) a) rfl) ?_
  refine oN (EvN.lenL sl22 rfl) ?_
  obtain ⟨g1, h⟩ := gdD h
  refine oA (EvA.mkZ sl25 rfl rfl g1 rfl rfl) ?_
  refine oN (EvN.asg (hS false 0 0 1 ((a.length : Int).toNat)) rfl) ?_
  refine TO.nil ?_
  refine T.cut (e0 := envOf [(3, hS false 0 0 1 ((List.replicate (a.length : Int).toNat ([] : List Ximpl_Instr)).length)), (0, eL (cL Xlaws_Instr.c) a)]) (H0 := [bE false 0 1 40 ((List.replicate (a.length : Int).toNat ([] : List Ximpl_Instr)).map (cL Ximpl_Instr.c))]) (cutS rfl (.cons (.rows (.rep (f := Ximpl_Instr.c) _)) .nil) (stl_cons (.eqv (congrArg (hS false 0 0 1) (by simp : (a.length : Int).toNat = (List.replicate (a.length : Int).toNat ([] : List Ximpl_Instr)).length)) (.hS (g := false) (b := 0) (ver := 0) (s := 1) (n := (List.replicate (a.length : Int).toNat ([] : List Ximpl_Instr)).length) rfl)) (stl_cons (.fz (.of_isF 9 _ rfl)) stl_nil))) ?_
  obtain ⟨s2, h, ks2⟩ := bindL h
  refine T.joinF (G := Nat) (fun gh => True) (fun gh => [(3, hS false 0 gh 1 s2.length)]) (fun gh => [bE false gh 1 40 (s2.map (cL Ximpl_Instr.c))]) (fun u12 hg => ?_) ?_
  · clear h
    have h := ks2
    clear ks2
    refine T.seq ?_
    refine T.region ?_
    refine oN (EvN.mv (hS false 0 u12 1 s2.length) rfl) ?_
    refine oN (EvN.asg (hS false 0 u12 1 s2.length) rfl) ?_
    refine TO.nil ?_
    refine T.ret ?_
    obtain rfl := Option.some.inj h
    repeat first | refine retS ?_ | refine retB ?_
    exact Fin.ret (vs := [hS false 0 u12 1 s2.length]) (.cons (.tmp rfl) .nil) (Fz.own (g := false) (ver := u12) (l := s2) rfl rfl rfl nofun (fun _ => rfl))
  · clear ks2
    refine T.seq ?_
    refine T.region ?_
    refine oN (EvN.asg (I (0 : Int)) rfl) ?_
    refine TO.nil ?_
    refine T.block ?_
    refine T.loop (S := (List (List Ximpl_Instr)) × Int) (G := Nat) (F_laws_toInstrSS_L5 a) (fun s4 gh => True) (fun s4 gh => [(4, I s4.2), (3, hS false 0 gh 1 s4.1.length), (0, eL (cL Xlaws_Instr.c) a)]) (fun s4 gh => [bE false gh 1 40 (s4.1.map (cL Ximpl_Instr.c))]) (s0 := ((List.replicate (a.length : Int).toNat ([] : List Ximpl_Instr)), (0 : Int))) 0 h trivial (cutW rfl (weak_cons rfl (weak_cons rfl (weak_cons rfl weak_nil)))) (fun s4 u6 ws4 h hg => ?_)
    refine T.seq ?_
    refine T.seq ?_
    refine T.region ?_
    refine oN (EvN.mv (I s4.2) rfl) ?_
    refine oN (EvN.mv (eL (cL Xlaws_Instr.c) a) rfl) ?_
    refine oN (EvN.lenL sl22 rfl) ?_
    refine oN (EvN.ilt rfl rfl) ?_
    refine TO.nil ?_
    refine T.cond rfl (fun q7 => ?_) (fun q7 => ?_)
    · replace h := condT q7 h
      refine T.skip ?_
      refine T.seq ?_
      refine T.block ?_
      refine T.region ?_
      refine oN (EvN.mv (hS false 0 u6 1 s4.1.length) rfl) ?_
      refine oN (EvN.mv (I s4.2) rfl) ?_
      refine oN (EvN.mv (eL (cL Xlaws_Instr.c) a) rfl) ?_
      refine oN (EvN.mv (I s4.2) rfl) ?_
      obtain ⟨g8, h⟩ := gdD h
      refine oN (EvN.ixL sl22 rfl rfl g8 (fun _ => rfl)) ?_
      refine oN (EvN.loadfp (eL Xlaws_Instr.c (a.getD s4.2.toNat default)) ty42 rfl rfl) ?_
      obtain ⟨v9, cv9, h⟩ := bindL h
      refine oN (EvN.call rfl rfl rfl (F_laws_toInstrS_P (a.getD s4.2.toNat default) cv9) rfl) ?_
      obtain ⟨g10, h⟩ := gdD h
      refine oN (EvN.ixO (g := false) sl25 rfl rfl nofun g10) ?_
      refine oV (EvA.stO (g := false) (l := s4.1) (cs := [eL Ximpl_Instr.c v9]) v9 ty40 rfl rfl rfl nofun (toNat_lt' rfl g10) rfl rfl rfl) ?_
      refine TO.nil ?_
      refine T.clean (H0 := [bE false u6 1 40 ((s4.1.set s4.2.toNat v9).map (cL Ximpl_Instr.c))]) (e0 := envOf [(4, I s4.2), (3, hS false 0 u6 1 s4.1.length), (0, eL (cL Xlaws_Instr.c) a)]) rfl (weak_cons rfl (weak_cons rfl (weak_cons rfl weak_nil))) ?_
      refine T.region ?_
      refine oN (EvN.mv (I s4.2) rfl) ?_
      obtain ⟨g11, h⟩ := gdW h
      refine oN (EvN.add rfl rfl g11) ?_
      refine oN (EvN.asg (I (s4.2 + (1 : Int))) rfl) ?_
      refine TO.nil ?_
      obtain rfl := Option.some.inj h
      exact ⟨((s4.1.set s4.2.toNat v9), (s4.2 + (1 : Int))), u6, rfl, trivial, cutW rfl (weak_cons rfl (weak_cons (congrArg (hS false 0 u6 1) (by simp : s4.1.length = (s4.1.set s4.2.toNat v9).length)) (weak_cons rfl weak_nil)))⟩
    · replace h := condF q7 h
      refine T.exit ?_
      refine ⟨_, (Option.some.inj h).symm, fun h => ?_⟩
      replace h := congrArg some h
      obtain rfl := Option.some.inj h
      exact ⟨u6, trivial, cutW rfl (weak_cons rfl weak_nil)⟩

theorem F_laws_eqInstr_P (a : Ximpl_Instr) (b : Ximpl_Instr) {q : Bool} (h : F_laws_eqInstr a b = some q) : PCall Tryd.prog 36 [.agg (Ximpl_Instr.c a), .agg (Ximpl_Instr.c b)] (Bo q) := by
  refine PCall.mkT Tryd.func36 rfl (by kernel_rfl) rfl (by kernel_rfl) (e0 := envOf [(0, .agg (Ximpl_Instr.c a)), (1, .agg (Ximpl_Instr.c b))]) (weak_cons rfl (weak_cons rfl weak_nil)) ?_
  refine T.seq ?_
  refine T.region ?_
  refine oN (EvN.bxF [I a.Op, I a.Loc, I a.Reg, I a.Val] rfl rfl rfl) ?_
  refine oN (EvN.bxF [I b.Op, I b.Loc, I b.Reg, I b.Val] rfl rfl rfl) ?_
  refine oN (EvN.asg (Bo false) rfl) ?_
  refine TO.nil ?_
  refine T.seq ?_
  refine T.seq ?_
  refine T.region ?_
  refine oN (EvN.fafp Tryd.underlying39 rfl (by kernel_rfl) rfl) ?_
  refine oN (EvN.loadfp (I a.Op) ty3 rfl rfl) ?_
  refine oN (EvN.fafp Tryd.underlying39 rfl (by kernel_rfl) rfl) ?_
  refine oN (EvN.loadfp (I b.Op) ty3 rfl rfl) ?_
  refine oN (EvN.ine rfl rfl) ?_
  refine TO.nil ?_
  refine T.cond rfl (fun q1 => ?_) (fun q1 => ?_)
  · replace h := condT q1 h
    refine T.seq ?_
    refine T.clean (H0 := []) (e0 := envOf []) rfl weak_nil ?_
    refine T.region ?_
    refine oN (EvN.asg (Bo false) rfl) ?_
    refine TO.nil ?_
    refine T.ret ?_
    obtain rfl := Option.some.inj h
    repeat first | refine retS ?_ | refine retB ?_
    exact Fin.ret (vs := [Bo false]) (.cons (.tmp rfl) .nil) (.of_isF 9 _ rfl)
  · replace h := condF q1 h
    refine T.skip ?_
    refine T.seq ?_
    refine T.seq ?_
    refine T.clean (H0 := []) (e0 := envOf [(3, .fp (Ximpl_Instr.c b) 0), (2, .fp (Ximpl_Instr.c a) 0)]) rfl (weak_cons rfl (weak_cons rfl weak_nil)) ?_
    refine T.region ?_
    refine oN (EvN.fafp Tryd.underlying39 rfl (by kernel_rfl) rfl) ?_
    refine oN (EvN.loadfp (I a.Loc) ty3 rfl rfl) ?_
    refine oN (EvN.fafp Tryd.underlying39 rfl (by kernel_rfl) rfl) ?_
    refine oN (EvN.loadfp (I b.Loc) ty3 rfl rfl) ?_
    refine oN (EvN.ine rfl rfl) ?_
    refine TO.nil ?_
    refine T.cond rfl (fun q2 => ?_) (fun q2 => ?_)
    · replace h := condT q2 h
      refine T.seq ?_
      refine T.clean (H0 := []) (e0 := envOf []) rfl weak_nil ?_
      refine T.region ?_
      refine oN (EvN.asg (Bo false) rfl) ?_
      refine TO.nil ?_
      refine T.ret ?_
      obtain rfl := Option.some.inj h
      repeat first | refine retS ?_ | refine retB ?_
      exact Fin.ret (vs := [Bo false]) (.cons (.tmp rfl) .nil) (.of_isF 9 _ rfl)
    · replace h := condF q2 h
      refine T.skip ?_
      refine T.seq ?_
      refine T.seq ?_
      refine T.region ?_
      refine oN (EvN.fafp Tryd.underlying39 rfl (by kernel_rfl) rfl) ?_
      refine oN (EvN.loadfp (I a.Reg) ty3 rfl rfl) ?_
      refine oN (EvN.fafp Tryd.underlying39 rfl (by kernel_rfl) rfl) ?_
      refine oN (EvN.loadfp (I b.Reg) ty3 rfl rfl) ?_
      refine oN (EvN.ine rfl rfl) ?_
      refine TO.nil ?_
      refine T.cond rfl (fun q3 => ?_) (fun q3 => ?_)
      · replace h := condT q3 h
        refine T.seq ?_
        refine T.clean (H0 := []) (e0 := envOf []) rfl weak_nil ?_
        refine T.region ?_
        refine oN (EvN.asg (Bo false) rfl) ?_
        refine TO.nil ?_
        refine T.ret ?_
        obtain rfl := Option.some.inj h
        repeat first | refine retS ?_ | refine retB ?_
        exact Fin.ret (vs := [Bo false]) (.cons (.tmp rfl) .nil) (.of_isF 9 _ rfl)
      · replace h := condF q3 h
        refine T.skip ?_
        refine T.seq ?_
        refine T.seq ?_
        refine T.clean (H0 := []) (e0 := envOf [(3, .fp (Ximpl_Instr.c b) 0), (2, .fp (Ximpl_Instr.c a) 0)]) rfl (weak_cons rfl (weak_cons rfl weak_nil)) ?_
        refine T.region ?_
        refine oN (EvN.fafp Tryd.underlying39 rfl (by kernel_rfl) rfl) ?_
        refine oN (EvN.loadfp (I a.Val) ty3 rfl rfl) ?_
        refine oN (EvN.fafp Tryd.underlying39 rfl (by kernel_rfl) rfl) ?_
        refine oN (EvN.loadfp (I b.Val) ty3 rfl rfl) ?_
        refine oN (EvN.ine rfl rfl) ?_
        refine TO.nil ?_
        refine T.cond rfl (fun q4 => ?_) (fun q4 => ?_)
        · replace h := condT q4 h
          refine T.seq ?_
          refine T.clean (H0 := []) (e0 := envOf []) rfl weak_nil ?_
          refine T.region ?_
          refine oN (EvN.asg (Bo false) rfl) ?_
          refine TO.nil ?_
          refine T.ret ?_
          obtain rfl := Option.some.inj h
          repeat first | refine retS ?_ | refine retB ?_
          exact Fin.ret (vs := [Bo false]) (.cons (.tmp rfl) .nil) (.of_isF 9 _ rfl)
        · replace h := condF q4 h
          refine T.skip ?_
          refine T.seq ?_
          refine T.clean (H0 := []) (e0 := envOf []) rfl weak_nil ?_
          refine T.region ?_
          refine oN (EvN.asg (Bo true) rfl) ?_
          refine TO.nil ?_
          refine T.ret ?_
          obtain rfl := Option.some.inj h
          repeat first | refine retS ?_ | refine retB ?_
          exact Fin.ret (vs := [Bo true]) (.cons (.tmp rfl) .nil) (.of_isF 9 _ rfl)

theorem F_laws_eqInstrS_P (a : List Ximpl_Instr) (b : List Ximpl_Instr) {q : Bool} (h : F_laws_eqInstrS a b = some q) : PCall Tryd.prog 20 [eL Ximpl_Instr.c a, eL Ximpl_Instr.c b] (Bo q) := by
  refine PCall.mkT Tryd.func20 rfl (by kernel_rfl) rfl (by kernel_rfl) (e0 := envOf [(0, eL Ximpl_Instr.c a), (1, eL Ximpl_Instr.c b)]) (weak_cons rfl (weak_cons rfl weak_nil)) ?_
  refine T.seq ?_
  refine T.region ?_
  refine oN (EvN.asg (Bo false) rfl) ?_
  refine TO.nil ?_
  refine T.seq ?_
  refine T.seq ?_
  refine T.region ?_
  refine oN (EvN.mv (eL Ximpl_Instr.c a) rfl) ?_
  refine oN (EvN.lenL sl40 rfl) ?_
  refine oN (EvN.mv (eL Ximpl_Instr.c b) rfl) ?_
  refine oN (EvN.lenL sl40 rfl) ?_
  refine oN (EvN.ine rfl rfl) ?_
  refine TO.nil ?_
  refine T.cond rfl (fun q1 => ?_) (fun q1 => ?_)
  · replace h := condT q1 h
    refine T.seq ?_
    refine T.clean (H0 := []) (e0 := envOf []) rfl weak_nil ?_
    refine T.region ?_
    refine oN (EvN.asg (Bo false) rfl) ?_
    refine TO.nil ?_
    refine T.ret ?_
    obtain rfl := Option.some.inj h
    repeat first | refine retS ?_ | refine retB ?_
    exact Fin.ret (vs := [Bo false]) (.cons (.tmp rfl) .nil) (.of_isF 9 _ rfl)
  · replace h := condF q1 h
    refine T.skip ?_
    obtain ⟨Ks2, es2, ws2, h, ks2⟩ := sumL h
    refine T.join (S := Unit) (G := Unit) (fun s2 => Ks2 s2 = some q) (fun s2 gh => True) (fun s2 gh => []) (fun s2 gh => []) (fun s2 gh h hg => ?_) ?_
    · clear ks2
      subst es2
      refine T.seq ?_
      refine T.region ?_
      refine oN (EvN.asg (Bo true) rfl) ?_
      refine TO.nil ?_
      refine T.ret ?_
      obtain rfl := Option.some.inj h
      repeat first | refine retS ?_ | refine retB ?_
      exact Fin.ret (vs := [Bo true]) (.cons (.tmp rfl) .nil) (.of_isF 9 _ rfl)
    · refine T.seq ?_
      refine T.clean (H0 := []) (e0 := envOf [(0, eL Ximpl_Instr.c a), (1, eL Ximpl_Instr.c b)]) rfl (weak_cons rfl (weak_cons rfl weak_nil)) ?_
      refine T.region ?_
      refine oN (EvN.asg (I (0 : Int)) rfl) ?_
      refine TO.nil ?_
      refine T.block ?_
      refine T.loop (S := Int) (G := Unit) (F_laws_eqInstrS_L4 a b) (fun s3 gh => True) (fun s3 gh => [(5, I s3), (0, eL Ximpl_Instr.c a), (1, eL Ximpl_Instr.c b)]) (fun s3 gh => []) (s0 := (0 : Int)) () h trivial (cutW rfl (weak_cons rfl (weak_cons rfl (weak_cons rfl weak_nil)))) (fun s3 gh ws3 h hg => ?_)
      refine T.seq ?_
      refine T.seq ?_
      refine T.region ?_
      refine oN (EvN.mv (I s3) rfl) ?_
      refine oN (EvN.mv (eL Ximpl_Instr.c a) rfl) ?_
      refine oN (EvN.lenL sl40 rfl) ?_
      refine oN (EvN.ilt rfl rfl) ?_
      refine TO.nil ?_
      refine T.cond rfl (fun q5 => ?_) (fun q5 => ?_)
      · replace h := condT q5 h
        refine T.skip ?_
        refine T.seq ?_
        refine T.block ?_
        refine T.seq ?_
        refine T.drawF (fun _ => ([], false)) (by kernel_rfl) (by kernel_rfl) ?_
        refine fN rfl (EvN.mv (eL Ximpl_Instr.c a) rfl) ?_
        refine fN rfl (EvN.mv (I s3) rfl) ?_
        obtain ⟨g6, h⟩ := gdD h
        refine fN rfl (EvN.ixL sl40 rfl rfl g6 (fun _ => rfl)) ?_
        refine fN rfl (EvN.loadfp (.agg (Ximpl_Instr.c (a.getD s3.toNat default))) ty39 rfl rfl) ?_
        refine fN rfl (EvN.mv (eL Ximpl_Instr.c b) rfl) ?_
        refine fN rfl (EvN.mv (I s3) rfl) ?_
        obtain ⟨g7, h⟩ := gdD h
        refine fN rfl (EvN.ixL sl40 rfl rfl g7 (fun _ => rfl)) ?_
        refine fN rfl (EvN.loadfp (.agg (Ximpl_Instr.c (b.getD s3.toNat default))) ty39 rfl rfl) ?_
        obtain ⟨v8, cv8, h⟩ := bindL h
        refine fN rfl (EvN.call rfl rfl rfl (F_laws_eqInstr_P (a.getD s3.toNat default) (b.getD s3.toNat default) cv8) rfl) ?_
        refine fN rfl (EvN.not rfl) ?_
        refine TF.nil ?_
        refine T.cond rfl (fun q9 => ?_) (fun q9 => ?_)
        · replace h := condT q9 h
          refine T.seq ?_
          refine T.clean (H0 := []) (e0 := envOf []) rfl weak_nil ?_
          refine T.region ?_
          refine oN (EvN.asg (Bo false) rfl) ?_
          refine TO.nil ?_
          refine T.ret ?_
          refine ⟨_, (Option.some.inj h).symm, fun h => ?_⟩
          replace h := congrArg some h
          obtain rfl := Option.some.inj h
          replace h := congrArg some (show _ = _ from ks2)
          obtain rfl := Option.some.inj h
          repeat first | refine retS ?_ | refine retB ?_
          exact Fin.ret (vs := [Bo false]) (.cons (.tmp rfl) .nil) (.of_isF 9 _ rfl)
        · replace h := condF q9 h
          refine T.skip ?_
          refine T.clean (H0 := []) (e0 := envOf [(5, I s3), (0, eL Ximpl_Instr.c a), (1, eL Ximpl_Instr.c b)]) rfl (weak_cons rfl (weak_cons rfl (weak_cons rfl weak_nil))) ?_
          refine T.region ?_
          refine oN (EvN.mv (I s3) rfl) ?_
          obtain ⟨g10, h⟩ := gdW h
          refine oN (EvN.add rfl rfl g10) ?_
          refine oN (EvN.asg (I (s3 + (1 : Int))) rfl) ?_
          refine TO.nil ?_
          obtain rfl := Option.some.inj h
          exact ⟨(s3 + (1 : Int)), (), rfl, trivial, cutW rfl (weak_cons rfl (weak_cons rfl (weak_cons rfl weak_nil)))⟩
      · replace h := condF q5 h
        refine T.exit ?_
        refine ⟨_, (Option.some.inj h).symm, fun h => ?_⟩
        replace h := congrArg some h
        obtain rfl := Option.some.inj h
        exact ⟨(), (), ks2, trivial, cutW rfl weak_nil⟩

theorem F_laws_eqInstrSS_P (a : List (List Ximpl_Instr)) (b : List (List Ximpl_Instr)) {q : Bool} (h : F_laws_eqInstrSS a b = some q) : PCall Tryd.prog 10 [eL (cL Ximpl_Instr.c) a, eL (cL Ximpl_Instr.c) b] (Bo q) := by
  refine PCall.mkT Tryd.func10 rfl (by kernel_rfl) rfl (by kernel_rfl) (e0 := envOf [(0, eL (cL Ximpl_Instr.c) a), (1, eL (cL Ximpl_Instr.c) b)]) (weak_cons rfl (weak_cons rfl weak_nil)) ?_
  refine T.seq ?_
  refine T.region ?_
  refine oN (EvN.asg (Bo false) rfl) ?_
  refine TO.nil ?_
  refine T.seq ?_
  refine T.seq ?_
  refine T.region ?_
  refine oN (EvN.mv (eL (cL Ximpl_Instr.c) a) rfl) ?_
  refine oN (EvN.lenL sl25 rfl) ?_
  refine oN (EvN.mv (eL (cL Ximpl_Instr.c) b) rfl) ?_
  refine oN (EvN.lenL sl25 rfl) ?_
  refine oN (EvN.ine rfl rfl) ?_
  refine TO.nil ?_
  refine T.cond rfl (fun q1 => ?_) (fun q1 => ?_)
  · replace h := condT q1 h
    refine T.seq ?_
    refine T.clean (H0 := []) (e0 := envOf []) rfl weak_nil ?_
    refine T.region ?_
    refine oN (EvN.asg (Bo false) rfl) ?_
    refine TO.nil ?_
    refine T.ret ?_
    obtain rfl := Option.some.inj h
    repeat first | refine retS ?_ | refine retB ?_
    exact Fin.ret (vs := [Bo false]) (.cons (.tmp rfl) .nil) (.of_isF 9 _ rfl)
  · replace h := condF q1 h
    refine T.skip ?_
    obtain ⟨Ks2, es2, ws2, h, ks2⟩ := sumL h
    refine T.join (S := Unit) (G := Unit) (fun s2 => Ks2 s2 = some q) (fun s2 gh => True) (fun s2 gh => []) (fun s2 gh => []) (fun s2 gh h hg => ?_) ?_
    · clear ks2
      subst es2
      refine T.seq ?_
      refine T.region ?_
      refine oN (EvN.asg (Bo true) rfl) ?_
      refine TO.nil ?_
      refine T.ret ?_
      obtain rfl := Option.some.inj h
      repeat first | refine retS ?_ | refine retB ?_
      exact Fin.ret (vs := [Bo true]) (.cons (.tmp rfl) .nil) (.of_isF 9 _ rfl)
    · refine T.seq ?_
      refine T.clean (H0 := []) (e0 := envOf [(0, eL (cL Ximpl_Instr.c) a), (1, eL (cL Ximpl_Instr.c) b)]) rfl (weak_cons rfl (weak_cons rfl weak_nil)) ?_
      refine T.region ?_
      refine oN (EvN.asg (I (0 : Int)) rfl) ?_
      refine TO.nil ?_
      refine T.block ?_
      refine T.loop (S := Int) (G := Unit) (F_laws_eqInstrSS_L4 a b) (fun s3 gh => True) (fun s3 gh => [(5, I s3), (0, eL (cL Ximpl_Instr.c) a), (1, eL (cL Ximpl_Instr.c) b)]) (fun s3 gh => []) (s0 := (0 : Int)) () h trivial (cutW rfl (weak_cons rfl (weak_cons rfl (weak_cons rfl weak_nil)))) (fun s3 gh ws3 h hg => ?_)
      refine T.seq ?_
      refine T.seq ?_
      refine T.region ?_
      refine oN (EvN.mv (I s3) rfl) ?_
      refine oN (EvN.mv (eL (cL Ximpl_Instr.c) a) rfl) ?_
      refine oN (EvN.lenL sl25 rfl) ?_
      refine oN (EvN.ilt rfl rfl) ?_
      refine TO.nil ?_
      refine T.cond rfl (fun q5 => ?_) (fun q5 => ?_)
      · replace h := condT q5 h
        refine T.skip ?_
        refine T.seq ?_
        refine T.block ?_
        refine T.seq ?_
        refine T.drawF (fun _ => ([], false)) (by kernel_rfl) (by kernel_rfl) ?_
        refine fN rfl (EvN.mv (eL (cL Ximpl_Instr.c) a) rfl) ?_
        refine fN rfl (EvN.mv (I s3) rfl) ?_
        obtain ⟨g6, h⟩ := gdD h
        refine fN rfl (EvN.ixL sl25 rfl rfl g6 (fun _ => rfl)) ?_
        refine fN rfl (EvN.loadfp (eL Ximpl_Instr.c (a.getD s3.toNat default)) ty40 rfl rfl) ?_
        refine fN rfl (EvN.mv (eL (cL Ximpl_Instr.c) b) rfl) ?_
        refine fN rfl (EvN.mv (I s3) rfl) ?_
        obtain ⟨g7, h⟩ := gdD h
        refine fN rfl (EvN.ixL sl25 rfl rfl g7 (fun _ => rfl)) ?_
        refine fN rfl (EvN.loadfp (eL Ximpl_Instr.c (b.getD s3.toNat default)) ty40 rfl rfl) ?_
        obtain ⟨v8, cv8, h⟩ := bindL h
        refine fN rfl (EvN.call rfl rfl rfl (F_laws_eqInstrS_P (a.getD s3.toNat default) (b.getD s3.toNat default) cv8) rfl) ?_
        refine fN rfl (EvN.not rfl) ?_
        refine TF.nil ?_
        refine T.cond rfl (fun q9 => ?_) (fun q9 => ?_)
        · replace h := condT q9 h
          refine T.seq ?_
          refine T.clean (H0 := []) (e0 := envOf []) rfl weak_nil ?_
          refine T.region ?_
          refine oN (EvN.asg (Bo false) rfl) ?_
          refine TO.nil ?_
          refine T.ret ?_
          refine ⟨_, (Option.some.inj h).symm, fun h => ?_⟩
          replace h := congrArg some h
          obtain rfl := Option.some.inj h
          replace h := congrArg some (show _ = _ from ks2)
          obtain rfl := Option.some.inj h
          repeat first | refine retS ?_ | refine retB ?_
          exact Fin.ret (vs := [Bo false]) (.cons (.tmp rfl) .nil) (.of_isF 9 _ rfl)
        · replace h := condF q9 h
          refine T.skip ?_
          refine T.clean (H0 := []) (e0 := envOf [(5, I s3), (0, eL (cL Ximpl_Instr.c) a), (1, eL (cL Ximpl_Instr.c) b)]) rfl (weak_cons rfl (weak_cons rfl (weak_cons rfl weak_nil))) ?_
          refine T.region ?_
          refine oN (EvN.mv (I s3) rfl) ?_
          obtain ⟨g10, h⟩ := gdW h
          refine oN (EvN.add rfl rfl g10) ?_
          refine oN (EvN.asg (I (s3 + (1 : Int))) rfl) ?_
          refine TO.nil ?_
          obtain rfl := Option.some.inj h
          exact ⟨(s3 + (1 : Int)), (), rfl, trivial, cutW rfl (weak_cons rfl (weak_cons rfl (weak_cons rfl weak_nil)))⟩
      · replace h := condF q5 h
        refine T.exit ?_
        refine ⟨_, (Option.some.inj h).symm, fun h => ?_⟩
        replace h := congrArg some h
        obtain rfl := Option.some.inj h
        exact ⟨(), (), ks2, trivial, cutW rfl weak_nil⟩

theorem F_laws_FnExactEventText_P (aP : List (List Xlaws_Instr)) (aI : Int) {q : Bool} (h : F_laws_FnExactEventText aP aI = some q) : PCall Tryd.prog 3 [eL (cL Xlaws_Instr.c) aP, I aI] (Bo q) := by
  refine PCall.mkT Tryd.func3 rfl (by kernel_rfl) rfl (by kernel_rfl) (e0 := envOf [(0, eL (cL Xlaws_Instr.c) aP), (1, I aI)]) (weak_cons rfl (weak_cons rfl weak_nil)) ?_
  refine T.seq ?_
  refine T.region ?_
  refine oN (EvN.asg (Bo false) rfl) ?_
  refine TO.nil ?_
  refine T.seq ?_
  refine T.region ?_
  refine oN (EvN.asg (I (1048576 : Int)) rfl) ?_
  refine TO.nil ?_
  refine T.seq ?_
  refine T.region ?_
  refine oN (EvN.mv (eL (cL Xlaws_Instr.c) aP) rfl) ?_
  refine oN (EvN.mv (I (1048576 : Int)) rfl) ?_
  obtain ⟨v1, cv1, h⟩ := bindL h
  refine oN (EvN.call rfl rfl rfl (F_laws_szInstrSS_P aP (1048576 : Int) cv1) rfl) ?_
  refine oN (EvN.asg (I v1) rfl) ?_
  refine TO.nil ?_
  refine T.seq ?_
  refine T.seq ?_
  refine T.region ?_
  refine oN (EvN.mv (I v1) rfl) ?_
  refine oN (EvN.ilt rfl rfl) ?_
  refine TO.nil ?_
  refine T.cond rfl (fun q2 => ?_) (fun q2 => ?_)
  · replace h := condT q2 h
    refine T.seq ?_
    refine T.clean (H0 := []) (e0 := envOf []) rfl weak_nil ?_
    refine T.region ?_
    refine oN (EvN.asg (Bo true) rfl) ?_
    refine TO.nil ?_
    refine T.ret ?_
    obtain rfl := Option.some.inj h
    repeat first | refine retS ?_ | refine retB ?_
    exact Fin.ret (vs := [Bo true]) (.cons (.tmp rfl) .nil) (.of_isF 9 _ rfl)
  · replace h := condF q2 h
    refine T.skip ?_
    refine T.seq ?_
    refine T.clean (H0 := []) (e0 := envOf [(0, eL (cL Xlaws_Instr.c) aP), (1, I aI)]) rfl (weak_cons rfl (weak_cons rfl weak_nil)) ?_
    refine T.region ?_
    refine oN (EvN.mv (eL (cL Xlaws_Instr.c) aP) rfl) ?_
    obtain ⟨v3, cv3, h⟩ := bindL h
    refine oN (EvN.call rfl rfl rfl (F_laws_toInstrSS_P aP cv3) rfl) ?_
    refine oN (EvN.mv (I aI) rfl) ?_
    obtain ⟨v4, cv4, h⟩ := bindL h
    refine oN (EvN.call rfl rfl rfl (F_spec_EventText_P v3 aI cv4) rfl) ?_
    refine oN (EvN.asg (St v4) rfl) ?_
    refine TO.nil ?_
    refine T.seq ?_
    refine T.region ?_
    refine oN (EvN.mv (eL (cL Xlaws_Instr.c) aP) rfl) ?_
    obtain ⟨v5, cv5, h⟩ := bindL h
    refine oN (EvN.call rfl rfl rfl (F_laws_toInstrSS_P aP cv5) rfl) ?_
    refine oN (EvN.asg (eL (cL Ximpl_Instr.c) v5) rfl) ?_
    refine TO.nil ?_
    refine T.seq ?_
    refine T.clean (H0 := []) (e0 := envOf [(7, eL (cL Ximpl_Instr.c) v5), (6, St v4), (0, eL (cL Xlaws_Instr.c) aP), (1, I aI)]) rfl (weak_cons rfl (weak_cons rfl (weak_cons rfl (weak_cons rfl weak_nil)))) ?_
    refine T.region ?_
    refine oN (EvN.mv (eL (cL Ximpl_Instr.c) v5) rfl) ?_
    refine oN (EvN.mv (I aI) rfl) ?_
    obtain ⟨v6, cv6, h⟩ := bindL h
    refine oN (EvN.call rfl rfl rfl (F_impl_EventText_P v5 aI cv6) rfl) ?_
    refine oN (EvN.asg (St v6) rfl) ?_
    refine TO.nil ?_
    refine T.seq ?_
    refine T.seq ?_
    refine T.region ?_
    refine oN (EvN.mv (St v6) rfl) ?_
    refine oN (EvN.mv (St v4) rfl) ?_
    refine oN (EvN.sne rfl rfl) ?_
    refine TO.nil ?_
    refine T.cond rfl (fun q7 => ?_) (fun q7 => ?_)
    · replace h := condT q7 h
      refine T.seq ?_
      refine T.clean (H0 := []) (e0 := envOf []) rfl weak_nil ?_
      refine T.region ?_
      refine oN (EvN.asg (Bo false) rfl) ?_
      refine TO.nil ?_
      refine T.ret ?_
      obtain rfl := Option.some.inj h
      repeat first | refine retS ?_ | refine retB ?_
      exact Fin.ret (vs := [Bo false]) (.cons (.tmp rfl) .nil) (.of_isF 9 _ rfl)
    · replace h := condF q7 h
      refine T.skip ?_
      refine T.seq ?_
      refine T.seq ?_
      refine T.clean (H0 := []) (e0 := envOf [(7, eL (cL Ximpl_Instr.c) v5), (0, eL (cL Xlaws_Instr.c) aP)]) rfl (weak_cons rfl (weak_cons rfl weak_nil)) ?_
      refine T.region ?_
      refine oN (EvN.mv (eL (cL Ximpl_Instr.c) v5) rfl) ?_
      refine oN (EvN.mv (eL (cL Xlaws_Instr.c) aP) rfl) ?_
      obtain ⟨v8, cv8, h⟩ := bindL h
      refine oN (EvN.call rfl rfl rfl (F_laws_toInstrSS_P aP cv8) rfl) ?_
      obtain ⟨v9, cv9, h⟩ := bindL h
      refine oN (EvN.call rfl rfl rfl (F_laws_eqInstrSS_P v5 v8 cv9) rfl) ?_
      refine oN (EvN.not rfl) ?_
      refine TO.nil ?_
      refine T.cond rfl (fun q10 => ?_) (fun q10 => ?_)
      · replace h := condT q10 h
        refine T.seq ?_
        refine T.clean (H0 := []) (e0 := envOf []) rfl weak_nil ?_
        refine T.region ?_
        refine oN (EvN.asg (Bo false) rfl) ?_
        refine TO.nil ?_
        refine T.ret ?_
        obtain rfl := Option.some.inj h
        repeat first | refine retS ?_ | refine retB ?_
        exact Fin.ret (vs := [Bo false]) (.cons (.tmp rfl) .nil) (.of_isF 9 _ rfl)
      · replace h := condF q10 h
        refine T.skip ?_
        refine T.seq ?_
        refine T.clean (H0 := []) (e0 := envOf []) rfl weak_nil ?_
        refine T.region ?_
        refine oN (EvN.asg (Bo true) rfl) ?_
        refine TO.nil ?_
        refine T.ret ?_
        obtain rfl := Option.some.inj h
        repeat first | refine retS ?_ | refine retB ?_
        exact Fin.ret (vs := [Bo true]) (.cons (.tmp rfl) .nil) (.of_isF 9 _ rfl)
end Go.Proofs.YtjogdblionfmiaaDoor
