/-
  The program's code computes the functions over plain values; printed by lift.py. No conditions.
-/
import Derived.Test.YtjogdblionfmiaaS13d
import Derived.Test.YtjogdblionfmiaaSf
import Derived.Test.YtjogdblionfmiaaBrRi
import Derived.Test.YtjogdblionfmiaaBrRs
import Derived.Test.YtjogdblionfmiaaBrV
import Derived.Test.YtjogdblionfmiaaMu2
import Derived.Test.YtjogdblionfmiaaSP1
import Derived.Test.YtjogdblionfmiaaSQ1
import Derived.Test.YtjogdblionfmiaaSR1
namespace Go.Proofs.Ytjogdblionfmiaa
open Go.RowKit
set_option maxRecDepth 100000
theorem F_spec_l12Two_P (code : List Int) {q : (List (List Ximpl_Instr)) × Int × Int} (h : F_spec_l12Two code = some q) : PCall Try.prog 71 [eL cY code] (.tup [eL (cL Ximpl_Instr.c) q.1, I q.2.1, I q.2.2]) := by
  refine PCall.mkT Try.func71 rfl (by kernel_rfl) rfl (by kernel_rfl) (e0 := envOf [(0, eL cY code)]) (weak_cons rfl weak_nil) ?_
  refine T.seq ?_
  refine T.region ?_
  refine oN (EvN.asg (.nil) rfl) ?_
  refine oN (EvN.asg (I (0 : Int)) rfl) ?_
  refine oN (EvN.asg (I (0 : Int)) rfl) ?_
  refine TO.nil ?_
  refine T.seq ?_
  refine T.region ?_
  refine oN (EvN.mv (eL cY code) rfl) ?_
  obtain ⟨v1, cv1, h⟩ := bindL h
  refine oA (EvA.call rfl rfl rfl ((F_spec_l17Open_P code cv1).fresh rfl (rowsF_row rfl) 0 rfl)) ?_
  refine oN (EvN.asg (.hp 0 0 2 0 0) rfl) ?_
  refine TO.nil ?_
  refine T.seq ?_
  refine T.clean (H0 := [some ⟨0, 2, 126, [[eL cY v1.b, I v1.p]]⟩]) (e0 := envOf [(5, .hp 0 0 2 0 0)]) rfl (weak_cons rfl weak_nil) ?_
  refine T.region ?_
  refine oN (EvN.mv (.hp 0 0 2 0 0) rfl) ?_
  refine oN (EvN.mv (.hp 0 0 2 0 0) rfl) ?_
  obtain ⟨v2, cv2, h⟩ := bindL h
  refine oA (EvA.call rfl rfl rfl ((F_spec_l8Small_P (⟨v1.b, v1.p⟩ : Xspec_l17Rd) 0 cv2).one 0 rfl (.cons (.hp rfl) .nil) (rowsF_row rfl) (rowsF_row rfl) rfl)) ?_
  obtain ⟨v3, cv3, h⟩ := bindL h
  refine oA (EvA.call rfl rfl rfl ((F_spec_l1Mutate_P (⟨v2.1.b, v2.1.p⟩ : Xspec_l17Rd) v2.2 0 cv3).one 0 rfl (.cons (.hp rfl) (.cons (.pF rfl) .nil)) (rowsF_row rfl) (rowsF_row rfl) rfl)) ?_
  refine oN (EvN.asg (eL (cL Ximpl_Instr.c) v3.2) rfl) ?_
  refine TO.nil ?_
  refine T.seq ?_
  refine T.region ?_
  refine oN (EvN.mv (eL (cL Ximpl_Instr.c) v3.2) rfl) ?_
  refine oN (EvN.mv (.hp 0 0 2 0 0) rfl) ?_
  refine oN (EvN.mkF (c := cI) ([(0 : Int), (1 : Int), (0 : Int), (2 : Int), (-1 : Int)] : List Int) [[I (0 : Int)], [I (1 : Int)], [I (0 : Int)], [I (2 : Int)], [I (-1 : Int)]] sl37 rfl rfl rfl (fun _ => rfl) (fun _ => rfl) rfl) ?_
  obtain ⟨v4, cv4, h⟩ := bindL h
  refine oA (EvA.call rfl rfl rfl ((F_spec_l17Rd_num_P (⟨v3.1.b, v3.1.p⟩ : Xspec_l17Rd) ([(0 : Int), (1 : Int), (0 : Int), (2 : Int), (-1 : Int)] : List Int) 0 cv4).one 0 rfl (.cons (.hp rfl) (.cons (.pF rfl) .nil)) (rowsF_row rfl) (rowsF_row rfl) rfl)) ?_
  refine oN (EvN.mv (.hp 0 0 2 0 0) rfl) ?_
  refine oN (EvN.mkF (c := cI) ([(1 : Int), (0 : Int), (2 : Int), (3 : Int)] : List Int) [[I (1 : Int)], [I (0 : Int)], [I (2 : Int)], [I (3 : Int)]] sl37 rfl rfl rfl (fun _ => rfl) (fun _ => rfl) rfl) ?_
  obtain ⟨v5, cv5, h⟩ := bindL h
  refine oA (EvA.call rfl rfl rfl ((F_spec_l17Rd_num_P (⟨v4.1.b, v4.1.p⟩ : Xspec_l17Rd) ([(1 : Int), (0 : Int), (2 : Int), (3 : Int)] : List Int) 0 cv5).one 0 rfl (.cons (.hp rfl) (.cons (.pF rfl) .nil)) (rowsF_row rfl) (rowsF_row rfl) rfl)) ?_
  refine oN (EvN.asg (eL (cL Ximpl_Instr.c) v3.2) rfl) ?_
  refine oN (EvN.asg (I v4.2) rfl) ?_
  refine oN (EvN.asg (I v5.2) rfl) ?_
  refine TO.nil ?_
  refine T.ret ?_
  obtain rfl := Option.some.inj h
  repeat first | refine retS ?_ | refine retB ?_
  exact Fin.ret (vs := [eL (cL Ximpl_Instr.c) v3.2, I v4.2, I v5.2]) (.cons (.tmp rfl) (.cons (.tmp rfl) (.cons (.tmp rfl) .nil))) (.tupL (.cons (.of_isF 9 _ rfl) (.cons (.of_isF 9 _ rfl) (.cons (.of_isF 9 _ rfl) .nil))))

theorem F_spec_DrawReorderInstr_P (code : List Int) {q : (List (List Ximpl_Instr)) × Int × Int} (h : F_spec_DrawReorderInstr code = some q) : PCall Try.prog 16 [eL cY code] (.tup [eL (cL Ximpl_Instr.c) q.1, I q.2.1, I q.2.2]) := by
  refine PCall.mkT Try.func16 rfl (by kernel_rfl) rfl (by kernel_rfl) (e0 := envOf [(0, eL cY code)]) (weak_cons rfl weak_nil) ?_
  refine T.seq ?_
  refine T.region ?_
  refine oN (EvN.asg (.nil) rfl) ?_
  refine oN (EvN.asg (I (0 : Int)) rfl) ?_
  refine oN (EvN.asg (I (0 : Int)) rfl) ?_
  refine TO.nil ?_
  refine T.seq ?_
  refine T.region ?_
  refine oN (EvN.mv (eL cY code) rfl) ?_
  obtain ⟨v1, cv1, h⟩ := bindL h
  refine oN (EvN.call rfl rfl rfl (F_spec_l12Two_P code cv1) rfl) ?_
  refine oN (EvN.ext (eL (cL Ximpl_Instr.c) v1.1) rfl rfl) ?_
  refine oN (EvN.ext (I v1.2.1) rfl rfl) ?_
  refine oN (EvN.ext (I v1.2.2) rfl rfl) ?_
  refine oN (EvN.asg (eL (cL Ximpl_Instr.c) v1.1) rfl) ?_
  refine oN (EvN.asg (I v1.2.1) rfl) ?_
  refine oN (EvN.asg (I v1.2.2) rfl) ?_
  refine TO.nil ?_
  refine T.ret ?_
  obtain rfl := Option.some.inj h
  repeat first | refine retS ?_ | refine retB ?_
  exact Fin.ret (vs := [eL (cL Ximpl_Instr.c) v1.1, I v1.2.1, I v1.2.2]) (.cons (.tmp rfl) (.cons (.tmp rfl) (.cons (.tmp rfl) .nil))) (.tupL (.cons (.of_isF 9 _ rfl) (.cons (.of_isF 9 _ rfl) (.cons (.of_isF 9 _ rfl) .nil))))

theorem F_impl_CountSchedules_P (p : List (List Ximpl_Instr)) {q : Int} (h : F_impl_CountSchedules p = some q) : PCall Try.prog 19 [eL (cL Ximpl_Instr.c) p] (I q) := by
  refine PCall.mkT Try.func19 rfl (by kernel_rfl) rfl (by kernel_rfl) (e0 := envOf [(0, eL (cL Ximpl_Instr.c) p)]) (weak_cons rfl weak_nil) ?_
  refine T.seq ?_
  refine T.region ?_
  refine oN (EvN.asg (I (0 : Int)) rfl) ?_
  refine TO.nil ?_
  refine T.seq ?_
  refine T.seq ?_
  refine T.region ?_
  refine oN (EvN.mv (eL (cL Ximpl_Instr.c) p) rfl) ?_
  obtain ⟨v1, cv1, h⟩ := bindL h
  refine oN (EvN.call rfl rfl rfl (F_impl_ProgramValid_P p cv1) rfl) ?_
  refine oN (EvN.not rfl) ?_
  refine TO.nil ?_
  refine T.cond rfl (fun q2 => ?_) (fun q2 => ?_)
  · replace h := condT q2 h
    refine T.seq ?_
    refine T.region ?_
    refine oN (EvN.asg (I (0 : Int)) rfl) ?_
    refine TO.nil ?_
    refine T.ret ?_
    obtain rfl := Option.some.inj h
    repeat first | refine retS ?_ | refine retB ?_
    exact Fin.ret (vs := [I (0 : Int)]) (.cons (.tmp rfl) .nil) (.of_isF 9 _ rfl)
  · replace h := condF q2 h
    refine T.skip ?_
    refine T.seq ?_
    refine T.region ?_
    refine oN (EvN.asg (I (1 : Int)) rfl) ?_
    refine oN (EvN.asg (I (0 : Int)) rfl) ?_
    refine TO.nil ?_
    obtain ⟨s3, h, ks3⟩ := bindL h
    refine T.joinF (G := Unit) (fun gh => True) (fun gh => [(3, I s3)]) (fun gh => []) (fun gh hg => ?_) ?_
    · clear h
      have h := ks3
      clear ks3
      refine T.seq ?_
      refine T.region ?_
      refine oN (EvN.mv (I s3) rfl) ?_
      refine oN (EvN.asg (I s3) rfl) ?_
      refine TO.nil ?_
      refine T.ret ?_
      obtain rfl := Option.some.inj h
      repeat first | refine retS ?_ | refine retB ?_
      exact Fin.ret (vs := [I s3]) (.cons (.tmp rfl) .nil) (.of_isF 9 _ rfl)
    · clear ks3
      refine T.seq ?_
      refine T.region ?_
      refine oN (EvN.mv (eL (cL Ximpl_Instr.c) p) rfl) ?_
      refine oN (EvN.lenL sl23 rfl) ?_
      refine oN (EvN.mv (I (0 : Int)) rfl) ?_
      refine TO.nil ?_
      refine T.block ?_
      refine T.loop (S := Int × Int × Int) (G := Unit) (F_impl_CountSchedules_L5 p) (fun s4 gh => True) (fun s4 gh => [(13, I s4.1), (12, I (p.length : Int)), (11, eL (cL Ximpl_Instr.c) p), (4, I s4.2.1), (3, I s4.2.2)]) (fun s4 gh => []) (s0 := ((0 : Int), (0 : Int), (1 : Int))) () h trivial (cutW rfl (weak_cons rfl (weak_cons rfl (weak_cons rfl (weak_cons rfl (weak_cons rfl weak_nil)))))) (fun s4 gh ws4 h hg => ?_)
      refine T.seq ?_
      refine T.region ?_
      refine oN (EvN.ilt rfl rfl) ?_
      refine TO.nil ?_
      refine T.seq ?_
      refine T.cond rfl (fun q6 => ?_) (fun q6 => ?_)
      · replace h := condT q6 h
        refine T.skip ?_
        obtain ⟨s7, h, ks7⟩ := bindL h
        refine T.joinF (G := Unit) (fun gh => True) (fun gh => [(13, I s4.1), (12, I (p.length : Int)), (11, eL (cL Ximpl_Instr.c) p), (4, I s7.1), (3, I s7.2)]) (fun gh => []) (fun gh hg => ?_) ?_
        · clear h
          have h := ks7
          clear ks7
          refine T.region ?_
          obtain ⟨g17, h⟩ := gdW h
          refine oN (EvN.add rfl rfl g17) ?_
          refine oN (EvN.mv (I (s4.1 + (1 : Int))) rfl) ?_
          refine TO.nil ?_
          obtain rfl := Option.some.inj h
          exact ⟨((s4.1 + (1 : Int)), s7.1, s7.2), (), rfl, trivial, cutW rfl (weak_cons rfl (weak_cons rfl (weak_cons rfl (weak_cons rfl (weak_cons rfl weak_nil)))))⟩
        · clear ks7
          refine T.block ?_
          refine T.seq ?_
          refine T.region ?_
          obtain ⟨g8, h⟩ := gdD h
          refine oN (EvN.ixL sl23 rfl rfl g8 (fun _ => rfl)) ?_
          refine oN (EvN.loadfp (eL Ximpl_Instr.c (p.getD s4.1.toNat default)) ty78 rfl rfl) ?_
          refine oN (EvN.asg (eL Ximpl_Instr.c (p.getD s4.1.toNat default)) rfl) ?_
          refine TO.nil ?_
          refine T.seq ?_
          refine T.region ?_
          refine oN (EvN.mv (eL Ximpl_Instr.c (p.getD s4.1.toNat default)) rfl) ?_
          refine oN (EvN.lenL sl78 rfl) ?_
          refine oN (EvN.mv (I (0 : Int)) rfl) ?_
          refine TO.nil ?_
          refine T.block ?_
          refine T.loop (S := Int × Int × Int) (G := Unit) (F_impl_CountSchedules_L10 p s4) (fun s9 gh => True) (fun s9 gh => [(19, I s9.1), (18, I ((p.getD s4.1.toNat default).length : Int)), (13, I s4.1), (12, I (p.length : Int)), (11, eL (cL Ximpl_Instr.c) p), (4, I s9.2.1), (3, I s9.2.2)]) (fun s9 gh => []) (s0 := ((0 : Int), s4.2.1, s4.2.2)) () h trivial (cutW rfl (weak_cons rfl (weak_cons rfl (weak_cons rfl (weak_cons rfl (weak_cons rfl (weak_cons rfl (weak_cons rfl weak_nil)))))))) (fun s9 gh ws9 h hg => ?_)
          refine T.seq ?_
          refine T.region ?_
          refine oN (EvN.ilt rfl rfl) ?_
          refine TO.nil ?_
          refine T.seq ?_
          refine T.cond rfl (fun q11 => ?_) (fun q11 => ?_)
          · replace h := condT q11 h
            refine T.skip ?_
            refine T.seq ?_
            refine T.block ?_
            refine T.seq ?_
            refine T.region ?_
            refine oN (EvN.mv (I s9.1) rfl) ?_
            refine oN (EvN.asg (I s9.1) rfl) ?_
            refine TO.nil ?_
            refine T.seq ?_
            refine T.region ?_
            refine oN (EvN.mv (I s9.2.1) rfl) ?_
            obtain ⟨g12, h⟩ := gdW h
            refine oN (EvN.add rfl rfl g12) ?_
            refine oN (EvN.asg (I (s9.2.1 + (1 : Int))) rfl) ?_
            refine TO.nil ?_
            refine T.region ?_
            refine oN (EvN.mv (I s9.2.2) rfl) ?_
            refine oN (EvN.mv (I (s9.2.1 + (1 : Int))) rfl) ?_
            obtain ⟨g13, h⟩ := gdW h
            refine oN (EvN.mul rfl rfl g13) ?_
            refine oN (EvN.mv (I s9.1) rfl) ?_
            obtain ⟨g14, h⟩ := gdW h
            refine oN (EvN.add rfl rfl g14) ?_
            obtain ⟨g15, h⟩ := gdD h
            obtain ⟨g16, h⟩ := gdW h
            refine oN (EvN.quo rfl rfl g15 g16) ?_
            refine oN (EvN.asg (I ((s9.2.2 * (s9.2.1 + (1 : Int))).tdiv (s9.1 + (1 : Int)))) rfl) ?_
            refine TO.nil ?_
            refine T.clean (H0 := []) (e0 := envOf [(3, I ((s9.2.2 * (s9.2.1 + (1 : Int))).tdiv (s9.1 + (1 : Int)))), (4, I (s9.2.1 + (1 : Int))), (19, I s9.1), (18, I ((p.getD s4.1.toNat default).length : Int)), (13, I s4.1), (12, I (p.length : Int)), (11, eL (cL Ximpl_Instr.c) p)]) rfl (weak_cons rfl (weak_cons rfl (weak_cons rfl (weak_cons rfl (weak_cons rfl (weak_cons rfl (weak_cons rfl weak_nil))))))) ?_
            refine T.region ?_
            refine oN (EvN.add rfl rfl g14) ?_
            refine oN (EvN.mv (I (s9.1 + (1 : Int))) rfl) ?_
            refine TO.nil ?_
            obtain rfl := Option.some.inj h
            exact ⟨((s9.1 + (1 : Int)), (s9.2.1 + (1 : Int)), ((s9.2.2 * (s9.2.1 + (1 : Int))).tdiv (s9.1 + (1 : Int)))), (), rfl, trivial, cutW rfl (weak_cons rfl (weak_cons rfl (weak_cons rfl (weak_cons rfl (weak_cons rfl (weak_cons rfl (weak_cons rfl weak_nil)))))))⟩
          · replace h := condF q11 h
            refine T.exit ?_
            refine ⟨_, (Option.some.inj h).symm, fun h => ?_⟩
            replace h := congrArg some h
            obtain rfl := Option.some.inj h
            exact ⟨(), trivial, cutW rfl (weak_cons rfl (weak_cons rfl (weak_cons rfl (weak_cons rfl (weak_cons rfl weak_nil)))))⟩
      · replace h := condF q6 h
        refine T.exit ?_
        refine ⟨_, (Option.some.inj h).symm, fun h => ?_⟩
        replace h := congrArg some h
        obtain rfl := Option.some.inj h
        exact ⟨(), trivial, cutW rfl (weak_cons rfl weak_nil)⟩

theorem F_laws_FnReorderTwice_P (code : List Int) {q : Bool} (h : F_laws_FnReorderTwice code = some q) : PCall Try.prog 4 [eL cY code] (Bo q) := by
  refine PCall.mkT Try.func4 rfl (by kernel_rfl) rfl (by kernel_rfl) (e0 := envOf [(0, eL cY code)]) (weak_cons rfl weak_nil) ?_
  refine T.seq ?_
  refine T.region ?_
  refine oN (EvN.asg (Bo false) rfl) ?_
  refine TO.nil ?_
  refine T.seq ?_
  refine T.seq ?_
  refine T.region ?_
  refine oN (EvN.mv (eL cY code) rfl) ?_
  refine oN (EvN.lenL sl22 rfl) ?_
  refine oN (EvN.igt rfl rfl) ?_
  refine TO.nil ?_
  refine T.cond rfl (fun q1 => ?_) (fun q1 => ?_)
  · replace h := condT q1 h
    refine T.seq ?_
    refine T.region ?_
    refine oN (EvN.asg (Bo true) rfl) ?_
    refine TO.nil ?_
    refine T.ret ?_
    obtain rfl := Option.some.inj h
    repeat first | refine retS ?_ | refine retB ?_
    exact Fin.ret (vs := [Bo true]) (.cons (.tmp rfl) .nil) (.of_isF 9 _ rfl)
  · replace h := condF q1 h
    refine T.skip ?_
    refine T.seq ?_
    refine T.region ?_
    refine oN (EvN.mv (eL cY code) rfl) ?_
    obtain ⟨v2, cv2, h⟩ := bindL h
    refine oN (EvN.call rfl rfl rfl (F_spec_DrawReorderInstr_P code cv2) rfl) ?_
    refine oN (EvN.mv (.tup [eL (cL Ximpl_Instr.c) v2.1, I v2.2.1, I v2.2.2]) rfl) ?_
    refine oN (EvN.ext (eL (cL Ximpl_Instr.c) v2.1) rfl rfl) ?_
    refine oN (EvN.ext (I v2.2.1) rfl rfl) ?_
    refine oN (EvN.ext (I v2.2.2) rfl rfl) ?_
    refine oN (EvN.asg (eL (cL Ximpl_Instr.c) v2.1) rfl) ?_
    refine oN (EvN.asg (I v2.2.1) rfl) ?_
    refine oN (EvN.asg (I v2.2.2) rfl) ?_
    refine TO.nil ?_
    refine T.seq ?_
    refine T.clean (H0 := []) (e0 := envOf [(5, I v2.2.2), (4, I v2.2.1), (3, eL (cL Ximpl_Instr.c) v2.1)]) rfl (weak_cons rfl (weak_cons rfl (weak_cons rfl weak_nil))) ?_
    refine T.region ?_
    refine oN (EvN.mv (eL (cL Ximpl_Instr.c) v2.1) rfl) ?_
    refine oN (EvN.mv (I v2.2.1) rfl) ?_
    refine oN (EvN.mv (I v2.2.2) rfl) ?_
    obtain ⟨v3, cv3, h⟩ := bindL h
    refine oN (EvN.call rfl rfl rfl (F_impl_ReorderInstr_P v2.1 v2.2.1 v2.2.2 cv3) rfl) ?_
    refine oN (EvN.mv (.tup [eL (cL Ximpl_Instr.c) v3.1, Bo v3.2]) rfl) ?_
    refine oN (EvN.ext (eL (cL Ximpl_Instr.c) v3.1) rfl rfl) ?_
    refine oN (EvN.ext (Bo v3.2) rfl rfl) ?_
    refine oN (EvN.asg (eL (cL Ximpl_Instr.c) v3.1) rfl) ?_
    refine oN (EvN.asg (Bo v3.2) rfl) ?_
    refine TO.nil ?_
    refine T.seq ?_
    refine T.clean (H0 := []) (e0 := envOf [(7, Bo v3.2), (6, eL (cL Ximpl_Instr.c) v3.1), (5, I v2.2.2), (4, I v2.2.1), (3, eL (cL Ximpl_Instr.c) v2.1)]) rfl (weak_cons rfl (weak_cons rfl (weak_cons rfl (weak_cons rfl (weak_cons rfl weak_nil))))) ?_
    refine T.region ?_
    refine oN (EvN.mv (eL (cL Ximpl_Instr.c) v2.1) rfl) ?_
    refine oN (EvN.mv (I v2.2.1) rfl) ?_
    refine oN (EvN.mv (I v2.2.2) rfl) ?_
    obtain ⟨v4, cv4, h⟩ := bindL h
    refine oN (EvN.call rfl rfl rfl (F_spec_ReorderInstr_P v2.1 v2.2.1 v2.2.2 cv4) rfl) ?_
    refine oN (EvN.mv (.tup [eL (cL Ximpl_Instr.c) v4.1, Bo v4.2]) rfl) ?_
    refine oN (EvN.ext (eL (cL Ximpl_Instr.c) v4.1) rfl rfl) ?_
    refine oN (EvN.ext (Bo v4.2) rfl rfl) ?_
    refine oN (EvN.asg (eL (cL Ximpl_Instr.c) v4.1) rfl) ?_
    refine oN (EvN.asg (Bo v4.2) rfl) ?_
    refine TO.nil ?_
    refine T.seq ?_
    refine T.seq ?_
    refine T.clean (H0 := []) (e0 := envOf [(9, Bo v4.2), (8, eL (cL Ximpl_Instr.c) v4.1), (7, Bo v3.2), (6, eL (cL Ximpl_Instr.c) v3.1), (5, I v2.2.2), (4, I v2.2.1), (3, eL (cL Ximpl_Instr.c) v2.1)]) rfl (weak_cons rfl (weak_cons rfl (weak_cons rfl (weak_cons rfl (weak_cons rfl (weak_cons rfl (weak_cons rfl weak_nil))))))) ?_
    refine T.region ?_
    refine oN (EvN.mv (Bo v3.2) rfl) ?_
    refine oN (EvN.mv (Bo v4.2) rfl) ?_
    refine oN (EvN.bne bt4 rfl rfl) ?_
    refine oN (EvN.mv (Bo (!(v3.2 == v4.2))) rfl) ?_
    obtain ⟨s5, h, ks5⟩ := bindL h
    refine TO.joinF (G := Unit) 5 (fun _ => True) (fun _ => [(43, Bo s5), (9, Bo v4.2), (8, eL (cL Ximpl_Instr.c) v4.1), (7, Bo v3.2), (6, eL (cL Ximpl_Instr.c) v3.1), (5, I v2.2.2), (4, I v2.2.1), (3, eL (cL Ximpl_Instr.c) v2.1)]) (fun _ => []) ?_ (fun js5 => ?_)
    rotate_left
    · clear ks5
      rcases bifL h with ⟨q6, h⟩ | ⟨q6, h⟩
      · refine gS rfl q6 ?_
        refine gS rfl q6 ?_
        refine gS rfl q6 ?_
        refine gS rfl q6 ?_
        refine oN (EvN.pickT rfl q6 (Bo true) rfl) ?_
        obtain rfl := Option.some.inj h
        exact js5 _ _ ⟨(), trivial, cutW rfl (weak_cons rfl (weak_cons rfl (weak_cons rfl (weak_cons rfl (weak_cons rfl (weak_cons rfl (weak_cons rfl (weak_cons rfl weak_nil))))))))⟩
      · refine gN rfl q6 (EvN.mv (eL (cL Ximpl_Instr.c) v3.1) rfl) ?_
        refine gN rfl q6 (EvN.mv (eL (cL Ximpl_Instr.c) v4.1) rfl) ?_
        obtain ⟨v7, cv7, h⟩ := bindL h
        refine gN rfl q6 (EvN.call rfl rfl rfl (F_impl_ProgramSame_P v3.1 v4.1 cv7) rfl) ?_
        refine gN rfl q6 (EvN.not rfl) ?_
        refine oN (EvN.pickF rfl q6 (Bo (!v7)) rfl) ?_
        obtain rfl := Option.some.inj h
        exact js5 _ _ ⟨(), trivial, cutW rfl (weak_cons rfl (weak_cons rfl (weak_cons rfl (weak_cons rfl (weak_cons rfl (weak_cons rfl (weak_cons rfl (weak_cons rfl weak_nil))))))))⟩
    · intro _ _
      replace h := ks5
      clear ks5
      refine oN (EvN.mv (Bo s5) rfl) ?_
      obtain ⟨s8, h, ks8⟩ := bindL h
      refine TO.joinF (G := Unit) 3 (fun _ => True) (fun _ => [(47, Bo s8), (9, Bo v4.2), (8, eL (cL Ximpl_Instr.c) v4.1), (7, Bo v3.2), (6, eL (cL Ximpl_Instr.c) v3.1), (5, I v2.2.2), (4, I v2.2.1), (3, eL (cL Ximpl_Instr.c) v2.1)]) (fun _ => []) ?_ (fun js8 => ?_)
      rotate_left
      · clear ks8
        rcases bifL h with ⟨q9, h⟩ | ⟨q9, h⟩
        · refine gS rfl q9 ?_
          refine gS rfl q9 ?_
          refine oN (EvN.pickT rfl q9 (Bo true) rfl) ?_
          obtain rfl := Option.some.inj h
          exact js8 _ _ ⟨(), trivial, cutW rfl (weak_cons rfl (weak_cons rfl (weak_cons rfl (weak_cons rfl (weak_cons rfl (weak_cons rfl (weak_cons rfl (weak_cons rfl weak_nil))))))))⟩
        · refine gN rfl q9 (EvN.mv (Bo v3.2) rfl) ?_
          refine gN rfl q9 (EvN.not rfl) ?_
          refine oN (EvN.pickF rfl q9 (Bo (!v3.2)) rfl) ?_
          obtain rfl := Option.some.inj h
          exact js8 _ _ ⟨(), trivial, cutW rfl (weak_cons rfl (weak_cons rfl (weak_cons rfl (weak_cons rfl (weak_cons rfl (weak_cons rfl (weak_cons rfl (weak_cons rfl weak_nil))))))))⟩
      · intro _ _
        replace h := ks8
        clear ks8
        refine TO.nil ?_
        refine T.cond rfl (fun q10 => ?_) (fun q10 => ?_)
        · replace h := condT q10 h
          refine T.seq ?_
          refine T.region ?_
          refine oN (EvN.mv (Bo v3.2) rfl) ?_
          refine oN (EvN.mv (Bo v4.2) rfl) ?_
          refine oN (EvN.beq bt4 rfl rfl) ?_
          refine oN (EvN.mv (Bo (v3.2 == v4.2)) rfl) ?_
          obtain ⟨s11, h, ks11⟩ := bindL h
          refine TO.joinF (G := Unit) 4 (fun _ => True) (fun _ => [(55, Bo s11)]) (fun _ => []) ?_ (fun js11 => ?_)
          rotate_left
          · clear ks11
            rcases bifL h with ⟨q12, h⟩ | ⟨q12, h⟩
            · refine gN rfl q12 (EvN.mv (eL (cL Ximpl_Instr.c) v3.1) rfl) ?_
              refine gN rfl q12 (EvN.mv (eL (cL Ximpl_Instr.c) v4.1) rfl) ?_
              obtain ⟨v13, cv13, h⟩ := bindL h
              refine gN rfl q12 (EvN.call rfl rfl rfl (F_impl_ProgramSame_P v3.1 v4.1 cv13) rfl) ?_
              refine oN (EvN.pickT rfl q12 (Bo v13) rfl) ?_
              obtain rfl := Option.some.inj h
              exact js11 _ _ ⟨(), trivial, cutW rfl (weak_cons rfl weak_nil)⟩
            · refine gS rfl q12 ?_
              refine gS rfl q12 ?_
              refine gS rfl q12 ?_
              refine oN (EvN.pickF rfl q12 (Bo false) rfl) ?_
              obtain rfl := Option.some.inj h
              exact js11 _ _ ⟨(), trivial, cutW rfl (weak_cons rfl weak_nil)⟩
          · intro _ _
            replace h := ks11
            clear ks11
            refine oN (EvN.asg (Bo s11) rfl) ?_
            refine TO.nil ?_
            refine T.ret ?_
            obtain rfl := Option.some.inj h
            repeat first | refine retS ?_ | refine retB ?_
            exact Fin.ret (vs := [Bo s11]) (.cons (.tmp rfl) .nil) (.of_isF 9 _ rfl)
        · replace h := condF q10 h
          refine T.skip ?_
          refine T.seq ?_
          refine T.region ?_
          refine oN (EvN.mv (eL (cL Ximpl_Instr.c) v3.1) rfl) ?_
          refine oN (EvN.mv (I v2.2.1) rfl) ?_
          refine oN (EvN.mv (I v2.2.2) rfl) ?_
          obtain ⟨v14, cv14, h⟩ := bindL h
          refine oN (EvN.call rfl rfl rfl (F_impl_ReorderInstr_P v3.1 v2.2.1 v2.2.2 cv14) rfl) ?_
          refine oN (EvN.mv (.tup [eL (cL Ximpl_Instr.c) v14.1, Bo v14.2]) rfl) ?_
          refine oN (EvN.ext (eL (cL Ximpl_Instr.c) v14.1) rfl rfl) ?_
          refine oN (EvN.ext (Bo v14.2) rfl rfl) ?_
          refine oN (EvN.asg (eL (cL Ximpl_Instr.c) v14.1) rfl) ?_
          refine oN (EvN.asg (Bo v14.2) rfl) ?_
          refine TO.nil ?_
          refine T.seq ?_
          refine T.clean (H0 := []) (e0 := envOf [(11, Bo v14.2), (10, eL (cL Ximpl_Instr.c) v14.1), (6, eL (cL Ximpl_Instr.c) v3.1), (3, eL (cL Ximpl_Instr.c) v2.1)]) rfl (weak_cons rfl (weak_cons rfl (weak_cons rfl (weak_cons rfl weak_nil)))) ?_
          refine T.region ?_
          refine oN (EvN.mv (Bo v14.2) rfl) ?_
          refine oN (EvN.mv (Bo v14.2) rfl) ?_
          obtain ⟨s15, h, ks15⟩ := bindL h
          refine TO.joinF (G := Unit) 4 (fun _ => True) (fun _ => [(68, Bo s15), (6, eL (cL Ximpl_Instr.c) v3.1), (3, eL (cL Ximpl_Instr.c) v2.1)]) (fun _ => []) ?_ (fun js15 => ?_)
          rotate_left
          · clear ks15
            rcases bifL h with ⟨q16, h⟩ | ⟨q16, h⟩
            · refine gN rfl q16 (EvN.mv (eL (cL Ximpl_Instr.c) v14.1) rfl) ?_
              refine gN rfl q16 (EvN.mv (eL (cL Ximpl_Instr.c) v2.1) rfl) ?_
              obtain ⟨v17, cv17, h⟩ := bindL h
              refine gN rfl q16 (EvN.call rfl rfl rfl (F_impl_ProgramSame_P v14.1 v2.1 cv17) rfl) ?_
              refine oN (EvN.pickT rfl q16 (Bo v17) rfl) ?_
              obtain rfl := Option.some.inj h
              exact js15 _ _ ⟨(), trivial, cutW rfl (weak_cons rfl (weak_cons rfl (weak_cons rfl weak_nil)))⟩
            · refine gS rfl q16 ?_
              refine gS rfl q16 ?_
              refine gS rfl q16 ?_
              refine oN (EvN.pickF rfl q16 (Bo false) rfl) ?_
              obtain rfl := Option.some.inj h
              exact js15 _ _ ⟨(), trivial, cutW rfl (weak_cons rfl (weak_cons rfl (weak_cons rfl weak_nil)))⟩
          · intro _ _
            replace h := ks15
            clear ks15
            refine oN (EvN.mv (Bo s15) rfl) ?_
            obtain ⟨s18, h, ks18⟩ := bindL h
            refine TO.joinF (G := Unit) 6 (fun _ => True) (fun _ => [(75, Bo s18)]) (fun _ => []) ?_ (fun js18 => ?_)
            rotate_left
            · clear ks18
              rcases bifL h with ⟨q19, h⟩ | ⟨q19, h⟩
              · refine gN rfl q19 (EvN.mv (eL (cL Ximpl_Instr.c) v3.1) rfl) ?_
                obtain ⟨v20, cv20, h⟩ := bindL h
                refine gN rfl q19 (EvN.call rfl rfl rfl (F_impl_CountSchedules_P v3.1 cv20) rfl) ?_
                refine gN rfl q19 (EvN.mv (eL (cL Ximpl_Instr.c) v2.1) rfl) ?_
                obtain ⟨v21, cv21, h⟩ := bindL h
                refine gN rfl q19 (EvN.call rfl rfl rfl (F_impl_CountSchedules_P v2.1 cv21) rfl) ?_
                refine gN rfl q19 (EvN.ieq rfl rfl) ?_
                refine oN (EvN.pickT rfl q19 (Bo (v20 == v21)) rfl) ?_
                obtain rfl := Option.some.inj h
                exact js18 _ _ ⟨(), trivial, cutW rfl (weak_cons rfl weak_nil)⟩
              · refine gS rfl q19 ?_
                refine gS rfl q19 ?_
                refine gS rfl q19 ?_
                refine gS rfl q19 ?_
                refine gS rfl q19 ?_
                refine oN (EvN.pickF rfl q19 (Bo false) rfl) ?_
                obtain rfl := Option.some.inj h
                exact js18 _ _ ⟨(), trivial, cutW rfl (weak_cons rfl weak_nil)⟩
            · intro _ _
              replace h := ks18
              clear ks18
              refine oN (EvN.asg (Bo s18) rfl) ?_
              refine TO.nil ?_
              refine T.ret ?_
              obtain rfl := Option.some.inj h
              repeat first | refine retS ?_ | refine retB ?_
              exact Fin.ret (vs := [Bo s18]) (.cons (.tmp rfl) .nil) (.of_isF 9 _ rfl)
end Go.Proofs.Ytjogdblionfmiaa
