/-
  The program's code computes the functions over plain values; printed by lift.py. No conditions.
-/
import Derived.Test.YtjogdblionfmiaaS14d
import Derived.Test.YtjogdblionfmiaaSf
import Derived.Test.YtjogdblionfmiaaBrLi
import Derived.Test.YtjogdblionfmiaaBrLs
import Derived.Test.YtjogdblionfmiaaBrV
import Derived.Test.YtjogdblionfmiaaBrX
import Derived.Test.YtjogdblionfmiaaMu2
import Derived.Test.YtjogdblionfmiaaSP1
import Derived.Test.YtjogdblionfmiaaSQ1
import Derived.Test.YtjogdblionfmiaaSR1
namespace Go.Proofs.Ytjogdblionfmiaa
open Go.RowKit
set_option maxRecDepth 100000
theorem F_spec_l12Two_P (code : List Int) {q : (List (List Ximpl_Instr)) × Int × Int} (h : F_spec_l12Two code = some q) : PCall Try.prog 71 [eL cY code] (.tup [eL (cL Ximpl_Instr.c) q.1, I q.2.1, I q.2.2]) := by
  refine PCall.mkT Try.func71 rfl (by kernel_rfl) rfl (by kernel_rfl) (e0 := envOf [(0, eL cY code)]) (weak_cons rfl weak_nil) ?_
  refine T.seq ?_
  refine T.region ?_
  refine oN (EvN.asg (.nil) rfl) ?_
  refine oN (EvN.asg (I (0 : Int)) rfl) ?_
  refine oN (EvN.asg (I (0 : Int)) rfl) ?_
  refine TO.nil ?_
  refine T.seq ?_
  refine T.region ?_
  refine oN (EvN.mv (eL cY code) rfl) ?_
  obtain ⟨v1, cv1, h⟩ := bindL h
  refine oA (EvA.call rfl rfl rfl ((F_spec_l17Open_P code cv1).fresh rfl (rowsF_row rfl) 0 rfl)) ?_
  refine oN (EvN.asg (.hp 0 0 2 0 0) rfl) ?_
  refine TO.nil ?_
  refine T.seq ?_
  refine T.clean (H0 := [some ⟨0, 2, 126, [[eL cY v1.b, I v1.p]]⟩]) (e0 := envOf [(5, .hp 0 0 2 0 0)]) rfl (weak_cons rfl weak_nil) ?_
  refine T.region ?_
  refine oN (EvN.mv (.hp 0 0 2 0 0) rfl) ?_
  refine oN (EvN.mv (.hp 0 0 2 0 0) rfl) ?_
  obtain ⟨v2, cv2, h⟩ := bindL h
  refine oA (EvA.call rfl rfl rfl ((F_spec_l8Small_P (⟨v1.b, v1.p⟩ : Xspec_l17Rd) 0 cv2).one 0 rfl (.cons (.hp rfl) .nil) (rowsF_row rfl) (rowsF_row rfl) rfl)) ?_
  obtain ⟨v3, cv3, h⟩ := bindL h
  refine oA (EvA.call rfl rfl rfl ((F_spec_l1Mutate_P (⟨v2.1.b, v2.1.p⟩ : Xspec_l17Rd) v2.2 0 cv3).one 0 rfl (.cons (.hp rfl) (.cons (.pF rfl) .nil)) (rowsF_row rfl) (rowsF_row rfl) rfl)) ?_
  refine oN (EvN.asg (eL (cL Ximpl_Instr.c) v3.2) rfl) ?_
  refine TO.nil ?_
  refine T.seq ?_
  refine T.region ?_
  refine oN (EvN.mv (eL (cL Ximpl_Instr.c) v3.2) rfl) ?_
  refine oN (EvN.mv (.hp 0 0 2 0 0) rfl) ?_
  refine oN (EvN.mkF (c := cI) ([(0 : Int), (1 : Int), (0 : Int), (2 : Int), (-1 : Int)] : List Int) [[I (0 : Int)], [I (1 : Int)], [I (0 : Int)], [I (2 : Int)], [I (-1 : Int)]] sl37 rfl rfl rfl (fun _ => rfl) (fun _ => rfl) rfl) ?_
  obtain ⟨v4, cv4, h⟩ := bindL h
  refine oA (EvA.call rfl rfl rfl ((F_spec_l17Rd_num_P (⟨v3.1.b, v3.1.p⟩ : Xspec_l17Rd) ([(0 : Int), (1 : Int), (0 : Int), (2 : Int), (-1 : Int)] : List Int) 0 cv4).one 0 rfl (.cons (.hp rfl) (.cons (.pF rfl) .nil)) (rowsF_row rfl) (rowsF_row rfl) rfl)) ?_
  refine oN (EvN.mv (.hp 0 0 2 0 0) rfl) ?_
  refine oN (EvN.mkF (c := cI) ([(1 : Int), (0 : Int), (2 : Int), (3 : Int)] : List Int) [[I (1 : Int)], [I (0 : Int)], [I (2 : Int)], [I (3 : Int)]] sl37 rfl rfl rfl (fun _ => rfl) (fun _ => rfl) rfl) ?_
  obtain ⟨v5, cv5, h⟩ := bindL h
  refine oA (EvA.call rfl rfl rfl ((F_spec_l17Rd_num_P (⟨v4.1.b, v4.1.p⟩ : Xspec_l17Rd) ([(1 : Int), (0 : Int), (2 : Int), (3 : Int)] : List Int) 0 cv5).one 0 rfl (.cons (.hp rfl) (.cons (.pF rfl) .nil)) (rowsF_row rfl) (rowsF_row rfl) rfl)) ?_
  refine oN (EvN.asg (eL (cL Ximpl_Instr.c) v3.2) rfl) ?_
  refine oN (EvN.asg (I v4.2) rfl) ?_
  refine oN (EvN.asg (I v5.2) rfl) ?_
  refine TO.nil ?_
  refine T.ret ?_
  obtain rfl := Option.some.inj h
  repeat first | refine retS ?_ | refine retB ?_
  exact Fin.ret (vs := [eL (cL Ximpl_Instr.c) v3.2, I v4.2, I v5.2]) (.cons (.tmp rfl) (.cons (.tmp rfl) (.cons (.tmp rfl) .nil))) (.tupL (.cons (.of_isF 9 _ rfl) (.cons (.of_isF 9 _ rfl) (.cons (.of_isF 9 _ rfl) .nil))))

theorem F_spec_DrawTurnLocs_P (code : List Int) {q : (List (List Ximpl_Instr)) × Int × Int} (h : F_spec_DrawTurnLocs code = some q) : PCall Try.prog 20 [eL cY code] (.tup [eL (cL Ximpl_Instr.c) q.1, I q.2.1, I q.2.2]) := by
  refine PCall.mkT Try.func20 rfl (by kernel_rfl) rfl (by kernel_rfl) (e0 := envOf [(0, eL cY code)]) (weak_cons rfl weak_nil) ?_
  refine T.seq ?_
  refine T.region ?_
  refine oN (EvN.asg (.nil) rfl) ?_
  refine oN (EvN.asg (I (0 : Int)) rfl) ?_
  refine oN (EvN.asg (I (0 : Int)) rfl) ?_
  refine TO.nil ?_
  refine T.seq ?_
  refine T.region ?_
  refine oN (EvN.mv (eL cY code) rfl) ?_
  obtain ⟨v1, cv1, h⟩ := bindL h
  refine oN (EvN.call rfl rfl rfl (F_spec_l12Two_P code cv1) rfl) ?_
  refine oN (EvN.ext (eL (cL Ximpl_Instr.c) v1.1) rfl rfl) ?_
  refine oN (EvN.ext (I v1.2.1) rfl rfl) ?_
  refine oN (EvN.ext (I v1.2.2) rfl rfl) ?_
  refine oN (EvN.asg (eL (cL Ximpl_Instr.c) v1.1) rfl) ?_
  refine oN (EvN.asg (I v1.2.1) rfl) ?_
  refine oN (EvN.asg (I v1.2.2) rfl) ?_
  refine TO.nil ?_
  refine T.ret ?_
  obtain rfl := Option.some.inj h
  repeat first | refine retS ?_ | refine retB ?_
  exact Fin.ret (vs := [eL (cL Ximpl_Instr.c) v1.1, I v1.2.1, I v1.2.2]) (.cons (.tmp rfl) (.cons (.tmp rfl) (.cons (.tmp rfl) .nil))) (.tupL (.cons (.of_isF 9 _ rfl) (.cons (.of_isF 9 _ rfl) (.cons (.of_isF 9 _ rfl) .nil))))

theorem F_impl_CountExecs_P (p : List (List Ximpl_Instr)) {q : Int} (h : F_impl_CountExecs p = some q) : PCall Try.prog 23 [eL (cL Ximpl_Instr.c) p] (I q) := by
  refine PCall.mkT Try.func23 rfl (by kernel_rfl) rfl (by kernel_rfl) (e0 := envOf [(0, eL (cL Ximpl_Instr.c) p)]) (weak_cons rfl weak_nil) ?_
  refine T.seq ?_
  refine T.region ?_
  refine oN (EvN.asg (I (0 : Int)) rfl) ?_
  refine TO.nil ?_
  refine T.seq ?_
  refine T.seq ?_
  refine T.region ?_
  refine oN (EvN.mv (eL (cL Ximpl_Instr.c) p) rfl) ?_
  obtain ⟨v1, cv1, h⟩ := bindL h
  refine oN (EvN.call rfl rfl rfl (F_impl_ProgramValid_P p cv1) rfl) ?_
  refine oN (EvN.not rfl) ?_
  refine TO.nil ?_
  refine T.cond rfl (fun q2 => ?_) (fun q2 => ?_)
  · replace h := condT q2 h
    refine T.seq ?_
    refine T.region ?_
    refine oN (EvN.asg (I (0 : Int)) rfl) ?_
    refine TO.nil ?_
    refine T.ret ?_
    obtain rfl := Option.some.inj h
    repeat first | refine retS ?_ | refine retB ?_
    exact Fin.ret (vs := [I (0 : Int)]) (.cons (.tmp rfl) .nil) (.of_isF 9 _ rfl)
  · replace h := condF q2 h
    refine T.skip ?_
    refine T.seq ?_
    refine T.region ?_
    refine oN (EvN.mv (eL (cL Ximpl_Instr.c) p) rfl) ?_
    obtain ⟨v3, cv3, h⟩ := bindL h
    refine oN (EvN.call rfl rfl rfl (F_impl_execs_P p cv3) rfl) ?_
    refine oN (EvN.asg (I v3) rfl) ?_
    refine TO.nil ?_
    refine T.ret ?_
    obtain rfl := Option.some.inj h
    repeat first | refine retS ?_ | refine retB ?_
    exact Fin.ret (vs := [I v3]) (.cons (.tmp rfl) .nil) (.of_isF 9 _ rfl)

theorem F_impl_instrs_P (p : List (List Ximpl_Instr)) {q : (List Ximpl_Gap)} (h : F_impl_instrs p = some q) : PCall Try.prog 81 [eL (cL Ximpl_Instr.c) p] (eL Ximpl_Gap.c q) := by
  refine PCall.mkT Try.func81 rfl (by kernel_rfl) rfl (by kernel_rfl) (e0 := envOf [(0, eL (cL Ximpl_Instr.c) p)]) (weak_cons rfl weak_nil) ?_
  refine T.seq ?_
  refine T.region ?_
  refine oN (EvN.asg (.nil) rfl) ?_
  refine TO.nil ?_
  refine T.seq ?_
  refine T.reserve ?_
  refine T.region ?_
  refine oN (EvN.asg (hS true 0 0 2 (([] : List Ximpl_Gap).length)) rfl) ?_
  refine TO.nil ?_
  obtain ⟨s1, h, ks1⟩ := bindL h
  refine T.joinF (G := (Bool × Nat)) (fun gh => (gh.1 = true → s1 = [])) (fun gh => [(3, hS gh.1 0 gh.2 2 s1.length)]) (fun gh => [bE gh.1 gh.2 2 96 (s1.map Ximpl_Gap.c)]) (fun gh n30 => ?_) ?_
  · clear h
    have h := ks1
    clear ks1
    obtain ⟨b29, u28⟩ := gh
    refine T.seq ?_
    refine T.region ?_
    refine oN (EvN.mv (hS b29 0 u28 2 s1.length) rfl) ?_
    refine oN (EvN.asg (hS b29 0 u28 2 s1.length) rfl) ?_
    refine TO.nil ?_
    refine T.ret ?_
    obtain rfl := Option.some.inj h
    repeat first | refine retS ?_ | refine retB ?_
    exact Fin.ret (vs := [hS b29 0 u28 2 s1.length]) (.cons (.tmp rfl) .nil) (Fz.own (g := b29) (ver := u28) (l := s1) rfl rfl rfl n30 Ximpl_Gap.isF)
  · clear ks1
    refine T.seq ?_
    refine T.region ?_
    refine oN (EvN.mv (eL (cL Ximpl_Instr.c) p) rfl) ?_
    refine oN (EvN.lenL sl23 rfl) ?_
    refine oN (EvN.mv (I (0 : Int)) rfl) ?_
    refine TO.nil ?_
    refine T.block ?_
    refine T.loop (S := (List Ximpl_Gap) × Int) (G := (Bool × Nat)) (F_impl_instrs_L6 p) (fun s5 gh => (gh.1 = true → s5.1 = [])) (fun s5 gh => [(9, I s5.2), (8, I (p.length : Int)), (7, eL (cL Ximpl_Instr.c) p), (3, hS gh.1 0 gh.2 2 s5.1.length)]) (fun s5 gh => [bE gh.1 gh.2 2 96 (s5.1.map Ximpl_Gap.c)]) (s0 := (([] : List Ximpl_Gap), (0 : Int))) (true, 0) h (fun _ => rfl) (cutW rfl (weak_cons rfl (weak_cons rfl (weak_cons rfl (weak_cons rfl weak_nil))))) (fun s5 gh ws5 h n9 => ?_)
    obtain ⟨b8, u7⟩ := gh
    refine T.seq ?_
    refine T.region ?_
    refine oN (EvN.ilt rfl rfl) ?_
    refine TO.nil ?_
    refine T.seq ?_
    refine T.cond rfl (fun q10 => ?_) (fun q10 => ?_)
    · replace h := condT q10 h
      refine T.skip ?_
      obtain ⟨s11, h, ks11⟩ := bindL h
      refine T.joinF (G := (Bool × Nat)) (fun gh => (gh.1 = true → s11 = [])) (fun gh => [(9, I s5.2), (8, I (p.length : Int)), (7, eL (cL Ximpl_Instr.c) p), (3, hS gh.1 0 gh.2 2 s11.length)]) (fun gh => [bE gh.1 gh.2 2 96 (s11.map Ximpl_Gap.c)]) (fun gh n26 => ?_) ?_
      · clear h
        have h := ks11
        clear ks11
        obtain ⟨b25, u24⟩ := gh
        refine T.region ?_
        obtain ⟨g27, h⟩ := gdW h
        refine oN (EvN.add rfl rfl g27) ?_
        refine oN (EvN.mv (I (s5.2 + (1 : Int))) rfl) ?_
        refine TO.nil ?_
        obtain rfl := Option.some.inj h
        exact ⟨(s11, (s5.2 + (1 : Int))), (b25, u24), rfl, n26, cutW rfl (weak_cons rfl (weak_cons rfl (weak_cons rfl (weak_cons rfl weak_nil))))⟩
      · clear ks11
        refine T.block ?_
        refine T.seq ?_
        refine T.region ?_
        refine oN (EvN.mv (I s5.2) rfl) ?_
        obtain ⟨g12, h⟩ := gdD h
        refine oN (EvN.ixL sl23 rfl rfl g12 (fun _ => rfl)) ?_
        refine oN (EvN.loadfp (eL Ximpl_Instr.c (p.getD s5.2.toNat default)) ty78 rfl rfl) ?_
        refine oN (EvN.asg (I s5.2) rfl) ?_
        refine oN (EvN.asg (eL Ximpl_Instr.c (p.getD s5.2.toNat default)) rfl) ?_
        refine TO.nil ?_
        refine T.seq ?_
        refine T.region ?_
        refine oN (EvN.mv (eL Ximpl_Instr.c (p.getD s5.2.toNat default)) rfl) ?_
        refine oN (EvN.lenL sl78 rfl) ?_
        refine oN (EvN.mv (I (0 : Int)) rfl) ?_
        refine TO.nil ?_
        refine T.block ?_
        refine T.loop (S := (List Ximpl_Gap) × Int) (G := (Bool × Nat)) (F_impl_instrs_L17 p s5) (fun s16 gh => (gh.1 = true → s16.1 = [])) (fun s16 gh => [(16, I s16.2), (15, I ((p.getD s5.2.toNat default).length : Int)), (4, I s5.2), (9, I s5.2), (8, I (p.length : Int)), (7, eL (cL Ximpl_Instr.c) p), (3, hS gh.1 0 gh.2 2 s16.1.length)]) (fun s16 gh => [bE gh.1 gh.2 2 96 (s16.1.map Ximpl_Gap.c)]) (s0 := (s5.1, (0 : Int))) (b8, u7) h n9 (cutW rfl (weak_cons rfl (weak_cons rfl (weak_cons rfl (weak_cons rfl (weak_cons rfl (weak_cons rfl (weak_cons rfl weak_nil)))))))) (fun s16 gh ws16 h n20 => ?_)
        obtain ⟨b19, u18⟩ := gh
        refine T.seq ?_
        refine T.region ?_
        refine oN (EvN.ilt rfl rfl) ?_
        refine TO.nil ?_
        refine T.seq ?_
        refine T.cond rfl (fun q21 => ?_) (fun q21 => ?_)
        · replace h := condT q21 h
          refine T.skip ?_
          refine T.seq ?_
          refine T.block ?_
          refine T.seq ?_
          refine T.region ?_
          refine oN (EvN.mv (I s16.2) rfl) ?_
          refine oN (EvN.asg (I s16.2) rfl) ?_
          refine TO.nil ?_
          refine T.region ?_
          refine oN (EvN.mv (hS b19 0 u18 2 s16.1.length) rfl) ?_
          refine oN (EvN.mv (I s5.2) rfl) ?_
          refine oN (EvN.mv (I s16.2) rfl) ?_
          refine oN (EvN.build [I s5.2, I s16.2] Try.underlying96 zs96 fs96 rfl rfl) ?_
          refine oN (EvN.mkF (c := Ximpl_Gap.c) ([(⟨s5.2, s16.2⟩ : Ximpl_Gap)] : List Ximpl_Gap) [[I s5.2, I s16.2]] sl93 rfl rfl rfl (fun _ => rfl) Ximpl_Gap.isF rfl) ?_
          obtain ⟨g22, h⟩ := gdL h
          refine oA (EvA.app1 (g := b19) (l := s16.1) (⟨s5.2, s16.2⟩ : Ximpl_Gap) sl93 (by kernel_rfl) rfl rfl rfl n20 (SrcOk.fz (l := ([(⟨s5.2, s16.2⟩ : Ximpl_Gap)] : List Ximpl_Gap)) rfl (fun _ => rfl)) g22) ?_
          refine oN (EvN.asg (hS false 0 (u18 + 1) 2 ((s16.1 ++ [(⟨s5.2, s16.2⟩ : Ximpl_Gap)]).length)) rfl) ?_
          refine TO.nil ?_
          refine T.clean (H0 := [bE false (u18 + 1) 2 96 ((s16.1 ++ [(⟨s5.2, s16.2⟩ : Ximpl_Gap)]).map Ximpl_Gap.c)]) (e0 := envOf [(3, hS false 0 (u18 + 1) 2 ((s16.1 ++ [(⟨s5.2, s16.2⟩ : Ximpl_Gap)]).length)), (16, I s16.2), (15, I ((p.getD s5.2.toNat default).length : Int)), (4, I s5.2), (9, I s5.2), (8, I (p.length : Int)), (7, eL (cL Ximpl_Instr.c) p)]) rfl (weak_cons rfl (weak_cons rfl (weak_cons rfl (weak_cons rfl (weak_cons rfl (weak_cons rfl (weak_cons rfl weak_nil))))))) ?_
          refine T.region ?_
          obtain ⟨g23, h⟩ := gdW h
          refine oN (EvN.add rfl rfl g23) ?_
          refine oN (EvN.mv (I (s16.2 + (1 : Int))) rfl) ?_
          refine TO.nil ?_
          obtain rfl := Option.some.inj h
          exact ⟨((s16.1 ++ [(⟨s5.2, s16.2⟩ : Ximpl_Gap)]), (s16.2 + (1 : Int))), (false, u18 + 1), rfl, nofun, cutW rfl (weak_cons rfl (weak_cons rfl (weak_cons rfl (weak_cons rfl (weak_cons rfl (weak_cons rfl (weak_cons rfl weak_nil)))))))⟩
        · replace h := condF q21 h
          refine T.exit ?_
          refine ⟨_, (Option.some.inj h).symm, fun h => ?_⟩
          replace h := congrArg some h
          obtain rfl := Option.some.inj h
          exact ⟨(b19, u18), n20, cutW rfl (weak_cons rfl (weak_cons rfl (weak_cons rfl (weak_cons rfl weak_nil))))⟩
    · replace h := condF q10 h
      refine T.exit ?_
      refine ⟨_, (Option.some.inj h).symm, fun h => ?_⟩
      replace h := congrArg some h
      obtain rfl := Option.some.inj h
      exact ⟨(b8, u7), n9, cutW rfl (weak_cons rfl weak_nil)⟩

theorem F_impl_Instr_writes_P (x : Ximpl_Instr) {q : Bool} (h : F_impl_Instr_writes x = some q) : PCall Try.prog 131 [.agg (Ximpl_Instr.c x)] (Bo q) := by
  refine PCall.mkT Try.func131 rfl (by kernel_rfl) rfl (by kernel_rfl) (e0 := envOf [(0, .agg (Ximpl_Instr.c x))]) (weak_cons rfl weak_nil) ?_
  refine T.seq ?_
  refine T.region ?_
  refine oN (EvN.bxF [I x.Op, I x.Loc, I x.Reg, I x.Val] rfl rfl rfl) ?_
  refine oN (EvN.asg (Bo false) rfl) ?_
  refine TO.nil ?_
  refine T.seq ?_
  refine T.region ?_
  refine oN (EvN.fafp Try.underlying81 rfl (by kernel_rfl) rfl) ?_
  refine oN (EvN.loadfp (I x.Op) ty3 rfl rfl) ?_
  refine oN (EvN.ieq rfl rfl) ?_
  refine oN (EvN.mv (Bo (x.Op == (2 : Int))) rfl) ?_
  obtain ⟨s1, h, ks1⟩ := bindL h
  refine TO.joinF (G := Unit) 4 (fun _ => True) (fun _ => [(10, Bo s1), (1, .fp (Ximpl_Instr.c x) 0)]) (fun _ => []) ?_ (fun js1 => ?_)
  rotate_left
  · clear ks1
    rcases bifL h with ⟨q2, h⟩ | ⟨q2, h⟩
    · refine gS rfl q2 ?_
      refine gS rfl q2 ?_
      refine gS rfl q2 ?_
      refine oN (EvN.pickT rfl q2 (Bo true) rfl) ?_
      obtain rfl := Option.some.inj h
      exact js1 _ _ ⟨(), trivial, cutW rfl (weak_cons rfl (weak_cons rfl weak_nil))⟩
    · refine gN rfl q2 (EvN.fafp Try.underlying81 rfl (by kernel_rfl) rfl) ?_
      refine gN rfl q2 (EvN.loadfp (I x.Op) ty3 rfl rfl) ?_
      refine gN rfl q2 (EvN.ieq rfl rfl) ?_
      refine oN (EvN.pickF rfl q2 (Bo (x.Op == (3 : Int))) rfl) ?_
      obtain rfl := Option.some.inj h
      exact js1 _ _ ⟨(), trivial, cutW rfl (weak_cons rfl (weak_cons rfl weak_nil))⟩
  · intro _ _
    replace h := ks1
    clear ks1
    refine oN (EvN.mv (Bo s1) rfl) ?_
    obtain ⟨s3, h, ks3⟩ := bindL h
    refine TO.joinF (G := Unit) 4 (fun _ => True) (fun _ => [(15, Bo s3)]) (fun _ => []) ?_ (fun js3 => ?_)
    rotate_left
    · clear ks3
      rcases bifL h with ⟨q4, h⟩ | ⟨q4, h⟩
      · refine gS rfl q4 ?_
        refine gS rfl q4 ?_
        refine gS rfl q4 ?_
        refine oN (EvN.pickT rfl q4 (Bo true) rfl) ?_
        obtain rfl := Option.some.inj h
        exact js3 _ _ ⟨(), trivial, cutW rfl (weak_cons rfl weak_nil)⟩
      · refine gN rfl q4 (EvN.fafp Try.underlying81 rfl (by kernel_rfl) rfl) ?_
        refine gN rfl q4 (EvN.loadfp (I x.Op) ty3 rfl rfl) ?_
        refine gN rfl q4 (EvN.ieq rfl rfl) ?_
        refine oN (EvN.pickF rfl q4 (Bo (x.Op == (5 : Int))) rfl) ?_
        obtain rfl := Option.some.inj h
        exact js3 _ _ ⟨(), trivial, cutW rfl (weak_cons rfl weak_nil)⟩
    · intro _ _
      replace h := ks3
      clear ks3
      refine oN (EvN.asg (Bo s3) rfl) ?_
      refine TO.nil ?_
      refine T.ret ?_
      obtain rfl := Option.some.inj h
      repeat first | refine retS ?_ | refine retB ?_
      exact Fin.ret (vs := [Bo s3]) (.cons (.tmp rfl) .nil) (.of_isF 9 _ rfl)

theorem F_impl_conflict_P (x : Ximpl_Instr) (y : Ximpl_Instr) {q : Bool} (h : F_impl_conflict x y = some q) : PCall Try.prog 82 [.agg (Ximpl_Instr.c x), .agg (Ximpl_Instr.c y)] (Bo q) := by
  refine PCall.mkT Try.func82 rfl (by kernel_rfl) rfl (by kernel_rfl) (e0 := envOf [(0, .agg (Ximpl_Instr.c x)), (1, .agg (Ximpl_Instr.c y))]) (weak_cons rfl (weak_cons rfl weak_nil)) ?_
  refine T.seq ?_
  refine T.region ?_
  refine oN (EvN.bxF [I x.Op, I x.Loc, I x.Reg, I x.Val] rfl rfl rfl) ?_
  refine oN (EvN.bxF [I y.Op, I y.Loc, I y.Reg, I y.Val] rfl rfl rfl) ?_
  refine oN (EvN.asg (Bo false) rfl) ?_
  refine TO.nil ?_
  refine T.seq ?_
  refine T.region ?_
  refine oN (EvN.fafp Try.underlying81 rfl (by kernel_rfl) rfl) ?_
  refine oN (EvN.loadfp (I x.Op) ty3 rfl rfl) ?_
  refine oN (EvN.ine rfl rfl) ?_
  refine oN (EvN.mv (Bo (x.Op != (4 : Int))) rfl) ?_
  obtain ⟨s1, h, ks1⟩ := bindL h
  refine TO.joinF (G := Unit) 4 (fun _ => True) (fun _ => [(12, Bo s1), (3, .fp (Ximpl_Instr.c y) 0), (2, .fp (Ximpl_Instr.c x) 0)]) (fun _ => []) ?_ (fun js1 => ?_)
  rotate_left
  · clear ks1
    rcases bifL h with ⟨q2, h⟩ | ⟨q2, h⟩
    · refine gN rfl q2 (EvN.fafp Try.underlying81 rfl (by kernel_rfl) rfl) ?_
      refine gN rfl q2 (EvN.loadfp (I y.Op) ty3 rfl rfl) ?_
      refine gN rfl q2 (EvN.ine rfl rfl) ?_
      refine oN (EvN.pickT rfl q2 (Bo (y.Op != (4 : Int))) rfl) ?_
      obtain rfl := Option.some.inj h
      exact js1 _ _ ⟨(), trivial, cutW rfl (weak_cons rfl (weak_cons rfl (weak_cons rfl weak_nil)))⟩
    · refine gS rfl q2 ?_
      refine gS rfl q2 ?_
      refine gS rfl q2 ?_
      refine oN (EvN.pickF rfl q2 (Bo false) rfl) ?_
      obtain rfl := Option.some.inj h
      exact js1 _ _ ⟨(), trivial, cutW rfl (weak_cons rfl (weak_cons rfl (weak_cons rfl weak_nil)))⟩
  · intro _ _
    replace h := ks1
    clear ks1
    refine oN (EvN.mv (Bo s1) rfl) ?_
    obtain ⟨s3, h, ks3⟩ := bindL h
    refine TO.joinF (G := Unit) 6 (fun _ => True) (fun _ => [(19, Bo s3), (3, .fp (Ximpl_Instr.c y) 0), (2, .fp (Ximpl_Instr.c x) 0)]) (fun _ => []) ?_ (fun js3 => ?_)
    rotate_left
    · clear ks3
      rcases bifL h with ⟨q4, h⟩ | ⟨q4, h⟩
      · refine gN rfl q4 (EvN.fafp Try.underlying81 rfl (by kernel_rfl) rfl) ?_
        refine gN rfl q4 (EvN.loadfp (I x.Loc) ty3 rfl rfl) ?_
        refine gN rfl q4 (EvN.fafp Try.underlying81 rfl (by kernel_rfl) rfl) ?_
        refine gN rfl q4 (EvN.loadfp (I y.Loc) ty3 rfl rfl) ?_
        refine gN rfl q4 (EvN.ieq rfl rfl) ?_
        refine oN (EvN.pickT rfl q4 (Bo (x.Loc == y.Loc)) rfl) ?_
        obtain rfl := Option.some.inj h
        exact js3 _ _ ⟨(), trivial, cutW rfl (weak_cons rfl (weak_cons rfl (weak_cons rfl weak_nil)))⟩
      · refine gS rfl q4 ?_
        refine gS rfl q4 ?_
        refine gS rfl q4 ?_
        refine gS rfl q4 ?_
        refine gS rfl q4 ?_
        refine oN (EvN.pickF rfl q4 (Bo false) rfl) ?_
        obtain rfl := Option.some.inj h
        exact js3 _ _ ⟨(), trivial, cutW rfl (weak_cons rfl (weak_cons rfl (weak_cons rfl weak_nil)))⟩
    · intro _ _
      replace h := ks3
      clear ks3
      refine oN (EvN.mv (Bo s3) rfl) ?_
      obtain ⟨s5, h, ks5⟩ := bindL h
      refine TO.joinF (G := Unit) 7 (fun _ => True) (fun _ => [(27, Bo s5)]) (fun _ => []) ?_ (fun js5 => ?_)
      rotate_left
      · clear ks5
        rcases bifL h with ⟨q6, h⟩ | ⟨q6, h⟩
        · refine gN rfl q6 (EvN.loadfp (.agg (Ximpl_Instr.c x)) ty81 rfl rfl) ?_
          obtain ⟨v7, cv7, h⟩ := bindL h
          refine gN rfl q6 (EvN.call rfl rfl rfl (F_impl_Instr_writes_P x cv7) rfl) ?_
          refine gN rfl q6 (EvN.mv (Bo v7) rfl) ?_
          obtain ⟨s8, h, ks8⟩ := bindL h
          refine TO.joinF (G := Unit) 3 (fun _ => True) (fun _ => [(26, Bo s8), (20, Bo s3)]) (fun _ => []) ?_ (fun js8 => ?_)
          rotate_left
          · clear ks8
            rcases bifL h with ⟨q9, h⟩ | ⟨q9, h⟩
            · refine gS rfl q9 ?_
              refine gS rfl q9 ?_
              refine gN rfl q6 (EvN.pickT rfl q9 (Bo true) rfl) ?_
              obtain rfl := Option.some.inj h
              exact js8 _ _ ⟨(), trivial, cutW rfl (weak_cons rfl (weak_cons rfl weak_nil))⟩
            · refine gN rfl q9 (EvN.loadfp (.agg (Ximpl_Instr.c y)) ty81 rfl rfl) ?_
              obtain ⟨v10, cv10, h⟩ := bindL h
              refine gN rfl q9 (EvN.call rfl rfl rfl (F_impl_Instr_writes_P y cv10) rfl) ?_
              refine gN rfl q6 (EvN.pickF rfl q9 (Bo v10) rfl) ?_
              obtain rfl := Option.some.inj h
              exact js8 _ _ ⟨(), trivial, cutW rfl (weak_cons rfl (weak_cons rfl weak_nil))⟩
          · intro _ _
            replace h := ks8
            clear ks8
            refine oN (EvN.pickT rfl q6 (Bo s8) rfl) ?_
            obtain rfl := Option.some.inj h
            exact js5 _ _ ⟨(), trivial, cutW rfl (weak_cons rfl weak_nil)⟩
        · refine gS rfl q6 ?_
          refine gS rfl q6 ?_
          refine gS rfl q6 ?_
          refine gU rfl ?_
          refine gU rfl ?_
          refine gS rfl q6 ?_
          refine oN (EvN.pickF rfl q6 (Bo false) rfl) ?_
          obtain rfl := Option.some.inj h
          exact js5 _ _ ⟨(), trivial, cutW rfl (weak_cons rfl weak_nil)⟩
      · intro _ _
        replace h := ks5
        clear ks5
        refine oN (EvN.asg (Bo s5) rfl) ?_
        refine TO.nil ?_
        refine T.ret ?_
        obtain rfl := Option.some.inj h
        repeat first | refine retS ?_ | refine retB ?_
        exact Fin.ret (vs := [Bo s5]) (.cons (.tmp rfl) .nil) (.of_isF 9 _ rfl)

theorem F_impl_RacesOf_P (p : List (List Ximpl_Instr)) {q : (List Ximpl_Race)} (h : F_impl_RacesOf p = some q) : PCall Try.prog 24 [eL (cL Ximpl_Instr.c) p] (eL Ximpl_Race.c q) := by
  refine PCall.mkT Try.func24 rfl (by kernel_rfl) rfl (by kernel_rfl) (e0 := envOf [(0, eL (cL Ximpl_Instr.c) p)]) (weak_cons rfl weak_nil) ?_
  refine T.seq ?_
  refine T.region ?_
  refine oN (EvN.asg (.nil) rfl) ?_
  refine TO.nil ?_
  refine T.seq ?_
  refine T.seq ?_
  refine T.region ?_
  refine oN (EvN.mv (eL (cL Ximpl_Instr.c) p) rfl) ?_
  obtain ⟨v1, cv1, h⟩ := bindL h
  refine oN (EvN.call rfl rfl rfl (F_impl_ProgramValid_P p cv1) rfl) ?_
  refine oN (EvN.not rfl) ?_
  refine TO.nil ?_
  refine T.cond rfl (fun q2 => ?_) (fun q2 => ?_)
  · replace h := condT q2 h
    refine T.seq ?_
    refine T.region ?_
    refine oN (EvN.asg (.nil) rfl) ?_
    refine TO.nil ?_
    refine T.ret ?_
    obtain rfl := Option.some.inj h
    repeat first | refine retS ?_ | refine retB ?_
    exact Fin.ret (vs := [.nil]) (.cons (.tmp rfl) .nil) .nil0
  · replace h := condF q2 h
    refine T.skip ?_
    refine T.seq ?_
    refine T.reserve ?_
    refine T.region ?_
    refine oN (EvN.asg (hS true 0 0 4 (([] : List Ximpl_Race).length)) rfl) ?_
    refine TO.nil ?_
    obtain ⟨s3, h, ks3⟩ := bindL h
    refine T.joinF (G := (Bool × Nat)) (fun gh => (gh.1 = true → s3 = [])) (fun gh => [(3, hS gh.1 0 gh.2 4 s3.length)]) (fun gh => [bE gh.1 gh.2 4 99 (s3.map Ximpl_Race.c)]) (fun gh n51 => ?_) ?_
    · clear h
      have h := ks3
      clear ks3
      obtain ⟨b50, u49⟩ := gh
      refine T.seq ?_
      refine T.region ?_
      refine oN (EvN.mv (hS b50 0 u49 4 s3.length) rfl) ?_
      refine oN (EvN.asg (hS b50 0 u49 4 s3.length) rfl) ?_
      refine TO.nil ?_
      refine T.ret ?_
      obtain rfl := Option.some.inj h
      repeat first | refine retS ?_ | refine retB ?_
      exact Fin.ret (vs := [hS b50 0 u49 4 s3.length]) (.cons (.tmp rfl) .nil) (Fz.own (g := b50) (ver := u49) (l := s3) rfl rfl rfl n51 Ximpl_Race.isF)
    · clear ks3
      refine T.seq ?_
      refine T.region ?_
      refine oN (EvN.mv (eL (cL Ximpl_Instr.c) p) rfl) ?_
      obtain ⟨v4, cv4, h⟩ := bindL h
      refine oN (EvN.call rfl rfl rfl (F_impl_instrs_P p cv4) rfl) ?_
      refine oN (EvN.lenL sl93 rfl) ?_
      refine oN (EvN.mv (I (0 : Int)) rfl) ?_
      refine TO.nil ?_
      refine T.block ?_
      refine T.loop (S := (List Ximpl_Race) × Int) (G := (Bool × Nat)) (F_impl_RacesOf_L9 p v4) (fun s8 gh => (gh.1 = true → s8.1 = [])) (fun s8 gh => [(16, I s8.2), (15, I (v4.length : Int)), (14, eL Ximpl_Gap.c v4), (3, hS gh.1 0 gh.2 4 s8.1.length), (0, eL (cL Ximpl_Instr.c) p)]) (fun s8 gh => [bE gh.1 gh.2 4 99 (s8.1.map Ximpl_Race.c)]) (s0 := (([] : List Ximpl_Race), (0 : Int))) (true, 0) h (fun _ => rfl) (cutW rfl (weak_cons rfl (weak_cons rfl (weak_cons rfl (weak_cons rfl (weak_cons rfl weak_nil)))))) (fun s8 gh ws8 h n12 => ?_)
      obtain ⟨b11, u10⟩ := gh
      refine T.seq ?_
      refine T.region ?_
      refine oN (EvN.ilt rfl rfl) ?_
      refine TO.nil ?_
      refine T.seq ?_
      refine T.cond rfl (fun q13 => ?_) (fun q13 => ?_)
      · replace h := condT q13 h
        refine T.skip ?_
        obtain ⟨s14, h, ks14⟩ := bindL h
        refine T.joinF (G := (Bool × Nat)) (fun gh => (gh.1 = true → s14 = [])) (fun gh => [(16, I s8.2), (15, I (v4.length : Int)), (14, eL Ximpl_Gap.c v4), (3, hS gh.1 0 gh.2 4 s14.length), (0, eL (cL Ximpl_Instr.c) p)]) (fun gh => [bE gh.1 gh.2 4 99 (s14.map Ximpl_Race.c)]) (fun gh n47 => ?_) ?_
        · clear h
          have h := ks14
          clear ks14
          obtain ⟨b46, u45⟩ := gh
          refine T.region ?_
          obtain ⟨g48, h⟩ := gdW h
          refine oN (EvN.add rfl rfl g48) ?_
          refine oN (EvN.mv (I (s8.2 + (1 : Int))) rfl) ?_
          refine TO.nil ?_
          obtain rfl := Option.some.inj h
          exact ⟨(s14, (s8.2 + (1 : Int))), (b46, u45), rfl, n47, cutW rfl (weak_cons rfl (weak_cons rfl (weak_cons rfl (weak_cons rfl (weak_cons rfl weak_nil)))))⟩
        · clear ks14
          refine T.block ?_
          refine T.seq ?_
          refine T.region ?_
          obtain ⟨g15, h⟩ := gdD h
          refine oN (EvN.ixL sl93 rfl rfl g15 (fun _ => rfl)) ?_
          refine oN (EvN.loadfp (.agg (Ximpl_Gap.c (v4.getD s8.2.toNat default))) ty96 rfl rfl) ?_
          refine oA (EvA.al zs96 rfl rfl) ?_
          refine oV (EvA.st (cs := [I ((v4.getD s8.2.toNat default).Thread), I ((v4.getD s8.2.toNat default).Index)]) ⟨0, 2, 96, [[I ((v4.getD s8.2.toNat default).Thread), I ((v4.getD s8.2.toNat default).Index)]]⟩ ty96 rfl rfl rfl rfl rfl rfl rfl rfl rfl) ?_
          refine TO.nil ?_
          refine T.seq ?_
          refine T.region ?_
          refine oN (EvN.mv (eL (cL Ximpl_Instr.c) p) rfl) ?_
          obtain ⟨v16, cv16, h⟩ := bindL h
          refine oN (EvN.call rfl rfl rfl (F_impl_instrs_P p cv16) rfl) ?_
          refine oN (EvN.lenL sl93 rfl) ?_
          refine oN (EvN.mv (I (0 : Int)) rfl) ?_
          refine TO.nil ?_
          refine T.block ?_
          refine T.loop (S := (List Ximpl_Race) × Int) (G := (Bool × Nat)) (F_impl_RacesOf_L21 p v4 s8 v16) (fun s20 gh => (gh.1 = true → s20.1 = [])) (fun s20 gh => [(23, I s20.2), (22, I (v16.length : Int)), (21, eL Ximpl_Gap.c v16), (5, .hp 1 0 2 0 0), (16, I s8.2), (15, I (v4.length : Int)), (14, eL Ximpl_Gap.c v4), (3, hS gh.1 0 gh.2 4 s20.1.length), (0, eL (cL Ximpl_Instr.c) p)]) (fun s20 gh => [bE gh.1 gh.2 4 99 (s20.1.map Ximpl_Race.c), some ⟨0, 2, 96, [[I ((v4.getD s8.2.toNat default).Thread), I ((v4.getD s8.2.toNat default).Index)]]⟩]) (s0 := (s8.1, (0 : Int))) (b11, u10) h n12 (cutW rfl (weak_cons rfl (weak_cons rfl (weak_cons rfl (weak_cons rfl (weak_cons rfl (weak_cons rfl (weak_cons rfl (weak_cons rfl (weak_cons rfl weak_nil)))))))))) (fun s20 gh ws20 h n24 => ?_)
          obtain ⟨b23, u22⟩ := gh
          refine T.seq ?_
          refine T.region ?_
          refine oN (EvN.ilt rfl rfl) ?_
          refine TO.nil ?_
          refine T.seq ?_
          refine T.cond rfl (fun q25 => ?_) (fun q25 => ?_)
          · replace h := condT q25 h
            refine T.skip ?_
            obtain ⟨s26, h, ks26⟩ := bindL h
            refine T.joinF (G := (Bool × Nat)) (fun gh => (gh.1 = true → s26 = [])) (fun gh => [(3, hS gh.1 0 gh.2 4 s26.length), (23, I s20.2), (22, I (v16.length : Int)), (21, eL Ximpl_Gap.c v16), (5, .hp 1 0 2 0 0), (16, I s8.2), (15, I (v4.length : Int)), (14, eL Ximpl_Gap.c v4), (0, eL (cL Ximpl_Instr.c) p)]) (fun gh => [bE gh.1 gh.2 4 99 (s26.map Ximpl_Race.c), some ⟨0, 2, 96, [[I ((v4.getD s8.2.toNat default).Thread), I ((v4.getD s8.2.toNat default).Index)]]⟩]) (fun gh n43 => ?_) ?_
            · clear h
              have h := ks26
              clear ks26
              obtain ⟨b42, u41⟩ := gh
              refine T.region ?_
              obtain ⟨g44, h⟩ := gdW h
              refine oN (EvN.add rfl rfl g44) ?_
              refine oN (EvN.mv (I (s20.2 + (1 : Int))) rfl) ?_
              refine TO.nil ?_
              obtain rfl := Option.some.inj h
              exact ⟨(s26, (s20.2 + (1 : Int))), (b42, u41), rfl, n43, cutW rfl (weak_cons rfl (weak_cons rfl (weak_cons rfl (weak_cons rfl (weak_cons rfl (weak_cons rfl (weak_cons rfl (weak_cons rfl (weak_cons rfl weak_nil)))))))))⟩
            · clear ks26
              refine T.block ?_
              refine T.seq ?_
              refine T.region ?_
              obtain ⟨g27, h⟩ := gdD h
              refine oN (EvN.ixL sl93 rfl rfl g27 (fun _ => rfl)) ?_
              refine oN (EvN.loadfp (.agg (Ximpl_Gap.c (v16.getD s20.2.toNat default))) ty96 rfl rfl) ?_
              refine oA (EvA.al zs96 rfl rfl) ?_
              refine oV (EvA.st (cs := [I ((v16.getD s20.2.toNat default).Thread), I ((v16.getD s20.2.toNat default).Index)]) ⟨0, 2, 96, [[I ((v16.getD s20.2.toNat default).Thread), I ((v16.getD s20.2.toNat default).Index)]]⟩ ty96 rfl rfl rfl rfl rfl rfl rfl rfl rfl) ?_
              refine TO.nil ?_
              refine T.seq ?_
              refine T.reserve ?_
              refine T.reserve ?_
              refine T.drawF (fun i => [([], false), ([], false), ([1], false), ([], false), ([], false), ([], false), ([1], false), ([], false), ([], false), ([], false), ([], false), ([2], false), ([], false), ([], false), ([], false), ([2], false), ([], false), ([], false), ([3], true), ([4], true), ([3], true), ([4], true)].getD i ([], false)) (by kernel_rfl) (by kernel_rfl) ?_
              refine fN rfl (EvN.mv (eL (cL Ximpl_Instr.c) p) rfl) ?_
              refine fN rfl (EvN.fahp Try.underlying96 rfl (by kernel_rfl) rfl) ?_
              refine fR [1] rfl (fun G hG => EvA.loadhp (I ((v4.getD s8.2.toNat default).Thread)) ty3 rfl (hG.a0 rfl) rfl rfl rfl rfl) ?_
              obtain ⟨g28, h⟩ := gdD h
              refine fN rfl (EvN.ixL sl23 rfl rfl g28 (fun _ => rfl)) ?_
              refine fN rfl (EvN.loadfp (eL Ximpl_Instr.c (p.getD ((v4.getD s8.2.toNat default).Thread).toNat default)) ty78 rfl rfl) ?_
              refine fN rfl (EvN.fahp Try.underlying96 rfl (by kernel_rfl) rfl) ?_
              refine fR [1] rfl (fun G hG => EvA.loadhp (I ((v4.getD s8.2.toNat default).Index)) ty3 rfl (hG.a0 rfl) rfl rfl rfl rfl) ?_
              obtain ⟨g29, h⟩ := gdD h
              refine fN rfl (EvN.ixL sl78 rfl rfl g29 (fun _ => rfl)) ?_
              refine fN rfl (EvN.loadfp (.agg (Ximpl_Instr.c ((p.getD ((v4.getD s8.2.toNat default).Thread).toNat default).getD ((v4.getD s8.2.toNat default).Index).toNat default))) ty81 rfl rfl) ?_
              refine fN rfl (EvN.mv (eL (cL Ximpl_Instr.c) p) rfl) ?_
              refine fN rfl (EvN.fahp Try.underlying96 rfl (by kernel_rfl) rfl) ?_
              refine fR [2] rfl (fun G hG => EvA.loadhp (I ((v16.getD s20.2.toNat default).Thread)) ty3 rfl (hG.a0 rfl) rfl rfl rfl rfl) ?_
              obtain ⟨g30, h⟩ := gdD h
              refine fN rfl (EvN.ixL sl23 rfl rfl g30 (fun _ => rfl)) ?_
              refine fN rfl (EvN.loadfp (eL Ximpl_Instr.c (p.getD ((v16.getD s20.2.toNat default).Thread).toNat default)) ty78 rfl rfl) ?_
              refine fN rfl (EvN.fahp Try.underlying96 rfl (by kernel_rfl) rfl) ?_
              refine fR [2] rfl (fun G hG => EvA.loadhp (I ((v16.getD s20.2.toNat default).Index)) ty3 rfl (hG.a0 rfl) rfl rfl rfl rfl) ?_
              obtain ⟨g31, h⟩ := gdD h
              refine fN rfl (EvN.ixL sl78 rfl rfl g31 (fun _ => rfl)) ?_
              refine fN rfl (EvN.loadfp (.agg (Ximpl_Instr.c ((p.getD ((v16.getD s20.2.toNat default).Thread).toNat default).getD ((v16.getD s20.2.toNat default).Index).toNat default))) ty81 rfl rfl) ?_
              refine fW 3 [] rfl rfl (fun G hG => EvA.alR 3 zs81 rfl rfl (hG.a0 rfl)) ?_
              refine fW 4 [] rfl rfl (fun G hG => EvA.alR 4 zs81 rfl rfl (hG.a0 rfl)) ?_
              refine fV 3 [] rfl rfl (fun G hG => EvA.st (cs := [I (((p.getD ((v4.getD s8.2.toNat default).Thread).toNat default).getD ((v4.getD s8.2.toNat default).Index).toNat default).Op), I (((p.getD ((v4.getD s8.2.toNat default).Thread).toNat default).getD ((v4.getD s8.2.toNat default).Index).toNat default).Loc), I (((p.getD ((v4.getD s8.2.toNat default).Thread).toNat default).getD ((v4.getD s8.2.toNat default).Index).toNat default).Reg), I (((p.getD ((v4.getD s8.2.toNat default).Thread).toNat default).getD ((v4.getD s8.2.toNat default).Index).toNat default).Val)]) ⟨0, 4, 81, [[I (((p.getD ((v4.getD s8.2.toNat default).Thread).toNat default).getD ((v4.getD s8.2.toNat default).Index).toNat default).Op), I (((p.getD ((v4.getD s8.2.toNat default).Thread).toNat default).getD ((v4.getD s8.2.toNat default).Index).toNat default).Loc), I (((p.getD ((v4.getD s8.2.toNat default).Thread).toNat default).getD ((v4.getD s8.2.toNat default).Index).toNat default).Reg), I (((p.getD ((v4.getD s8.2.toNat default).Thread).toNat default).getD ((v4.getD s8.2.toNat default).Index).toNat default).Val)]]⟩ ty81 rfl rfl (hG.a0 rfl) rfl rfl rfl rfl rfl rfl) ?_
              refine fV 4 [] rfl rfl (fun G hG => EvA.st (cs := [I (((p.getD ((v16.getD s20.2.toNat default).Thread).toNat default).getD ((v16.getD s20.2.toNat default).Index).toNat default).Op), I (((p.getD ((v16.getD s20.2.toNat default).Thread).toNat default).getD ((v16.getD s20.2.toNat default).Index).toNat default).Loc), I (((p.getD ((v16.getD s20.2.toNat default).Thread).toNat default).getD ((v16.getD s20.2.toNat default).Index).toNat default).Reg), I (((p.getD ((v16.getD s20.2.toNat default).Thread).toNat default).getD ((v16.getD s20.2.toNat default).Index).toNat default).Val)]) ⟨0, 4, 81, [[I (((p.getD ((v16.getD s20.2.toNat default).Thread).toNat default).getD ((v16.getD s20.2.toNat default).Index).toNat default).Op), I (((p.getD ((v16.getD s20.2.toNat default).Thread).toNat default).getD ((v16.getD s20.2.toNat default).Index).toNat default).Loc), I (((p.getD ((v16.getD s20.2.toNat default).Thread).toNat default).getD ((v16.getD s20.2.toNat default).Index).toNat default).Reg), I (((p.getD ((v16.getD s20.2.toNat default).Thread).toNat default).getD ((v16.getD s20.2.toNat default).Index).toNat default).Val)]]⟩ ty81 rfl rfl (hG.a0 rfl) rfl rfl rfl rfl rfl rfl) ?_
              refine TF.nil ?_
              refine T.seq ?_
              refine T.clean (H0 := [bE b23 u22 4 99 (s20.1.map Ximpl_Race.c), some ⟨0, 2, 96, [[I ((v4.getD s8.2.toNat default).Thread), I ((v4.getD s8.2.toNat default).Index)]]⟩, some ⟨0, 2, 96, [[I ((v16.getD s20.2.toNat default).Thread), I ((v16.getD s20.2.toNat default).Index)]]⟩, some ⟨0, 4, 81, [[I (((p.getD ((v4.getD s8.2.toNat default).Thread).toNat default).getD ((v4.getD s8.2.toNat default).Index).toNat default).Op), I (((p.getD ((v4.getD s8.2.toNat default).Thread).toNat default).getD ((v4.getD s8.2.toNat default).Index).toNat default).Loc), I (((p.getD ((v4.getD s8.2.toNat default).Thread).toNat default).getD ((v4.getD s8.2.toNat default).Index).toNat default).Reg), I (((p.getD ((v4.getD s8.2.toNat default).Thread).toNat default).getD ((v4.getD s8.2.toNat default).Index).toNat default).Val)]]⟩, some ⟨0, 4, 81, [[I (((p.getD ((v16.getD s20.2.toNat default).Thread).toNat default).getD ((v16.getD s20.2.toNat default).Index).toNat default).Op), I (((p.getD ((v16.getD s20.2.toNat default).Thread).toNat default).getD ((v16.getD s20.2.toNat default).Index).toNat default).Loc), I (((p.getD ((v16.getD s20.2.toNat default).Thread).toNat default).getD ((v16.getD s20.2.toNat default).Index).toNat default).Reg), I (((p.getD ((v16.getD s20.2.toNat default).Thread).toNat default).getD ((v16.getD s20.2.toNat default).Index).toNat default).Val)]]⟩]) (e0 := envOf [(9, .hp 4 0 4 0 0), (8, .hp 3 0 4 0 0), (7, .hp 2 0 2 0 0), (23, I s20.2), (22, I (v16.length : Int)), (21, eL Ximpl_Gap.c v16), (5, .hp 1 0 2 0 0), (16, I s8.2), (15, I (v4.length : Int)), (14, eL Ximpl_Gap.c v4), (3, hS b23 0 u22 4 s20.1.length), (0, eL (cL Ximpl_Instr.c) p)]) rfl (weak_cons rfl (weak_cons rfl (weak_cons rfl (weak_cons rfl (weak_cons rfl (weak_cons rfl (weak_cons rfl (weak_cons rfl (weak_cons rfl (weak_cons rfl (weak_cons rfl (weak_cons rfl weak_nil)))))))))))) ?_
              refine T.region ?_
              refine oN (EvN.fahp Try.underlying96 rfl (by kernel_rfl) rfl) ?_
              refine oA (EvA.loadhp (I ((v4.getD s8.2.toNat default).Thread)) ty3 rfl rfl rfl rfl rfl rfl) ?_
              refine oN (EvN.fahp Try.underlying96 rfl (by kernel_rfl) rfl) ?_
              refine oA (EvA.loadhp (I ((v16.getD s20.2.toNat default).Thread)) ty3 rfl rfl rfl rfl rfl rfl) ?_
              refine oN (EvN.ilt rfl rfl) ?_
              refine oN (EvN.mv (Bo (decide (((v4.getD s8.2.toNat default).Thread) < ((v16.getD s20.2.toNat default).Thread)))) rfl) ?_
              obtain ⟨s32, h, ks32⟩ := bindL h
              refine TO.joinF (G := Unit) 4 (fun _ => True) (fun _ => [(54, Bo s32), (9, .hp 4 0 4 0 0), (8, .hp 3 0 4 0 0), (7, .hp 2 0 2 0 0), (23, I s20.2), (22, I (v16.length : Int)), (21, eL Ximpl_Gap.c v16), (5, .hp 1 0 2 0 0), (16, I s8.2), (15, I (v4.length : Int)), (14, eL Ximpl_Gap.c v4), (3, hS b23 0 u22 4 s20.1.length), (0, eL (cL Ximpl_Instr.c) p)]) (fun _ => [bE b23 u22 4 99 (s20.1.map Ximpl_Race.c), some ⟨0, 2, 96, [[I ((v4.getD s8.2.toNat default).Thread), I ((v4.getD s8.2.toNat default).Index)]]⟩, some ⟨0, 2, 96, [[I ((v16.getD s20.2.toNat default).Thread), I ((v16.getD s20.2.toNat default).Index)]]⟩, some ⟨0, 4, 81, [[I (((p.getD ((v4.getD s8.2.toNat default).Thread).toNat default).getD ((v4.getD s8.2.toNat default).Index).toNat default).Op), I (((p.getD ((v4.getD s8.2.toNat default).Thread).toNat default).getD ((v4.getD s8.2.toNat default).Index).toNat default).Loc), I (((p.getD ((v4.getD s8.2.toNat default).Thread).toNat default).getD ((v4.getD s8.2.toNat default).Index).toNat default).Reg), I (((p.getD ((v4.getD s8.2.toNat default).Thread).toNat default).getD ((v4.getD s8.2.toNat default).Index).toNat default).Val)]]⟩, some ⟨0, 4, 81, [[I (((p.getD ((v16.getD s20.2.toNat default).Thread).toNat default).getD ((v16.getD s20.2.toNat default).Index).toNat default).Op), I (((p.getD ((v16.getD s20.2.toNat default).Thread).toNat default).getD ((v16.getD s20.2.toNat default).Index).toNat default).Loc), I (((p.getD ((v16.getD s20.2.toNat default).Thread).toNat default).getD ((v16.getD s20.2.toNat default).Index).toNat default).Reg), I (((p.getD ((v16.getD s20.2.toNat default).Thread).toNat default).getD ((v16.getD s20.2.toNat default).Index).toNat default).Val)]]⟩]) ?_ (fun js32 => ?_)
              rotate_left
              · clear ks32
                rcases bifL h with ⟨q33, h⟩ | ⟨q33, h⟩
                · refine gA rfl q33 (EvA.loadhp (.agg [I (((p.getD ((v4.getD s8.2.toNat default).Thread).toNat default).getD ((v4.getD s8.2.toNat default).Index).toNat default).Op), I (((p.getD ((v4.getD s8.2.toNat default).Thread).toNat default).getD ((v4.getD s8.2.toNat default).Index).toNat default).Loc), I (((p.getD ((v4.getD s8.2.toNat default).Thread).toNat default).getD ((v4.getD s8.2.toNat default).Index).toNat default).Reg), I (((p.getD ((v4.getD s8.2.toNat default).Thread).toNat default).getD ((v4.getD s8.2.toNat default).Index).toNat default).Val)]) ty81 rfl rfl rfl rfl rfl rfl) ?_
                  refine gA rfl q33 (EvA.loadhp (.agg [I (((p.getD ((v16.getD s20.2.toNat default).Thread).toNat default).getD ((v16.getD s20.2.toNat default).Index).toNat default).Op), I (((p.getD ((v16.getD s20.2.toNat default).Thread).toNat default).getD ((v16.getD s20.2.toNat default).Index).toNat default).Loc), I (((p.getD ((v16.getD s20.2.toNat default).Thread).toNat default).getD ((v16.getD s20.2.toNat default).Index).toNat default).Reg), I (((p.getD ((v16.getD s20.2.toNat default).Thread).toNat default).getD ((v16.getD s20.2.toNat default).Index).toNat default).Val)]) ty81 rfl rfl rfl rfl rfl rfl) ?_
                  obtain ⟨v34, cv34, h⟩ := bindL h
                  refine gN rfl q33 (EvN.call rfl rfl rfl (F_impl_conflict_P (⟨((p.getD ((v4.getD s8.2.toNat default).Thread).toNat default).getD ((v4.getD s8.2.toNat default).Index).toNat default).Op, ((p.getD ((v4.getD s8.2.toNat default).Thread).toNat default).getD ((v4.getD s8.2.toNat default).Index).toNat default).Loc, ((p.getD ((v4.getD s8.2.toNat default).Thread).toNat default).getD ((v4.getD s8.2.toNat default).Index).toNat default).Reg, ((p.getD ((v4.getD s8.2.toNat default).Thread).toNat default).getD ((v4.getD s8.2.toNat default).Index).toNat default).Val⟩ : Ximpl_Instr) (⟨((p.getD ((v16.getD s20.2.toNat default).Thread).toNat default).getD ((v16.getD s20.2.toNat default).Index).toNat default).Op, ((p.getD ((v16.getD s20.2.toNat default).Thread).toNat default).getD ((v16.getD s20.2.toNat default).Index).toNat default).Loc, ((p.getD ((v16.getD s20.2.toNat default).Thread).toNat default).getD ((v16.getD s20.2.toNat default).Index).toNat default).Reg, ((p.getD ((v16.getD s20.2.toNat default).Thread).toNat default).getD ((v16.getD s20.2.toNat default).Index).toNat default).Val⟩ : Ximpl_Instr) cv34) rfl) ?_
                  refine oN (EvN.pickT rfl q33 (Bo v34) rfl) ?_
                  obtain rfl := Option.some.inj h
                  exact js32 _ _ ⟨(), trivial, cutW rfl (weak_cons rfl (weak_cons rfl (weak_cons rfl (weak_cons rfl (weak_cons rfl (weak_cons rfl (weak_cons rfl (weak_cons rfl (weak_cons rfl (weak_cons rfl (weak_cons rfl (weak_cons rfl (weak_cons rfl weak_nil)))))))))))))⟩
                · refine gS rfl q33 ?_
                  refine gS rfl q33 ?_
                  refine gS rfl q33 ?_
                  refine oN (EvN.pickF rfl q33 (Bo false) rfl) ?_
                  obtain rfl := Option.some.inj h
                  exact js32 _ _ ⟨(), trivial, cutW rfl (weak_cons rfl (weak_cons rfl (weak_cons rfl (weak_cons rfl (weak_cons rfl (weak_cons rfl (weak_cons rfl (weak_cons rfl (weak_cons rfl (weak_cons rfl (weak_cons rfl (weak_cons rfl (weak_cons rfl weak_nil)))))))))))))⟩
              · intro _ _
                replace h := ks32
                clear ks32
                refine oN (EvN.mv (Bo s32) rfl) ?_
                obtain ⟨s35, h, ks35⟩ := bindL h
                refine TO.joinF (G := Unit) 9 (fun _ => True) (fun _ => [(64, Bo s35), (7, .hp 2 0 2 0 0), (23, I s20.2), (22, I (v16.length : Int)), (21, eL Ximpl_Gap.c v16), (5, .hp 1 0 2 0 0), (16, I s8.2), (15, I (v4.length : Int)), (14, eL Ximpl_Gap.c v4), (3, hS b23 0 u22 4 s20.1.length), (0, eL (cL Ximpl_Instr.c) p)]) (fun _ => [bE b23 u22 4 99 (s20.1.map Ximpl_Race.c), some ⟨0, 2, 96, [[I ((v4.getD s8.2.toNat default).Thread), I ((v4.getD s8.2.toNat default).Index)]]⟩, some ⟨0, 2, 96, [[I ((v16.getD s20.2.toNat default).Thread), I ((v16.getD s20.2.toNat default).Index)]]⟩, some ⟨0, 4, 81, [[I (((p.getD ((v4.getD s8.2.toNat default).Thread).toNat default).getD ((v4.getD s8.2.toNat default).Index).toNat default).Op), I (((p.getD ((v4.getD s8.2.toNat default).Thread).toNat default).getD ((v4.getD s8.2.toNat default).Index).toNat default).Loc), I (((p.getD ((v4.getD s8.2.toNat default).Thread).toNat default).getD ((v4.getD s8.2.toNat default).Index).toNat default).Reg), I (((p.getD ((v4.getD s8.2.toNat default).Thread).toNat default).getD ((v4.getD s8.2.toNat default).Index).toNat default).Val)]]⟩, some ⟨0, 4, 81, [[I (((p.getD ((v16.getD s20.2.toNat default).Thread).toNat default).getD ((v16.getD s20.2.toNat default).Index).toNat default).Op), I (((p.getD ((v16.getD s20.2.toNat default).Thread).toNat default).getD ((v16.getD s20.2.toNat default).Index).toNat default).Loc), I (((p.getD ((v16.getD s20.2.toNat default).Thread).toNat default).getD ((v16.getD s20.2.toNat default).Index).toNat default).Reg), I (((p.getD ((v16.getD s20.2.toNat default).Thread).toNat default).getD ((v16.getD s20.2.toNat default).Index).toNat default).Val)]]⟩]) ?_ (fun js35 => ?_)
                rotate_left
                · clear ks35
                  rcases bifL h with ⟨q36, h⟩ | ⟨q36, h⟩
                  · refine gN rfl q36 (EvN.fahp Try.underlying81 rfl (by kernel_rfl) rfl) ?_
                    refine gA rfl q36 (EvA.loadhp (I (((p.getD ((v4.getD s8.2.toNat default).Thread).toNat default).getD ((v4.getD s8.2.toNat default).Index).toNat default).Op)) ty3 rfl rfl rfl rfl rfl rfl) ?_
                    refine gN rfl q36 (EvN.ine rfl rfl) ?_
                    refine gN rfl q36 (EvN.mv (Bo ((((p.getD ((v4.getD s8.2.toNat default).Thread).toNat default).getD ((v4.getD s8.2.toNat default).Index).toNat default).Op) != (5 : Int))) rfl) ?_
                    obtain ⟨s37, h, ks37⟩ := bindL h
                    refine TO.joinF (G := Unit) 4 (fun _ => True) (fun _ => [(63, Bo s37), (59, Bo ((((p.getD ((v4.getD s8.2.toNat default).Thread).toNat default).getD ((v4.getD s8.2.toNat default).Index).toNat default).Op) != (5 : Int))), (58, Bo ((((p.getD ((v4.getD s8.2.toNat default).Thread).toNat default).getD ((v4.getD s8.2.toNat default).Index).toNat default).Op) != (5 : Int))), (57, I (((p.getD ((v4.getD s8.2.toNat default).Thread).toNat default).getD ((v4.getD s8.2.toNat default).Index).toNat default).Op)), (56, .hp 3 0 4 0 0), (55, Bo s32), (7, .hp 2 0 2 0 0), (23, I s20.2), (22, I (v16.length : Int)), (21, eL Ximpl_Gap.c v16), (5, .hp 1 0 2 0 0), (16, I s8.2), (15, I (v4.length : Int)), (14, eL Ximpl_Gap.c v4), (3, hS b23 0 u22 4 s20.1.length), (0, eL (cL Ximpl_Instr.c) p)]) (fun _ => [bE b23 u22 4 99 (s20.1.map Ximpl_Race.c), some ⟨0, 2, 96, [[I ((v4.getD s8.2.toNat default).Thread), I ((v4.getD s8.2.toNat default).Index)]]⟩, some ⟨0, 2, 96, [[I ((v16.getD s20.2.toNat default).Thread), I ((v16.getD s20.2.toNat default).Index)]]⟩, some ⟨0, 4, 81, [[I (((p.getD ((v4.getD s8.2.toNat default).Thread).toNat default).getD ((v4.getD s8.2.toNat default).Index).toNat default).Op), I (((p.getD ((v4.getD s8.2.toNat default).Thread).toNat default).getD ((v4.getD s8.2.toNat default).Index).toNat default).Loc), I (((p.getD ((v4.getD s8.2.toNat default).Thread).toNat default).getD ((v4.getD s8.2.toNat default).Index).toNat default).Reg), I (((p.getD ((v4.getD s8.2.toNat default).Thread).toNat default).getD ((v4.getD s8.2.toNat default).Index).toNat default).Val)]]⟩, some ⟨0, 4, 81, [[I (((p.getD ((v16.getD s20.2.toNat default).Thread).toNat default).getD ((v16.getD s20.2.toNat default).Index).toNat default).Op), I (((p.getD ((v16.getD s20.2.toNat default).Thread).toNat default).getD ((v16.getD s20.2.toNat default).Index).toNat default).Loc), I (((p.getD ((v16.getD s20.2.toNat default).Thread).toNat default).getD ((v16.getD s20.2.toNat default).Index).toNat default).Reg), I (((p.getD ((v16.getD s20.2.toNat default).Thread).toNat default).getD ((v16.getD s20.2.toNat default).Index).toNat default).Val)]]⟩]) ?_ (fun js37 => ?_)
                    rotate_left
                    · clear ks37
                      rcases bifL h with ⟨q38, h⟩ | ⟨q38, h⟩
                      · refine gS rfl q38 ?_
                        refine gS rfl q38 ?_
                        refine gS rfl q38 ?_
                        refine gN rfl q36 (EvN.pickT rfl q38 (Bo true) rfl) ?_
                        obtain rfl := Option.some.inj h
                        exact js37 _ _ ⟨(), trivial, cutW rfl (weak_cons rfl (weak_cons rfl (weak_cons rfl (weak_cons rfl (weak_cons rfl (weak_cons rfl (weak_cons rfl (weak_cons rfl (weak_cons rfl (weak_cons rfl (weak_cons rfl (weak_cons rfl (weak_cons rfl (weak_cons rfl (weak_cons rfl (weak_cons rfl weak_nil))))))))))))))))⟩
                      · refine gN rfl q38 (EvN.fahp Try.underlying81 rfl (by kernel_rfl) rfl) ?_
                        refine gA rfl q38 (EvA.loadhp (I (((p.getD ((v16.getD s20.2.toNat default).Thread).toNat default).getD ((v16.getD s20.2.toNat default).Index).toNat default).Op)) ty3 rfl rfl rfl rfl rfl rfl) ?_
                        refine gN rfl q38 (EvN.ine rfl rfl) ?_
                        refine gN rfl q36 (EvN.pickF rfl q38 (Bo ((((p.getD ((v16.getD s20.2.toNat default).Thread).toNat default).getD ((v16.getD s20.2.toNat default).Index).toNat default).Op) != (5 : Int))) rfl) ?_
                        obtain rfl := Option.some.inj h
                        exact js37 _ _ ⟨(), trivial, cutW rfl (weak_cons rfl (weak_cons rfl (weak_cons rfl (weak_cons rfl (weak_cons rfl (weak_cons rfl (weak_cons rfl (weak_cons rfl (weak_cons rfl (weak_cons rfl (weak_cons rfl (weak_cons rfl (weak_cons rfl (weak_cons rfl (weak_cons rfl (weak_cons rfl weak_nil))))))))))))))))⟩
                    · intro _ _
                      replace h := ks37
                      clear ks37
                      refine oN (EvN.pickT rfl q36 (Bo s37) rfl) ?_
                      obtain rfl := Option.some.inj h
                      exact js35 _ _ ⟨(), trivial, cutW rfl (weak_cons rfl (weak_cons rfl (weak_cons rfl (weak_cons rfl (weak_cons rfl (weak_cons rfl (weak_cons rfl (weak_cons rfl (weak_cons rfl (weak_cons rfl (weak_cons rfl weak_nil)))))))))))⟩
                  · refine gS rfl q36 ?_
                    refine gS rfl q36 ?_
                    refine gS rfl q36 ?_
                    refine gS rfl q36 ?_
                    refine gU rfl ?_
                    refine gU rfl ?_
                    refine gU rfl ?_
                    refine gS rfl q36 ?_
                    refine oN (EvN.pickF rfl q36 (Bo false) rfl) ?_
                    obtain rfl := Option.some.inj h
                    exact js35 _ _ ⟨(), trivial, cutW rfl (weak_cons rfl (weak_cons rfl (weak_cons rfl (weak_cons rfl (weak_cons rfl (weak_cons rfl (weak_cons rfl (weak_cons rfl (weak_cons rfl (weak_cons rfl (weak_cons rfl weak_nil)))))))))))⟩
                · intro _ _
                  replace h := ks35
                  clear ks35
                  refine TO.nil ?_
                  refine T.cond rfl (fun q39 => ?_) (fun q39 => ?_)
                  · replace h := condT q39 h
                    refine T.region ?_
                    refine oN (EvN.mv (hS b23 0 u22 4 s20.1.length) rfl) ?_
                    refine oA (EvA.loadhp (.agg [I ((v4.getD s8.2.toNat default).Thread), I ((v4.getD s8.2.toNat default).Index)]) ty96 rfl rfl rfl rfl rfl rfl) ?_
                    refine oA (EvA.loadhp (.agg [I ((v16.getD s20.2.toNat default).Thread), I ((v16.getD s20.2.toNat default).Index)]) ty96 rfl rfl rfl rfl rfl rfl) ?_
                    refine oN (EvN.build [I ((v4.getD s8.2.toNat default).Thread), I ((v4.getD s8.2.toNat default).Index), I ((v16.getD s20.2.toNat default).Thread), I ((v16.getD s20.2.toNat default).Index)] Try.underlying99 zs99 fs99 rfl rfl) ?_
                    refine oN (EvN.mkF (c := Ximpl_Race.c) ([(⟨(⟨(v4.getD s8.2.toNat default).Thread, (v4.getD s8.2.toNat default).Index⟩ : Ximpl_Gap), (⟨(v16.getD s20.2.toNat default).Thread, (v16.getD s20.2.toNat default).Index⟩ : Ximpl_Gap)⟩ : Ximpl_Race)] : List Ximpl_Race) [[I ((v4.getD s8.2.toNat default).Thread), I ((v4.getD s8.2.toNat default).Index), I ((v16.getD s20.2.toNat default).Thread), I ((v16.getD s20.2.toNat default).Index)]] sl35 rfl rfl rfl (fun _ => rfl) Ximpl_Race.isF rfl) ?_
                    obtain ⟨g40, h⟩ := gdL h
                    refine oA (EvA.app1 (g := b23) (l := s20.1) (⟨(⟨(v4.getD s8.2.toNat default).Thread, (v4.getD s8.2.toNat default).Index⟩ : Ximpl_Gap), (⟨(v16.getD s20.2.toNat default).Thread, (v16.getD s20.2.toNat default).Index⟩ : Ximpl_Gap)⟩ : Ximpl_Race) sl35 (by kernel_rfl) rfl rfl rfl n24 (SrcOk.fz (l := ([(⟨(⟨(v4.getD s8.2.toNat default).Thread, (v4.getD s8.2.toNat default).Index⟩ : Ximpl_Gap), (⟨(v16.getD s20.2.toNat default).Thread, (v16.getD s20.2.toNat default).Index⟩ : Ximpl_Gap)⟩ : Ximpl_Race)] : List Ximpl_Race)) rfl (fun _ => rfl)) g40) ?_
                    refine oN (EvN.asg (hS false 0 (u22 + 1) 4 ((s20.1 ++ [(⟨(⟨(v4.getD s8.2.toNat default).Thread, (v4.getD s8.2.toNat default).Index⟩ : Ximpl_Gap), (⟨(v16.getD s20.2.toNat default).Thread, (v16.getD s20.2.toNat default).Index⟩ : Ximpl_Gap)⟩ : Ximpl_Race)]).length)) rfl) ?_
                    refine TO.nil ?_
                    obtain rfl := Option.some.inj h
                    exact ⟨(false, u22 + 1), nofun, cutS rfl (.cons (.list (g := false) (ver := u22 + 1) (l := (s20.1 ++ [(⟨(⟨(v4.getD s8.2.toNat default).Thread, (v4.getD s8.2.toNat default).Index⟩ : Ximpl_Gap), (⟨(v16.getD s20.2.toNat default).Thread, (v16.getD s20.2.toNat default).Index⟩ : Ximpl_Gap)⟩ : Ximpl_Race)])) Ximpl_Race.isF) (.cons (.row (.cons (.fz (.of_isF 9 _ rfl)) (.cons (.fz (.of_isF 9 _ rfl)) .nil))) .nil)) (stl_cons (.hS (g := false) (b := 0) (ver := u22 + 1) (s := 4) (n := (s20.1 ++ [(⟨(⟨(v4.getD s8.2.toNat default).Thread, (v4.getD s8.2.toNat default).Index⟩ : Ximpl_Gap), (⟨(v16.getD s20.2.toNat default).Thread, (v16.getD s20.2.toNat default).Index⟩ : Ximpl_Gap)⟩ : Ximpl_Race)]).length) rfl) (stl_cons (.fz (.of_isF 9 _ rfl)) (stl_cons (.fz (.of_isF 9 _ rfl)) (stl_cons (.fz (.of_isF 9 _ rfl)) (stl_cons (.hp (Nat.le_of_ble_eq_true rfl)) (stl_cons (.fz (.of_isF 9 _ rfl)) (stl_cons (.fz (.of_isF 9 _ rfl)) (stl_cons (.fz (.of_isF 9 _ rfl)) (stl_cons (.fz (.of_isF 9 _ rfl)) stl_nil)))))))))⟩
                  · replace h := condF q39 h
                    refine T.skip ?_
                    obtain rfl := Option.some.inj h
                    exact ⟨(b23, u22), n24, cutS rfl (.cons (.list (g := b23) (ver := u22) (l := s20.1) Ximpl_Race.isF) (.cons (.row (.cons (.fz (.of_isF 9 _ rfl)) (.cons (.fz (.of_isF 9 _ rfl)) .nil))) .nil)) (stl_cons (.hS (g := b23) (b := 0) (ver := u22) (s := 4) (n := s20.1.length) rfl) (stl_cons (.fz (.of_isF 9 _ rfl)) (stl_cons (.fz (.of_isF 9 _ rfl)) (stl_cons (.fz (.of_isF 9 _ rfl)) (stl_cons (.hp (Nat.le_of_ble_eq_true rfl)) (stl_cons (.fz (.of_isF 9 _ rfl)) (stl_cons (.fz (.of_isF 9 _ rfl)) (stl_cons (.fz (.of_isF 9 _ rfl)) (stl_cons (.fz (.of_isF 9 _ rfl)) stl_nil)))))))))⟩
          · replace h := condF q25 h
            refine T.exit ?_
            refine ⟨_, (Option.some.inj h).symm, fun h => ?_⟩
            replace h := congrArg some h
            obtain rfl := Option.some.inj h
            exact ⟨(b23, u22), n24, cutS rfl (.cons (.list (g := b23) (ver := u22) (l := s20.1) Ximpl_Race.isF) .nil) (stl_cons (.fz (.of_isF 9 _ rfl)) (stl_cons (.fz (.of_isF 9 _ rfl)) (stl_cons (.fz (.of_isF 9 _ rfl)) (stl_cons (.hS (g := b23) (b := 0) (ver := u22) (s := 4) (n := s20.1.length) rfl) (stl_cons (.fz (.of_isF 9 _ rfl)) stl_nil)))))⟩
      · replace h := condF q13 h
        refine T.exit ?_
        refine ⟨_, (Option.some.inj h).symm, fun h => ?_⟩
        replace h := congrArg some h
        obtain rfl := Option.some.inj h
        exact ⟨(b11, u10), n12, cutW rfl (weak_cons rfl weak_nil)⟩

theorem F_laws_FnTurnLocsTwice_P (code : List Int) {q : Bool} (h : F_laws_FnTurnLocsTwice code = some q) : PCall Try.prog 5 [eL cY code] (Bo q) := by
  refine PCall.mkT Try.func5 rfl (by kernel_rfl) rfl (by kernel_rfl) (e0 := envOf [(0, eL cY code)]) (weak_cons rfl weak_nil) ?_
  refine T.seq ?_
  refine T.region ?_
  refine oN (EvN.asg (Bo false) rfl) ?_
  refine TO.nil ?_
  refine T.seq ?_
  refine T.seq ?_
  refine T.region ?_
  refine oN (EvN.mv (eL cY code) rfl) ?_
  refine oN (EvN.lenL sl22 rfl) ?_
  refine oN (EvN.igt rfl rfl) ?_
  refine TO.nil ?_
  refine T.cond rfl (fun q1 => ?_) (fun q1 => ?_)
  · replace h := condT q1 h
    refine T.seq ?_
    refine T.region ?_
    refine oN (EvN.asg (Bo true) rfl) ?_
    refine TO.nil ?_
    refine T.ret ?_
    obtain rfl := Option.some.inj h
    repeat first | refine retS ?_ | refine retB ?_
    exact Fin.ret (vs := [Bo true]) (.cons (.tmp rfl) .nil) (.of_isF 9 _ rfl)
  · replace h := condF q1 h
    refine T.skip ?_
    refine T.seq ?_
    refine T.region ?_
    refine oN (EvN.mv (eL cY code) rfl) ?_
    obtain ⟨v2, cv2, h⟩ := bindL h
    refine oN (EvN.call rfl rfl rfl (F_spec_DrawTurnLocs_P code cv2) rfl) ?_
    refine oN (EvN.mv (.tup [eL (cL Ximpl_Instr.c) v2.1, I v2.2.1, I v2.2.2]) rfl) ?_
    refine oN (EvN.ext (eL (cL Ximpl_Instr.c) v2.1) rfl rfl) ?_
    refine oN (EvN.ext (I v2.2.1) rfl rfl) ?_
    refine oN (EvN.ext (I v2.2.2) rfl rfl) ?_
    refine oN (EvN.asg (eL (cL Ximpl_Instr.c) v2.1) rfl) ?_
    refine oN (EvN.asg (I v2.2.1) rfl) ?_
    refine oN (EvN.asg (I v2.2.2) rfl) ?_
    refine TO.nil ?_
    refine T.seq ?_
    refine T.clean (H0 := []) (e0 := envOf [(5, I v2.2.2), (4, I v2.2.1), (3, eL (cL Ximpl_Instr.c) v2.1)]) rfl (weak_cons rfl (weak_cons rfl (weak_cons rfl weak_nil))) ?_
    refine T.region ?_
    refine oN (EvN.mv (eL (cL Ximpl_Instr.c) v2.1) rfl) ?_
    refine oN (EvN.mv (I v2.2.1) rfl) ?_
    refine oN (EvN.mv (I v2.2.2) rfl) ?_
    obtain ⟨v3, cv3, h⟩ := bindL h
    refine oN (EvN.call rfl rfl rfl (F_impl_TurnLocs_P v2.1 v2.2.1 v2.2.2 cv3) rfl) ?_
    refine oN (EvN.mv (.tup [eL (cL Ximpl_Instr.c) v3.1, Bo v3.2]) rfl) ?_
    refine oN (EvN.ext (eL (cL Ximpl_Instr.c) v3.1) rfl rfl) ?_
    refine oN (EvN.ext (Bo v3.2) rfl rfl) ?_
    refine oN (EvN.asg (eL (cL Ximpl_Instr.c) v3.1) rfl) ?_
    refine oN (EvN.asg (Bo v3.2) rfl) ?_
    refine TO.nil ?_
    refine T.seq ?_
    refine T.clean (H0 := []) (e0 := envOf [(7, Bo v3.2), (6, eL (cL Ximpl_Instr.c) v3.1), (5, I v2.2.2), (4, I v2.2.1), (3, eL (cL Ximpl_Instr.c) v2.1)]) rfl (weak_cons rfl (weak_cons rfl (weak_cons rfl (weak_cons rfl (weak_cons rfl weak_nil))))) ?_
    refine T.region ?_
    refine oN (EvN.mv (eL (cL Ximpl_Instr.c) v2.1) rfl) ?_
    refine oN (EvN.mv (I v2.2.1) rfl) ?_
    refine oN (EvN.mv (I v2.2.2) rfl) ?_
    obtain ⟨v4, cv4, h⟩ := bindL h
    refine oN (EvN.call rfl rfl rfl (F_spec_TurnLocs_P v2.1 v2.2.1 v2.2.2 cv4) rfl) ?_
    refine oN (EvN.mv (.tup [eL (cL Ximpl_Instr.c) v4.1, Bo v4.2]) rfl) ?_
    refine oN (EvN.ext (eL (cL Ximpl_Instr.c) v4.1) rfl rfl) ?_
    refine oN (EvN.ext (Bo v4.2) rfl rfl) ?_
    refine oN (EvN.asg (eL (cL Ximpl_Instr.c) v4.1) rfl) ?_
    refine oN (EvN.asg (Bo v4.2) rfl) ?_
    refine TO.nil ?_
    refine T.seq ?_
    refine T.seq ?_
    refine T.clean (H0 := []) (e0 := envOf [(9, Bo v4.2), (8, eL (cL Ximpl_Instr.c) v4.1), (7, Bo v3.2), (6, eL (cL Ximpl_Instr.c) v3.1), (5, I v2.2.2), (4, I v2.2.1), (3, eL (cL Ximpl_Instr.c) v2.1)]) rfl (weak_cons rfl (weak_cons rfl (weak_cons rfl (weak_cons rfl (weak_cons rfl (weak_cons rfl (weak_cons rfl weak_nil))))))) ?_
    refine T.region ?_
    refine oN (EvN.mv (Bo v3.2) rfl) ?_
    refine oN (EvN.mv (Bo v4.2) rfl) ?_
    refine oN (EvN.bne bt4 rfl rfl) ?_
    refine oN (EvN.mv (Bo (!(v3.2 == v4.2))) rfl) ?_
    obtain ⟨s5, h, ks5⟩ := bindL h
    refine TO.joinF (G := Unit) 5 (fun _ => True) (fun _ => [(43, Bo s5), (9, Bo v4.2), (8, eL (cL Ximpl_Instr.c) v4.1), (7, Bo v3.2), (6, eL (cL Ximpl_Instr.c) v3.1), (5, I v2.2.2), (4, I v2.2.1), (3, eL (cL Ximpl_Instr.c) v2.1)]) (fun _ => []) ?_ (fun js5 => ?_)
    rotate_left
    · clear ks5
      rcases bifL h with ⟨q6, h⟩ | ⟨q6, h⟩
      · refine gS rfl q6 ?_
        refine gS rfl q6 ?_
        refine gS rfl q6 ?_
        refine gS rfl q6 ?_
        refine oN (EvN.pickT rfl q6 (Bo true) rfl) ?_
        obtain rfl := Option.some.inj h
        exact js5 _ _ ⟨(), trivial, cutW rfl (weak_cons rfl (weak_cons rfl (weak_cons rfl (weak_cons rfl (weak_cons rfl (weak_cons rfl (weak_cons rfl (weak_cons rfl weak_nil))))))))⟩
      · refine gN rfl q6 (EvN.mv (eL (cL Ximpl_Instr.c) v3.1) rfl) ?_
        refine gN rfl q6 (EvN.mv (eL (cL Ximpl_Instr.c) v4.1) rfl) ?_
        obtain ⟨v7, cv7, h⟩ := bindL h
        refine gN rfl q6 (EvN.call rfl rfl rfl (F_impl_ProgramSame_P v3.1 v4.1 cv7) rfl) ?_
        refine gN rfl q6 (EvN.not rfl) ?_
        refine oN (EvN.pickF rfl q6 (Bo (!v7)) rfl) ?_
        obtain rfl := Option.some.inj h
        exact js5 _ _ ⟨(), trivial, cutW rfl (weak_cons rfl (weak_cons rfl (weak_cons rfl (weak_cons rfl (weak_cons rfl (weak_cons rfl (weak_cons rfl (weak_cons rfl weak_nil))))))))⟩
    · intro _ _
      replace h := ks5
      clear ks5
      refine oN (EvN.mv (Bo s5) rfl) ?_
      obtain ⟨s8, h, ks8⟩ := bindL h
      refine TO.joinF (G := Unit) 3 (fun _ => True) (fun _ => [(47, Bo s8), (9, Bo v4.2), (8, eL (cL Ximpl_Instr.c) v4.1), (7, Bo v3.2), (6, eL (cL Ximpl_Instr.c) v3.1), (5, I v2.2.2), (4, I v2.2.1), (3, eL (cL Ximpl_Instr.c) v2.1)]) (fun _ => []) ?_ (fun js8 => ?_)
      rotate_left
      · clear ks8
        rcases bifL h with ⟨q9, h⟩ | ⟨q9, h⟩
        · refine gS rfl q9 ?_
          refine gS rfl q9 ?_
          refine oN (EvN.pickT rfl q9 (Bo true) rfl) ?_
          obtain rfl := Option.some.inj h
          exact js8 _ _ ⟨(), trivial, cutW rfl (weak_cons rfl (weak_cons rfl (weak_cons rfl (weak_cons rfl (weak_cons rfl (weak_cons rfl (weak_cons rfl (weak_cons rfl weak_nil))))))))⟩
        · refine gN rfl q9 (EvN.mv (Bo v3.2) rfl) ?_
          refine gN rfl q9 (EvN.not rfl) ?_
          refine oN (EvN.pickF rfl q9 (Bo (!v3.2)) rfl) ?_
          obtain rfl := Option.some.inj h
          exact js8 _ _ ⟨(), trivial, cutW rfl (weak_cons rfl (weak_cons rfl (weak_cons rfl (weak_cons rfl (weak_cons rfl (weak_cons rfl (weak_cons rfl (weak_cons rfl weak_nil))))))))⟩
      · intro _ _
        replace h := ks8
        clear ks8
        refine TO.nil ?_
        refine T.cond rfl (fun q10 => ?_) (fun q10 => ?_)
        · replace h := condT q10 h
          refine T.seq ?_
          refine T.region ?_
          refine oN (EvN.mv (Bo v3.2) rfl) ?_
          refine oN (EvN.mv (Bo v4.2) rfl) ?_
          refine oN (EvN.beq bt4 rfl rfl) ?_
          refine oN (EvN.mv (Bo (v3.2 == v4.2)) rfl) ?_
          obtain ⟨s11, h, ks11⟩ := bindL h
          refine TO.joinF (G := Unit) 4 (fun _ => True) (fun _ => [(55, Bo s11)]) (fun _ => []) ?_ (fun js11 => ?_)
          rotate_left
          · clear ks11
            rcases bifL h with ⟨q12, h⟩ | ⟨q12, h⟩
            · refine gN rfl q12 (EvN.mv (eL (cL Ximpl_Instr.c) v3.1) rfl) ?_
              refine gN rfl q12 (EvN.mv (eL (cL Ximpl_Instr.c) v4.1) rfl) ?_
              obtain ⟨v13, cv13, h⟩ := bindL h
              refine gN rfl q12 (EvN.call rfl rfl rfl (F_impl_ProgramSame_P v3.1 v4.1 cv13) rfl) ?_
              refine oN (EvN.pickT rfl q12 (Bo v13) rfl) ?_
              obtain rfl := Option.some.inj h
              exact js11 _ _ ⟨(), trivial, cutW rfl (weak_cons rfl weak_nil)⟩
            · refine gS rfl q12 ?_
              refine gS rfl q12 ?_
              refine gS rfl q12 ?_
              refine oN (EvN.pickF rfl q12 (Bo false) rfl) ?_
              obtain rfl := Option.some.inj h
              exact js11 _ _ ⟨(), trivial, cutW rfl (weak_cons rfl weak_nil)⟩
          · intro _ _
            replace h := ks11
            clear ks11
            refine oN (EvN.asg (Bo s11) rfl) ?_
            refine TO.nil ?_
            refine T.ret ?_
            obtain rfl := Option.some.inj h
            repeat first | refine retS ?_ | refine retB ?_
            exact Fin.ret (vs := [Bo s11]) (.cons (.tmp rfl) .nil) (.of_isF 9 _ rfl)
        · replace h := condF q10 h
          refine T.skip ?_
          refine T.seq ?_
          refine T.region ?_
          refine oN (EvN.mv (eL (cL Ximpl_Instr.c) v3.1) rfl) ?_
          refine oN (EvN.mv (I v2.2.1) rfl) ?_
          refine oN (EvN.mv (I v2.2.2) rfl) ?_
          obtain ⟨v14, cv14, h⟩ := bindL h
          refine oN (EvN.call rfl rfl rfl (F_impl_TurnLocs_P v3.1 v2.2.1 v2.2.2 cv14) rfl) ?_
          refine oN (EvN.mv (.tup [eL (cL Ximpl_Instr.c) v14.1, Bo v14.2]) rfl) ?_
          refine oN (EvN.ext (eL (cL Ximpl_Instr.c) v14.1) rfl rfl) ?_
          refine oN (EvN.ext (Bo v14.2) rfl rfl) ?_
          refine oN (EvN.asg (eL (cL Ximpl_Instr.c) v14.1) rfl) ?_
          refine oN (EvN.asg (Bo v14.2) rfl) ?_
          refine TO.nil ?_
          refine T.seq ?_
          refine T.clean (H0 := []) (e0 := envOf [(11, Bo v14.2), (10, eL (cL Ximpl_Instr.c) v14.1), (6, eL (cL Ximpl_Instr.c) v3.1), (3, eL (cL Ximpl_Instr.c) v2.1)]) rfl (weak_cons rfl (weak_cons rfl (weak_cons rfl (weak_cons rfl weak_nil)))) ?_
          refine T.region ?_
          refine oN (EvN.mv (Bo v14.2) rfl) ?_
          refine oN (EvN.mv (Bo v14.2) rfl) ?_
          obtain ⟨s15, h, ks15⟩ := bindL h
          refine TO.joinF (G := Unit) 4 (fun _ => True) (fun _ => [(68, Bo s15), (6, eL (cL Ximpl_Instr.c) v3.1), (3, eL (cL Ximpl_Instr.c) v2.1)]) (fun _ => []) ?_ (fun js15 => ?_)
          rotate_left
          · clear ks15
            rcases bifL h with ⟨q16, h⟩ | ⟨q16, h⟩
            · refine gN rfl q16 (EvN.mv (eL (cL Ximpl_Instr.c) v14.1) rfl) ?_
              refine gN rfl q16 (EvN.mv (eL (cL Ximpl_Instr.c) v2.1) rfl) ?_
              obtain ⟨v17, cv17, h⟩ := bindL h
              refine gN rfl q16 (EvN.call rfl rfl rfl (F_impl_ProgramSame_P v14.1 v2.1 cv17) rfl) ?_
              refine oN (EvN.pickT rfl q16 (Bo v17) rfl) ?_
              obtain rfl := Option.some.inj h
              exact js15 _ _ ⟨(), trivial, cutW rfl (weak_cons rfl (weak_cons rfl (weak_cons rfl weak_nil)))⟩
            · refine gS rfl q16 ?_
              refine gS rfl q16 ?_
              refine gS rfl q16 ?_
              refine oN (EvN.pickF rfl q16 (Bo false) rfl) ?_
              obtain rfl := Option.some.inj h
              exact js15 _ _ ⟨(), trivial, cutW rfl (weak_cons rfl (weak_cons rfl (weak_cons rfl weak_nil)))⟩
          · intro _ _
            replace h := ks15
            clear ks15
            refine oN (EvN.mv (Bo s15) rfl) ?_
            obtain ⟨s18, h, ks18⟩ := bindL h
            refine TO.joinF (G := Unit) 6 (fun _ => True) (fun _ => [(75, Bo s18), (6, eL (cL Ximpl_Instr.c) v3.1), (3, eL (cL Ximpl_Instr.c) v2.1)]) (fun _ => []) ?_ (fun js18 => ?_)
            rotate_left
            · clear ks18
              rcases bifL h with ⟨q19, h⟩ | ⟨q19, h⟩
              · refine gN rfl q19 (EvN.mv (eL (cL Ximpl_Instr.c) v3.1) rfl) ?_
                obtain ⟨v20, cv20, h⟩ := bindL h
                refine gN rfl q19 (EvN.call rfl rfl rfl (F_impl_CountExecs_P v3.1 cv20) rfl) ?_
                refine gN rfl q19 (EvN.mv (eL (cL Ximpl_Instr.c) v2.1) rfl) ?_
                obtain ⟨v21, cv21, h⟩ := bindL h
                refine gN rfl q19 (EvN.call rfl rfl rfl (F_impl_CountExecs_P v2.1 cv21) rfl) ?_
                refine gN rfl q19 (EvN.ieq rfl rfl) ?_
                refine oN (EvN.pickT rfl q19 (Bo (v20 == v21)) rfl) ?_
                obtain rfl := Option.some.inj h
                exact js18 _ _ ⟨(), trivial, cutW rfl (weak_cons rfl (weak_cons rfl (weak_cons rfl weak_nil)))⟩
              · refine gS rfl q19 ?_
                refine gS rfl q19 ?_
                refine gS rfl q19 ?_
                refine gS rfl q19 ?_
                refine gS rfl q19 ?_
                refine oN (EvN.pickF rfl q19 (Bo false) rfl) ?_
                obtain rfl := Option.some.inj h
                exact js18 _ _ ⟨(), trivial, cutW rfl (weak_cons rfl (weak_cons rfl (weak_cons rfl weak_nil)))⟩
            · intro _ _
              replace h := ks18
              clear ks18
              refine oN (EvN.mv (Bo s18) rfl) ?_
              obtain ⟨s22, h, ks22⟩ := bindL h
              refine TO.joinF (G := Unit) 8 (fun _ => True) (fun _ => [(84, Bo s22)]) (fun _ => []) ?_ (fun js22 => ?_)
              rotate_left
              · clear ks22
                rcases bifL h with ⟨q23, h⟩ | ⟨q23, h⟩
                · refine gN rfl q23 (EvN.mv (eL (cL Ximpl_Instr.c) v3.1) rfl) ?_
                  obtain ⟨v24, cv24, h⟩ := bindL h
                  refine gN rfl q23 (EvN.call rfl rfl rfl (F_impl_RacesOf_P v3.1 cv24) rfl) ?_
                  refine gN rfl q23 (EvN.lenL sl35 rfl) ?_
                  refine gN rfl q23 (EvN.mv (eL (cL Ximpl_Instr.c) v2.1) rfl) ?_
                  obtain ⟨v25, cv25, h⟩ := bindL h
                  refine gN rfl q23 (EvN.call rfl rfl rfl (F_impl_RacesOf_P v2.1 cv25) rfl) ?_
                  refine gN rfl q23 (EvN.lenL sl35 rfl) ?_
                  refine gN rfl q23 (EvN.ieq rfl rfl) ?_
                  refine oN (EvN.pickT rfl q23 (Bo ((v24.length : Int) == (v25.length : Int))) rfl) ?_
                  obtain rfl := Option.some.inj h
                  exact js22 _ _ ⟨(), trivial, cutW rfl (weak_cons rfl weak_nil)⟩
                · refine gS rfl q23 ?_
                  refine gS rfl q23 ?_
                  refine gS rfl q23 ?_
                  refine gS rfl q23 ?_
                  refine gS rfl q23 ?_
                  refine gS rfl q23 ?_
                  refine gS rfl q23 ?_
                  refine oN (EvN.pickF rfl q23 (Bo false) rfl) ?_
                  obtain rfl := Option.some.inj h
                  exact js22 _ _ ⟨(), trivial, cutW rfl (weak_cons rfl weak_nil)⟩
              · intro _ _
                replace h := ks22
                clear ks22
                refine oN (EvN.asg (Bo s22) rfl) ?_
                refine TO.nil ?_
                refine T.ret ?_
                obtain rfl := Option.some.inj h
                repeat first | refine retS ?_ | refine retB ?_
                exact Fin.ret (vs := [Bo s22]) (.cons (.tmp rfl) .nil) (.of_isF 9 _ rfl)
end Go.Proofs.Ytjogdblionfmiaa
