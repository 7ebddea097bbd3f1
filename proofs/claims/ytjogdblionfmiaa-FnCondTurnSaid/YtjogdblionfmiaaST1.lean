/-
  The program's code computes the functions over plain values; printed by lift.py. No conditions.
-/
import Derived.Test.YtjogdblionfmiaaSTd
import Derived.Test.YtjogdblionfmiaaSf
import Derived.Test.YtjogdblionfmiaaBrV
import Derived.Test.YtjogdblionfmiaaGI
import Derived.Test.YtjogdblionfmiaaS31
import Derived.Test.YtjogdblionfmiaaSQ1
import Derived.Test.YtjogdblionfmiaaSR1
namespace Go.Proofs.Ytjogdblionfmiaa
open Go.RowKit
set_option maxRecDepth 100000
theorem F_spec_l3Draw_P (r_ : Xspec_l17Rd) (ver0 : Nat) {q : Xspec_l17Rd × (List (List Ximpl_Instr)) × (List Int)} (h : F_spec_l3Draw r_ = some q) : ACall Try.prog 83 [.hp 0 ver0 2 0 0] [some ⟨ver0, 2, 126, [[eL cY r_.b, I r_.p]]⟩] (.tup [eL (cL Ximpl_Instr.c) q.2.1, eL cI q.2.2]) [some ⟨ver0, 2, 126, [[eL cY q.1.b, I q.1.p]]⟩] := by
  refine ACall.mkT Try.func83 rfl (by kernel_rfl) rfl (by kernel_rfl) (e0 := envOf [(0, .hp 0 ver0 2 0 0)]) (weak_cons rfl weak_nil) ?_
  refine T.seq ?_
  refine T.region ?_
  refine oN (EvN.asg (.nil) rfl) ?_
  refine oN (EvN.asg (.nil) rfl) ?_
  refine TO.nil ?_
  refine T.seq ?_
  refine T.region ?_
  refine oN (EvN.mv (.hp 0 ver0 2 0 0) rfl) ?_
  obtain ⟨v1, cv1, h⟩ := bindL h
  refine oA (EvA.call rfl rfl rfl ((F_spec_l1Draw_P (⟨r_.b, r_.p⟩ : Xspec_l17Rd) ver0 cv1).one 0 rfl (.cons (.hp rfl) .nil) (rowsF_row rfl) (rowsF_row rfl) rfl)) ?_
  refine oN (EvN.asg (eL (cL Ximpl_Instr.c) v1.2) rfl) ?_
  refine TO.nil ?_
  refine T.seq ?_
  refine T.region ?_
  refine oN (EvN.mv (eL (cL Ximpl_Instr.c) v1.2) rfl) ?_
  obtain ⟨v2, cv2, h⟩ := bindL h
  refine oN (EvN.call rfl rfl rfl (F_spec_l3Seq_P v1.2 cv2) rfl) ?_
  refine oN (EvN.field (eL (cL cI) v2.outcomes) Try.underlying136 rfl ty62 rfl rfl) ?_
  refine oN (EvN.asg (eL (cL cI) v2.outcomes) rfl) ?_
  refine TO.nil ?_
  refine T.seq ?_
  refine T.clean (H0 := [some ⟨ver0, 2, 126, [[eL cY v1.1.b, I v1.1.p]]⟩]) (e0 := envOf [(5, eL (cL cI) v2.outcomes), (4, eL (cL Ximpl_Instr.c) v1.2), (0, .hp 0 ver0 2 0 0)]) rfl (weak_cons rfl (weak_cons rfl (weak_cons rfl weak_nil))) ?_
  refine T.region ?_
  refine oA (EvA.mkO (c := cI) ([] : List Int) [] sl37 rfl rfl rfl (fun _ => rfl) rfl rfl) ?_
  refine oN (EvN.mv (eL (cL cI) v2.outcomes) rfl) ?_
  refine oN (EvN.mv (.hp 0 ver0 2 0 0) rfl) ?_
  refine oN (EvN.mv (eL (cL cI) v2.outcomes) rfl) ?_
  refine oN (EvN.lenL sl62 rfl) ?_
  obtain ⟨v3, cv3, h⟩ := bindL h
  refine oA (EvA.call rfl rfl rfl ((F_spec_l17Rd_pick_P (⟨v1.1.b, v1.1.p⟩ : Xspec_l17Rd) (v2.outcomes.length : Int) ver0 cv3).one 0 rfl (.cons (.hp rfl) (.cons (.pF rfl) .nil)) (rowsF_row rfl) (rowsF_row rfl) rfl)) ?_
  obtain ⟨g4, h⟩ := gdD h
  refine oN (EvN.ixL sl62 rfl rfl g4 (fun _ => rfl)) ?_
  refine oN (EvN.loadfp (eL cI (v2.outcomes.getD v3.2.toNat default)) ty37 rfl rfl) ?_
  obtain ⟨g5, h⟩ := gdL h
  refine oA (EvA.appF (l := ([] : List Int)) (v2.outcomes.getD v3.2.toNat default) sl37 (by kernel_rfl) rfl rfl rfl (SrcOk.fz (l := (v2.outcomes.getD v3.2.toNat default)) rfl (fun _ => rfl)) g5) ?_
  refine oN (EvN.asg (hS false 1 (0 + 1) 1 ((([] : List Int) ++ (v2.outcomes.getD v3.2.toNat default)).length)) rfl) ?_
  refine TO.nil ?_
  obtain ⟨s6, h, ks6⟩ := bindL h
  refine T.joinF (G := Nat) (fun gh => True) (fun gh => [(6, hS false 1 gh 1 s6.2.2.length), (4, eL (cL Ximpl_Instr.c) v1.2)]) (fun gh => [some ⟨ver0, 2, 126, [[eL cY s6.1, I s6.2.1]]⟩, bE false gh 1 3 (s6.2.2.map cI)]) (fun u16 hg => ?_) ?_
  · clear h
    have h := ks6
    clear ks6
    refine T.seq ?_
    refine T.region ?_
    refine oN (EvN.mv (eL (cL Ximpl_Instr.c) v1.2) rfl) ?_
    refine oN (EvN.mv (hS false 1 u16 1 s6.2.2.length) rfl) ?_
    refine oN (EvN.asg (eL (cL Ximpl_Instr.c) v1.2) rfl) ?_
    refine oN (EvN.asg (hS false 1 u16 1 s6.2.2.length) rfl) ?_
    refine TO.nil ?_
    refine T.ret ?_
    obtain rfl := Option.some.inj h
    repeat first | refine retS ?_ | refine retB ?_
    exact ⟨envOf [(2, eL (cL Ximpl_Instr.c) v1.2), (3, eL cI s6.2.2)], [some ⟨ver0, 2, 126, [[eL cY ((⟨s6.1, s6.2.1⟩ : Xspec_l17Rd).b), I ((⟨s6.1, s6.2.1⟩ : Xspec_l17Rd).p)]]⟩], cutS rfl (.cons (.row (.cons (.fz (.of_isF 9 _ rfl)) (.cons (.fz (.of_isF 9 _ rfl)) .nil))) .nil) (stl_cons (.fz (.of_isF 9 _ rfl)) (stl_cons (.fz (Fz.own (g := false) (ver := u16) (l := s6.2.2) rfl rfl rfl nofun (fun _ => rfl))) stl_nil)), Fin.ret (vs := [eL (cL Ximpl_Instr.c) v1.2, eL cI s6.2.2]) (.cons (.tmp rfl) (.cons (.tmp rfl) .nil)) ⟨rfl, rfl⟩⟩
  · clear ks6
    refine T.seq ?_
    refine T.clean (H0 := [some ⟨ver0, 2, 126, [[eL cY v3.1.b, I v3.1.p]]⟩, bE false (0 + 1) 1 3 ((([] : List Int) ++ (v2.outcomes.getD v3.2.toNat default)).map cI)]) (e0 := envOf [(6, hS false 1 (0 + 1) 1 ((([] : List Int) ++ (v2.outcomes.getD v3.2.toNat default)).length)), (4, eL (cL Ximpl_Instr.c) v1.2), (0, .hp 0 ver0 2 0 0)]) rfl (weak_cons rfl (weak_cons rfl (weak_cons rfl weak_nil))) ?_
    refine T.region ?_
    refine oN (EvN.mv (.hp 0 ver0 2 0 0) rfl) ?_
    obtain ⟨v7, cv7, h⟩ := bindL h
    refine oA (EvA.call rfl rfl rfl ((F_spec_l17Rd_pick_P (⟨v3.1.b, v3.1.p⟩ : Xspec_l17Rd) (6 : Int) ver0 cv7).one 0 rfl (.cons (.hp rfl) (.cons (.pF rfl) .nil)) (rowsF_row rfl) (rowsF_row rfl) rfl)) ?_
    refine TO.nil ?_
    refine T.block ?_
    refine T.seq ?_
    refine T.region ?_
    refine oN (EvN.ieq rfl rfl) ?_
    refine oN (EvN.asg (Bo (v7.2 == (0 : Int))) rfl) ?_
    refine TO.nil ?_
    refine T.cond rfl (fun q8 => ?_) (fun q8 => ?_)
    · replace h := condT q8 h
      refine T.region ?_
      refine oN (EvN.mv (hS false 1 (0 + 1) 1 ((([] : List Int) ++ (v2.outcomes.getD v3.2.toNat default)).length)) rfl) ?_
      refine oN (EvN.mv (.hp 0 ver0 2 0 0) rfl) ?_
      refine oN (EvN.mv (hS false 1 (0 + 1) 1 ((([] : List Int) ++ (v2.outcomes.getD v3.2.toNat default)).length)) rfl) ?_
      refine oN (EvN.lenO (g := false) sl37 rfl nofun) ?_
      obtain ⟨v9, cv9, h⟩ := bindL h
      refine oA (EvA.call rfl rfl rfl ((F_spec_l17Rd_pick_P (⟨v7.1.b, v7.1.p⟩ : Xspec_l17Rd) ((([] : List Int) ++ (v2.outcomes.getD v3.2.toNat default)).length : Int) ver0 cv9).one 0 rfl (.cons (.hp rfl) (.cons (.pF rfl) .nil)) (rowsF_row rfl) (rowsF_row rfl) rfl)) ?_
      refine oN (EvN.mv (.hp 0 ver0 2 0 0) rfl) ?_
      refine oN (EvN.mkF (c := cI) ([(1 : Int), (0 : Int), (3 : Int), (4 : Int), (-1 : Int)] : List Int) [[I (1 : Int)], [I (0 : Int)], [I (3 : Int)], [I (4 : Int)], [I (-1 : Int)]] sl37 rfl rfl rfl (fun _ => rfl) (fun _ => rfl) rfl) ?_
      obtain ⟨v10, cv10, h⟩ := bindL h
      refine oA (EvA.call rfl rfl rfl ((F_spec_l17Rd_num_P (⟨v9.1.b, v9.1.p⟩ : Xspec_l17Rd) ([(1 : Int), (0 : Int), (3 : Int), (4 : Int), (-1 : Int)] : List Int) ver0 cv10).one 0 rfl (.cons (.hp rfl) (.cons (.pF rfl) .nil)) (rowsF_row rfl) (rowsF_row rfl) rfl)) ?_
      obtain ⟨g11, h⟩ := gdD h
      refine oN (EvN.ixO (g := false) sl37 rfl rfl nofun g11) ?_
      refine oV (EvA.stO (g := false) (l := (([] : List Int) ++ (v2.outcomes.getD v3.2.toNat default))) (cs := [I v10.2]) v10.2 ty3 rfl rfl rfl nofun (toNat_lt' rfl g11) rfl rfl rfl) ?_
      refine TO.nil ?_
      obtain rfl := Option.some.inj h
      exact ⟨0 + 1, trivial, cutW rfl (weak_cons (congrArg (hS false 1 (0 + 1) 1) (by simp : (([] : List Int) ++ (v2.outcomes.getD v3.2.toNat default)).length = ((([] : List Int) ++ (v2.outcomes.getD v3.2.toNat default)).set v9.2.toNat v10.2).length)) (weak_cons rfl weak_nil))⟩
    · replace h := condF q8 h
      refine T.seq ?_
      refine T.region ?_
      refine oN (EvN.ieq rfl rfl) ?_
      refine oN (EvN.asg (Bo (v7.2 == (1 : Int))) rfl) ?_
      refine TO.nil ?_
      refine T.cond rfl (fun q12 => ?_) (fun q12 => ?_)
      · replace h := condT q12 h
        refine T.seq ?_
        refine T.clean (H0 := [some ⟨ver0, 2, 126, [[eL cY v7.1.b, I v7.1.p]]⟩, bE false (0 + 1) 1 3 ((([] : List Int) ++ (v2.outcomes.getD v3.2.toNat default)).map cI)]) (e0 := envOf [(6, hS false 1 (0 + 1) 1 ((([] : List Int) ++ (v2.outcomes.getD v3.2.toNat default)).length)), (4, eL (cL Ximpl_Instr.c) v1.2), (0, .hp 0 ver0 2 0 0)]) rfl (weak_cons rfl (weak_cons rfl (weak_cons rfl weak_nil))) ?_
        refine T.region ?_
        refine oN (EvN.mv (.hp 0 ver0 2 0 0) rfl) ?_
        obtain ⟨v13, cv13, h⟩ := bindL h
        refine oA (EvA.call rfl rfl rfl ((F_spec_l17Rd_pick_P (⟨v7.1.b, v7.1.p⟩ : Xspec_l17Rd) (4 : Int) ver0 cv13).one 0 rfl (.cons (.hp rfl) (.cons (.pF rfl) .nil)) (rowsF_row rfl) (rowsF_row rfl) rfl)) ?_
        refine oN (EvN.ieq rfl rfl) ?_
        refine TO.nil ?_
        refine T.cond rfl (fun q14 => ?_) (fun q14 => ?_)
        · replace h := condT q14 h
          refine T.region ?_
          refine oN (EvN.mv (hS false 1 (0 + 1) 1 ((([] : List Int) ++ (v2.outcomes.getD v3.2.toNat default)).length)) rfl) ?_
          refine oN (EvN.mkF (c := cI) ([(0 : Int)] : List Int) [[I (0 : Int)]] sl37 rfl rfl rfl (fun _ => rfl) (fun _ => rfl) rfl) ?_
          obtain ⟨g15, h⟩ := gdL h
          refine oA (EvA.app1 (g := false) (l := (([] : List Int) ++ (v2.outcomes.getD v3.2.toNat default))) (0 : Int) sl37 (by kernel_rfl) rfl rfl rfl nofun (SrcOk.fz (l := ([(0 : Int)] : List Int)) rfl (fun _ => rfl)) g15) ?_
          refine oN (EvN.asg (hS false 1 ((0 + 1) + 1) 1 (((([] : List Int) ++ (v2.outcomes.getD v3.2.toNat default)) ++ [(0 : Int)]).length)) rfl) ?_
          refine TO.nil ?_
          obtain rfl := Option.some.inj h
          exact ⟨(0 + 1) + 1, trivial, cutW rfl (weak_cons rfl (weak_cons rfl weak_nil))⟩
        · replace h := condF q14 h
          refine T.skip ?_
          obtain rfl := Option.some.inj h
          exact ⟨0 + 1, trivial, cutW rfl (weak_cons rfl (weak_cons rfl weak_nil))⟩
      · replace h := condF q12 h
        refine T.skip ?_
        obtain rfl := Option.some.inj h
        exact ⟨0 + 1, trivial, cutW rfl (weak_cons rfl (weak_cons rfl weak_nil))⟩

theorem F_spec_DrawTurnOutcome_P (code : List Int) {q : (List (List Ximpl_Instr)) × (List Int) × Int × Int × Int × Int} (h : F_spec_DrawTurnOutcome code = some q) : PCall Try.prog 25 [eL cY code] (.tup [eL (cL Ximpl_Instr.c) q.1, eL cI q.2.1, I q.2.2.1, I q.2.2.2.1, I q.2.2.2.2.1, I q.2.2.2.2.2]) := by
  refine PCall.mkT Try.func25 rfl (by kernel_rfl) rfl (by kernel_rfl) (e0 := envOf [(0, eL cY code)]) (weak_cons rfl weak_nil) ?_
  refine T.seq ?_
  refine T.region ?_
  refine oN (EvN.asg (.nil) rfl) ?_
  refine oN (EvN.asg (.nil) rfl) ?_
  refine oN (EvN.asg (I (0 : Int)) rfl) ?_
  refine oN (EvN.asg (I (0 : Int)) rfl) ?_
  refine oN (EvN.asg (I (0 : Int)) rfl) ?_
  refine oN (EvN.asg (I (0 : Int)) rfl) ?_
  refine TO.nil ?_
  refine T.seq ?_
  refine T.clean (H0 := []) (e0 := envOf [(0, eL cY code)]) rfl (weak_cons rfl weak_nil) ?_
  refine T.region ?_
  refine oN (EvN.mv (eL cY code) rfl) ?_
  obtain ⟨v1, cv1, h⟩ := bindL h
  refine oA (EvA.call rfl rfl rfl ((F_spec_l17Open_P code cv1).fresh rfl (rowsF_row rfl) 0 rfl)) ?_
  refine oN (EvN.asg (.hp 0 0 2 0 0) rfl) ?_
  refine TO.nil ?_
  refine T.seq ?_
  refine T.region ?_
  refine oN (EvN.mv (.hp 0 0 2 0 0) rfl) ?_
  obtain ⟨v2, cv2, h⟩ := bindL h
  refine oA (EvA.call rfl rfl rfl ((F_spec_l3Draw_P (⟨v1.b, v1.p⟩ : Xspec_l17Rd) 0 cv2).one 0 rfl (.cons (.hp rfl) .nil) (rowsF_row rfl) (rowsF_row rfl) rfl)) ?_
  refine oN (EvN.mv (.tup [eL (cL Ximpl_Instr.c) v2.2.1, eL cI v2.2.2]) rfl) ?_
  refine oN (EvN.ext (eL (cL Ximpl_Instr.c) v2.2.1) rfl rfl) ?_
  refine oN (EvN.ext (eL cI v2.2.2) rfl rfl) ?_
  refine oN (EvN.asg (eL (cL Ximpl_Instr.c) v2.2.1) rfl) ?_
  refine oN (EvN.asg (eL cI v2.2.2) rfl) ?_
  refine TO.nil ?_
  refine T.seq ?_
  refine T.clean (H0 := [some ⟨0, 2, 126, [[eL cY v2.1.b, I v2.1.p]]⟩]) (e0 := envOf [(10, eL cI v2.2.2), (9, eL (cL Ximpl_Instr.c) v2.2.1), (8, .hp 0 0 2 0 0)]) rfl (weak_cons rfl (weak_cons rfl (weak_cons rfl weak_nil))) ?_
  refine T.region ?_
  refine oN (EvN.mv (.hp 0 0 2 0 0) rfl) ?_
  refine oN (EvN.mkF (c := cI) ([(0 : Int), (1 : Int), (0 : Int), (2 : Int), (-1 : Int)] : List Int) [[I (0 : Int)], [I (1 : Int)], [I (0 : Int)], [I (2 : Int)], [I (-1 : Int)]] sl37 rfl rfl rfl (fun _ => rfl) (fun _ => rfl) rfl) ?_
  obtain ⟨v3, cv3, h⟩ := bindL h
  refine oA (EvA.call rfl rfl rfl ((F_spec_l17Rd_num_P (⟨v2.1.b, v2.1.p⟩ : Xspec_l17Rd) ([(0 : Int), (1 : Int), (0 : Int), (2 : Int), (-1 : Int)] : List Int) 0 cv3).one 0 rfl (.cons (.hp rfl) (.cons (.pF rfl) .nil)) (rowsF_row rfl) (rowsF_row rfl) rfl)) ?_
  refine oN (EvN.asg (I v3.2) rfl) ?_
  refine TO.nil ?_
  refine T.seq ?_
  refine T.region ?_
  refine oN (EvN.mv (eL (cL Ximpl_Instr.c) v2.2.1) rfl) ?_
  refine oN (EvN.mv (eL cI v2.2.2) rfl) ?_
  refine oN (EvN.mv (I v3.2) rfl) ?_
  refine oN (EvN.mv (.hp 0 0 2 0 0) rfl) ?_
  refine oN (EvN.mkF (c := cI) ([(1 : Int), (0 : Int), (2 : Int)] : List Int) [[I (1 : Int)], [I (0 : Int)], [I (2 : Int)]] sl37 rfl rfl rfl (fun _ => rfl) (fun _ => rfl) rfl) ?_
  obtain ⟨v4, cv4, h⟩ := bindL h
  refine oA (EvA.call rfl rfl rfl ((F_spec_l17Rd_num_P (⟨v3.1.b, v3.1.p⟩ : Xspec_l17Rd) ([(1 : Int), (0 : Int), (2 : Int)] : List Int) 0 cv4).one 0 rfl (.cons (.hp rfl) (.cons (.pF rfl) .nil)) (rowsF_row rfl) (rowsF_row rfl) rfl)) ?_
  refine oN (EvN.mv (.hp 0 0 2 0 0) rfl) ?_
  refine oN (EvN.mkF (c := cI) ([(0 : Int), (1 : Int), (2 : Int), (3 : Int)] : List Int) [[I (0 : Int)], [I (1 : Int)], [I (2 : Int)], [I (3 : Int)]] sl37 rfl rfl rfl (fun _ => rfl) (fun _ => rfl) rfl) ?_
  obtain ⟨v5, cv5, h⟩ := bindL h
  refine oA (EvA.call rfl rfl rfl ((F_spec_l17Rd_num_P (⟨v4.1.b, v4.1.p⟩ : Xspec_l17Rd) ([(0 : Int), (1 : Int), (2 : Int), (3 : Int)] : List Int) 0 cv5).one 0 rfl (.cons (.hp rfl) (.cons (.pF rfl) .nil)) (rowsF_row rfl) (rowsF_row rfl) rfl)) ?_
  refine oN (EvN.mv (.hp 0 0 2 0 0) rfl) ?_
  refine oN (EvN.mkF (c := cI) ([(1 : Int), (0 : Int), (2 : Int), (-1 : Int)] : List Int) [[I (1 : Int)], [I (0 : Int)], [I (2 : Int)], [I (-1 : Int)]] sl37 rfl rfl rfl (fun _ => rfl) (fun _ => rfl) rfl) ?_
  obtain ⟨v6, cv6, h⟩ := bindL h
  refine oA (EvA.call rfl rfl rfl ((F_spec_l17Rd_num_P (⟨v5.1.b, v5.1.p⟩ : Xspec_l17Rd) ([(1 : Int), (0 : Int), (2 : Int), (-1 : Int)] : List Int) 0 cv6).one 0 rfl (.cons (.hp rfl) (.cons (.pF rfl) .nil)) (rowsF_row rfl) (rowsF_row rfl) rfl)) ?_
  refine oN (EvN.asg (eL (cL Ximpl_Instr.c) v2.2.1) rfl) ?_
  refine oN (EvN.asg (eL cI v2.2.2) rfl) ?_
  refine oN (EvN.asg (I v3.2) rfl) ?_
  refine oN (EvN.asg (I v4.2) rfl) ?_
  refine oN (EvN.asg (I v5.2) rfl) ?_
  refine oN (EvN.asg (I v6.2) rfl) ?_
  refine TO.nil ?_
  refine T.ret ?_
  obtain rfl := Option.some.inj h
  repeat first | refine retS ?_ | refine retB ?_
  exact Fin.ret (vs := [eL (cL Ximpl_Instr.c) v2.2.1, eL cI v2.2.2, I v3.2, I v4.2, I v5.2, I v6.2]) (.cons (.tmp rfl) (.cons (.tmp rfl) (.cons (.tmp rfl) (.cons (.tmp rfl) (.cons (.tmp rfl) (.cons (.tmp rfl) .nil)))))) (.tupL (.cons (.of_isF 9 _ rfl) (.cons (.of_isF 9 _ rfl) (.cons (.of_isF 9 _ rfl) (.cons (.of_isF 9 _ rfl) (.cons (.of_isF 9 _ rfl) (.cons (.of_isF 9 _ rfl) .nil)))))))

theorem F_impl_within_P (x : Int) (low : Int) (high : Int) {q : Bool} (h : F_impl_within x low high = some q) : PCall Try.prog 65 [I x, I low, I high] (Bo q) := by
  refine PCall.mkT Try.func65 rfl (by kernel_rfl) rfl (by kernel_rfl) (e0 := envOf [(0, I x), (1, I low), (2, I high)]) (weak_cons rfl (weak_cons rfl (weak_cons rfl weak_nil))) ?_
  refine T.seq ?_
  refine T.region ?_
  refine oN (EvN.asg (Bo false) rfl) ?_
  refine TO.nil ?_
  refine T.seq ?_
  refine T.region ?_
  refine oN (EvN.mv (I x) rfl) ?_
  refine oN (EvN.mv (I low) rfl) ?_
  refine oN (EvN.ige rfl rfl) ?_
  refine oN (EvN.mv (Bo (decide (low ≤ x))) rfl) ?_
  obtain ⟨s1, h, ks1⟩ := bindL h
  refine TO.joinF (G := Unit) 4 (fun _ => True) (fun _ => [(14, Bo s1)]) (fun _ => []) ?_ (fun js1 => ?_)
  rotate_left
  · clear ks1
    rcases bifL h with ⟨q2, h⟩ | ⟨q2, h⟩
    · refine gN rfl q2 (EvN.mv (I x) rfl) ?_
      refine gN rfl q2 (EvN.mv (I high) rfl) ?_
      refine gN rfl q2 (EvN.ile rfl rfl) ?_
      refine oN (EvN.pickT rfl q2 (Bo (decide (x ≤ high))) rfl) ?_
      obtain rfl := Option.some.inj h
      exact js1 _ _ ⟨(), trivial, cutW rfl (weak_cons rfl weak_nil)⟩
    · refine gS rfl q2 ?_
      refine gS rfl q2 ?_
      refine gS rfl q2 ?_
      refine oN (EvN.pickF rfl q2 (Bo false) rfl) ?_
      obtain rfl := Option.some.inj h
      exact js1 _ _ ⟨(), trivial, cutW rfl (weak_cons rfl weak_nil)⟩
  · intro _ _
    replace h := ks1
    clear ks1
    refine oN (EvN.asg (Bo s1) rfl) ?_
    refine TO.nil ?_
    refine T.ret ?_
    obtain rfl := Option.some.inj h
    repeat first | refine retS ?_ | refine retB ?_
    exact Fin.ret (vs := [Bo s1]) (.cons (.tmp rfl) .nil) (.of_isF 9 _ rfl)

theorem F_impl_OutcomeValid_1_P (x : Int) {q : Bool} (h : F_impl_OutcomeValid_1 x = some q) : PCall Try.prog 134 [I x] (Bo q) := by
  refine PCall.mkT Try.func134 rfl (by kernel_rfl) rfl (by kernel_rfl) (e0 := envOf [(0, I x)]) (weak_cons rfl weak_nil) ?_
  refine T.seq ?_
  refine T.region ?_
  refine oN (EvN.asg (Bo false) rfl) ?_
  refine TO.nil ?_
  refine T.seq ?_
  refine T.region ?_
  refine oN (EvN.mv (I x) rfl) ?_
  obtain ⟨v1, cv1, h⟩ := bindL h
  refine oN (EvN.call rfl rfl rfl (F_impl_within_P x (0 : Int) (3 : Int) cv1) rfl) ?_
  refine oN (EvN.not rfl) ?_
  refine oN (EvN.asg (Bo (!v1)) rfl) ?_
  refine TO.nil ?_
  refine T.ret ?_
  obtain rfl := Option.some.inj h
  repeat first | refine retS ?_ | refine retB ?_
  exact Fin.ret (vs := [Bo (!v1)]) (.cons (.tmp rfl) .nil) (.of_isF 9 _ rfl)

theorem F_slices_IndexFunc_int_int__impl_OutcomeValid_1_P (s : List Int) {q : Int} (h : F_slices_IndexFunc_int_int__impl_OutcomeValid_1 s = some q) : PCall Try.prog 193 [eL cI s, .fn (.func 134) []] (I q) := by
  refine PCall.mkT Try.func193 rfl (by kernel_rfl) rfl (by kernel_rfl) (e0 := envOf [(0, eL cI s), (1, .fn (.func 134) [])]) (weak_cons rfl (weak_cons rfl weak_nil)) ?_
  refine T.seq ?_
  refine T.region ?_
  refine oN (EvN.asg (I (0 : Int)) rfl) ?_
  refine TO.nil ?_
  obtain ⟨Ks1, es1, ws1, h, ks1⟩ := sumL h
  refine T.join (S := Unit) (G := Unit) (fun s1 => Ks1 s1 = some q) (fun s1 gh => True) (fun s1 gh => []) (fun s1 gh => []) (fun s1 gh h hg => ?_) ?_
  · clear ks1
    subst es1
    refine T.seq ?_
    refine T.region ?_
    refine oN (EvN.asg (I (-1 : Int)) rfl) ?_
    refine TO.nil ?_
    refine T.ret ?_
    obtain rfl := Option.some.inj h
    repeat first | refine retS ?_ | refine retB ?_
    exact Fin.ret (vs := [I (-1 : Int)]) (.cons (.tmp rfl) .nil) (.of_isF 9 _ rfl)
  · refine T.seq ?_
    refine T.region ?_
    refine oN (EvN.mv (eL cI s) rfl) ?_
    refine oN (EvN.lenL sl37 rfl) ?_
    refine oN (EvN.mv (I (0 : Int)) rfl) ?_
    refine TO.nil ?_
    refine T.block ?_
    refine T.loop (S := Int) (G := Unit) (F_slices_IndexFunc_int_int__impl_OutcomeValid_1_L3 s) (fun s2 gh => True) (fun s2 gh => [(8, I s2), (7, I (s.length : Int)), (0, eL cI s), (1, .fn (.func 134) [])]) (fun s2 gh => []) (s0 := (0 : Int)) () h trivial (cutW rfl (weak_cons rfl (weak_cons rfl (weak_cons rfl (weak_cons rfl weak_nil))))) (fun s2 gh ws2 h hg => ?_)
    refine T.seq ?_
    refine T.region ?_
    refine oN (EvN.ilt rfl rfl) ?_
    refine TO.nil ?_
    refine T.seq ?_
    refine T.cond rfl (fun q4 => ?_) (fun q4 => ?_)
    · replace h := condT q4 h
      refine T.skip ?_
      refine T.seq ?_
      refine T.block ?_
      refine T.seq ?_
      refine T.region ?_
      refine oN (EvN.mv (I s2) rfl) ?_
      refine oN (EvN.asg (I s2) rfl) ?_
      refine TO.nil ?_
      refine T.seq ?_
      refine T.region ?_
      refine oN (EvN.mv (.fn (.func 134) []) rfl) ?_
      refine oN (EvN.mv (eL cI s) rfl) ?_
      refine oN (EvN.mv (I s2) rfl) ?_
      obtain ⟨g5, h⟩ := gdD h
      refine oN (EvN.ixL sl37 rfl rfl g5 (fun _ => rfl)) ?_
      refine oN (EvN.loadfp (I (s.getD s2.toNat default)) ty3 rfl rfl) ?_
      obtain ⟨v6, cv6, h⟩ := bindL h
      refine oN (EvN.call rfl rfl rfl (F_impl_OutcomeValid_1_P (s.getD s2.toNat default) cv6) rfl) ?_
      refine TO.nil ?_
      refine T.cond rfl (fun q7 => ?_) (fun q7 => ?_)
      · replace h := condT q7 h
        refine T.seq ?_
        refine T.clean (H0 := []) (e0 := envOf [(5, I s2)]) rfl (weak_cons rfl weak_nil) ?_
        refine T.region ?_
        refine oN (EvN.mv (I s2) rfl) ?_
        refine oN (EvN.asg (I s2) rfl) ?_
        refine TO.nil ?_
        refine T.ret ?_
        refine ⟨_, (Option.some.inj h).symm, fun h => ?_⟩
        replace h := congrArg some h
        obtain rfl := Option.some.inj h
        replace h := congrArg some (show _ = _ from ks1)
        obtain rfl := Option.some.inj h
        repeat first | refine retS ?_ | refine retB ?_
        exact Fin.ret (vs := [I s2]) (.cons (.tmp rfl) .nil) (.of_isF 9 _ rfl)
      · replace h := condF q7 h
        refine T.skip ?_
        refine T.clean (H0 := []) (e0 := envOf [(8, I s2), (7, I (s.length : Int)), (0, eL cI s), (1, .fn (.func 134) [])]) rfl (weak_cons rfl (weak_cons rfl (weak_cons rfl (weak_cons rfl weak_nil)))) ?_
        refine T.region ?_
        obtain ⟨g8, h⟩ := gdW h
        refine oN (EvN.add rfl rfl g8) ?_
        refine oN (EvN.mv (I (s2 + (1 : Int))) rfl) ?_
        refine TO.nil ?_
        obtain rfl := Option.some.inj h
        exact ⟨(s2 + (1 : Int)), (), rfl, trivial, cutW rfl (weak_cons rfl (weak_cons rfl (weak_cons rfl (weak_cons rfl weak_nil))))⟩
    · replace h := condF q4 h
      refine T.exit ?_
      refine ⟨_, (Option.some.inj h).symm, fun h => ?_⟩
      replace h := congrArg some h
      obtain rfl := Option.some.inj h
      exact ⟨(), (), ks1, trivial, cutW rfl weak_nil⟩

theorem F_slices_ContainsFunc_int_int__impl_OutcomeValid_1_P (s : List Int) {q : Bool} (h : F_slices_ContainsFunc_int_int__impl_OutcomeValid_1 s = some q) : PCall Try.prog 133 [eL cI s, .fn (.func 134) []] (Bo q) := by
  refine PCall.mkT Try.func133 rfl (by kernel_rfl) rfl (by kernel_rfl) (e0 := envOf [(0, eL cI s), (1, .fn (.func 134) [])]) (weak_cons rfl (weak_cons rfl weak_nil)) ?_
  refine T.seq ?_
  refine T.region ?_
  refine oN (EvN.asg (Bo false) rfl) ?_
  refine TO.nil ?_
  refine T.seq ?_
  refine T.region ?_
  refine oN (EvN.mv (eL cI s) rfl) ?_
  refine oN (EvN.mv (.fn (.func 134) []) rfl) ?_
  obtain ⟨v1, cv1, h⟩ := bindL h
  refine oN (EvN.call rfl rfl rfl (F_slices_IndexFunc_int_int__impl_OutcomeValid_1_P s cv1) rfl) ?_
  refine oN (EvN.ige rfl rfl) ?_
  refine oN (EvN.asg (Bo (decide ((0 : Int) ≤ v1))) rfl) ?_
  refine TO.nil ?_
  refine T.ret ?_
  obtain rfl := Option.some.inj h
  repeat first | refine retS ?_ | refine retB ?_
  exact Fin.ret (vs := [Bo (decide ((0 : Int) ≤ v1))]) (.cons (.tmp rfl) .nil) (.of_isF 9 _ rfl)

theorem F_impl_OutcomeValid_P (p : List (List Ximpl_Instr)) (o_ : List Int) {q : Bool} (h : F_impl_OutcomeValid p o_ = some q) : PCall Try.prog 85 [eL (cL Ximpl_Instr.c) p, eL cI o_] (Bo q) := by
  refine PCall.mkT Try.func85 rfl (by kernel_rfl) rfl (by kernel_rfl) (e0 := envOf [(0, eL (cL Ximpl_Instr.c) p), (1, eL cI o_)]) (weak_cons rfl (weak_cons rfl weak_nil)) ?_
  refine T.seq ?_
  refine T.region ?_
  refine oN (EvN.asg (Bo false) rfl) ?_
  refine TO.nil ?_
  refine T.seq ?_
  refine T.region ?_
  refine oN (EvN.mv (eL (cL Ximpl_Instr.c) p) rfl) ?_
  obtain ⟨v1, cv1, h⟩ := bindL h
  refine oN (EvN.call rfl rfl rfl (F_impl_ProgramValid_P p cv1) rfl) ?_
  refine oN (EvN.mv (Bo v1) rfl) ?_
  obtain ⟨s2, h, ks2⟩ := bindL h
  refine TO.joinF (G := Unit) 9 (fun _ => True) (fun _ => [(16, Bo s2), (1, eL cI o_)]) (fun _ => []) ?_ (fun js2 => ?_)
  rotate_left
  · clear ks2
    rcases bifL h with ⟨q3, h⟩ | ⟨q3, h⟩
    · refine gN rfl q3 (EvN.mv (eL cI o_) rfl) ?_
      refine gN rfl q3 (EvN.lenL sl37 rfl) ?_
      refine gN rfl q3 (EvN.mv (eL (cL Ximpl_Instr.c) p) rfl) ?_
      refine gN rfl q3 (EvN.lenL sl23 rfl) ?_
      obtain ⟨g4, h⟩ := gdW h
      refine gN rfl q3 (EvN.mul rfl rfl g4) ?_
      obtain ⟨g5, h⟩ := gdW h
      refine gN rfl q3 (EvN.add rfl rfl g5) ?_
      obtain ⟨g6, h⟩ := gdW h
      refine gN rfl q3 (EvN.add rfl rfl g6) ?_
      refine gN rfl q3 (EvN.ieq rfl rfl) ?_
      refine oN (EvN.pickT rfl q3 (Bo ((o_.length : Int) == ((((3 : Int) * (p.length : Int)) + (2 : Int)) + (1 : Int)))) rfl) ?_
      obtain rfl := Option.some.inj h
      exact js2 _ _ ⟨(), trivial, cutW rfl (weak_cons rfl (weak_cons rfl weak_nil))⟩
    · refine gS rfl q3 ?_
      refine gS rfl q3 ?_
      refine gS rfl q3 ?_
      refine gS rfl q3 ?_
      refine gS rfl q3 ?_
      refine gS rfl q3 ?_
      refine gS rfl q3 ?_
      refine gS rfl q3 ?_
      refine oN (EvN.pickF rfl q3 (Bo false) rfl) ?_
      obtain rfl := Option.some.inj h
      exact js2 _ _ ⟨(), trivial, cutW rfl (weak_cons rfl (weak_cons rfl weak_nil))⟩
  · intro _ _
    replace h := ks2
    clear ks2
    refine oN (EvN.mv (Bo s2) rfl) ?_
    obtain ⟨s7, h, ks7⟩ := bindL h
    refine TO.joinF (G := Unit) 4 (fun _ => True) (fun _ => [(21, Bo s7)]) (fun _ => []) ?_ (fun js7 => ?_)
    rotate_left
    · clear ks7
      rcases bifL h with ⟨q8, h⟩ | ⟨q8, h⟩
      · refine gN rfl q8 (EvN.mv (eL cI o_) rfl) ?_
        obtain ⟨v9, cv9, h⟩ := bindL h
        refine gN rfl q8 (EvN.call rfl rfl rfl (F_slices_ContainsFunc_int_int__impl_OutcomeValid_1_P o_ cv9) rfl) ?_
        refine gN rfl q8 (EvN.not rfl) ?_
        refine oN (EvN.pickT rfl q8 (Bo (!v9)) rfl) ?_
        obtain rfl := Option.some.inj h
        exact js7 _ _ ⟨(), trivial, cutW rfl (weak_cons rfl weak_nil)⟩
      · refine gS rfl q8 ?_
        refine gS rfl q8 ?_
        refine gS rfl q8 ?_
        refine oN (EvN.pickF rfl q8 (Bo false) rfl) ?_
        obtain rfl := Option.some.inj h
        exact js7 _ _ ⟨(), trivial, cutW rfl (weak_cons rfl weak_nil)⟩
    · intro _ _
      replace h := ks7
      clear ks7
      refine oN (EvN.asg (Bo s7) rfl) ?_
      refine TO.nil ?_
      refine T.ret ?_
      obtain rfl := Option.some.inj h
      repeat first | refine retS ?_ | refine retB ?_
      exact Fin.ret (vs := [Bo s7]) (.cons (.tmp rfl) .nil) (.of_isF 9 _ rfl)

theorem F_impl_isThread_P (p : List (List Ximpl_Instr)) (t : Int) {q : Bool} (h : F_impl_isThread p t = some q) : PCall Try.prog 86 [eL (cL Ximpl_Instr.c) p, I t] (Bo q) := by
  refine PCall.mkT Try.func86 rfl (by kernel_rfl) rfl (by kernel_rfl) (e0 := envOf [(0, eL (cL Ximpl_Instr.c) p), (1, I t)]) (weak_cons rfl (weak_cons rfl weak_nil)) ?_
  refine T.seq ?_
  refine T.region ?_
  refine oN (EvN.asg (Bo false) rfl) ?_
  refine TO.nil ?_
  refine T.seq ?_
  refine T.region ?_
  refine oN (EvN.mv (eL (cL Ximpl_Instr.c) p) rfl) ?_
  obtain ⟨v1, cv1, h⟩ := bindL h
  refine oN (EvN.call rfl rfl rfl (F_impl_ProgramValid_P p cv1) rfl) ?_
  refine oN (EvN.mv (Bo v1) rfl) ?_
  obtain ⟨s2, h, ks2⟩ := bindL h
  refine TO.joinF (G := Unit) 6 (fun _ => True) (fun _ => [(13, Bo s2)]) (fun _ => []) ?_ (fun js2 => ?_)
  rotate_left
  · clear ks2
    rcases bifL h with ⟨q3, h⟩ | ⟨q3, h⟩
    · refine gN rfl q3 (EvN.mv (I t) rfl) ?_
      refine gN rfl q3 (EvN.mv (eL (cL Ximpl_Instr.c) p) rfl) ?_
      refine gN rfl q3 (EvN.lenL sl23 rfl) ?_
      obtain ⟨g4, h⟩ := gdW h
      refine gN rfl q3 (EvN.sub rfl rfl g4) ?_
      obtain ⟨v5, cv5, h⟩ := bindL h
      refine gN rfl q3 (EvN.call rfl rfl rfl (F_impl_within_P t (0 : Int) ((p.length : Int) - (1 : Int)) cv5) rfl) ?_
      refine oN (EvN.pickT rfl q3 (Bo v5) rfl) ?_
      obtain rfl := Option.some.inj h
      exact js2 _ _ ⟨(), trivial, cutW rfl (weak_cons rfl weak_nil)⟩
    · refine gS rfl q3 ?_
      refine gS rfl q3 ?_
      refine gS rfl q3 ?_
      refine gS rfl q3 ?_
      refine gS rfl q3 ?_
      refine oN (EvN.pickF rfl q3 (Bo false) rfl) ?_
      obtain rfl := Option.some.inj h
      exact js2 _ _ ⟨(), trivial, cutW rfl (weak_cons rfl weak_nil)⟩
  · intro _ _
    replace h := ks2
    clear ks2
    refine oN (EvN.asg (Bo s2) rfl) ?_
    refine TO.nil ?_
    refine T.ret ?_
    obtain rfl := Option.some.inj h
    repeat first | refine retS ?_ | refine retB ?_
    exact Fin.ret (vs := [Bo s2]) (.cons (.tmp rfl) .nil) (.of_isF 9 _ rfl)

theorem F_impl_isLoc_P (loc : Int) {q : Bool} (h : F_impl_isLoc loc = some q) : PCall Try.prog 77 [I loc] (Bo q) := by
  refine PCall.mkT Try.func77 rfl (by kernel_rfl) rfl (by kernel_rfl) (e0 := envOf [(0, I loc)]) (weak_cons rfl weak_nil) ?_
  refine T.seq ?_
  refine T.region ?_
  refine oN (EvN.asg (Bo false) rfl) ?_
  refine TO.nil ?_
  refine T.seq ?_
  refine T.region ?_
  refine oN (EvN.mv (I loc) rfl) ?_
  obtain ⟨v1, cv1, h⟩ := bindL h
  refine oN (EvN.call rfl rfl rfl (F_impl_within_P loc (0 : Int) (2 : Int) cv1) rfl) ?_
  refine oN (EvN.asg (Bo v1) rfl) ?_
  refine TO.nil ?_
  refine T.ret ?_
  obtain rfl := Option.some.inj h
  repeat first | refine retS ?_ | refine retB ?_
  exact Fin.ret (vs := [Bo v1]) (.cons (.tmp rfl) .nil) (.of_isF 9 _ rfl)

theorem F_slices_Clone_int_int_P (s : List Int) {q : (List Int)} (h : F_slices_Clone_int_int s = some q) : PCall Try.prog 87 [eL cI s] (eL cI q) := by
  refine PCall.mkT Try.func87 rfl (by kernel_rfl) rfl (by kernel_rfl) (e0 := envOf [(0, eL cI s)]) (weak_cons rfl weak_nil) ?_
  refine T.seq ?_
  refine T.region ?_
  refine oN (EvN.asg (.nil) rfl) ?_
  refine TO.nil ?_
  refine T.seq ?_
  refine T.seq ?_
  refine T.region ?_
  refine oN (EvN.mv (eL cI s) rfl) ?_
  refine oNil false Try.underlying37 rfl rfl (fun z1 => ?_) ?_
  · replace h := (nilK_is h).1 (by rw [z1]; rfl)
    refine TO.nil ?_
    refine T.cond rfl (fun _ => ?_) (fun q => absurd (q.symm.trans rfl) (by decide))
    refine T.seq ?_
    refine T.region ?_
    refine oN (EvN.asg (.nil) rfl) ?_
    refine TO.nil ?_
    refine T.ret ?_
    obtain rfl := Option.some.inj h
    repeat first | refine retS ?_ | refine retB ?_
    exact Fin.ret (vs := [.nil]) (.cons (.tmp rfl) .nil) .nil0
  · replace h := (nilK_is h).2
    refine TO.nil ?_
    refine T.cond rfl (fun q => absurd (q.symm.trans rfl) (by decide)) (fun _ => ?_)
    refine T.skip ?_
    refine T.seq ?_
    refine T.region ?_
    refine oA (EvA.mkO (c := cI) ([] : List Int) [] sl37 rfl rfl rfl (fun _ => rfl) rfl rfl) ?_
    refine oN (EvN.mv (eL cI s) rfl) ?_
    obtain ⟨g2, h⟩ := gdL h
    refine oA (EvA.appF (l := ([] : List Int)) s sl37 (by kernel_rfl) rfl rfl rfl (SrcOk.fz (l := s) rfl (fun _ => rfl)) g2) ?_
    refine oN (EvN.asg (hS false 0 (0 + 1) 1 ((([] : List Int) ++ s).length)) rfl) ?_
    refine TO.nil ?_
    refine T.ret ?_
    obtain rfl := Option.some.inj h
    repeat first | refine retS ?_ | refine retB ?_
    exact Fin.ret (vs := [hS false 0 (0 + 1) 1 ((([] : List Int) ++ s).length)]) (.cons (.tmp rfl) .nil) (Fz.own (g := false) (ver := 0 + 1) (l := (([] : List Int) ++ s)) rfl rfl rfl nofun (fun _ => rfl))

theorem F_slices_Clone_int_int_OP (s : List Int) {q : (List Int)} (h : F_slices_Clone_int_int s = some q) : BCall Try.prog 87 [eL cI s] [] (OwnR 1 3 (fun x => x) q.length (q.map cI) 0 []) := by
  refine BCall.mkO Try.func87 rfl (by kernel_rfl) rfl (by kernel_rfl) (e0 := envOf [(0, eL cI s)]) (weak_cons rfl weak_nil) ren_id (rowsM (fun _ => rfl)) ?_
  refine T.seq ?_
  refine T.region ?_
  refine oN (EvN.asg (.nil) rfl) ?_
  refine TO.nil ?_
  refine T.seq ?_
  refine T.seq ?_
  refine T.region ?_
  refine oN (EvN.mv (eL cI s) rfl) ?_
  refine oNil false Try.underlying37 rfl rfl (fun z1 => ?_) ?_
  · replace h := (nilK_is h).1 (by rw [z1]; rfl)
    refine TO.nil ?_
    refine T.cond rfl (fun _ => ?_) (fun q => absurd (q.symm.trans rfl) (by decide))
    refine T.seq ?_
    refine T.region ?_
    refine oN (EvN.asg (.nil) rfl) ?_
    refine TO.nil ?_
    refine T.ret ?_
    obtain rfl := Option.some.inj h
    repeat first | refine retS ?_ | refine retB ?_
    exact Fin.ret (vs := [.nil]) (.cons (.tmp rfl) .nil) ⟨0, true, 0, fun _ => rfl, rfl, nofun⟩
  · replace h := (nilK_is h).2
    refine TO.nil ?_
    refine T.cond rfl (fun q => absurd (q.symm.trans rfl) (by decide)) (fun _ => ?_)
    refine T.skip ?_
    refine T.seq ?_
    refine T.region ?_
    refine oA (EvA.mkO (c := cI) ([] : List Int) [] sl37 rfl rfl rfl (fun _ => rfl) rfl rfl) ?_
    refine oN (EvN.mv (eL cI s) rfl) ?_
    obtain ⟨g2, h⟩ := gdL h
    refine oA (EvA.appF (l := ([] : List Int)) s sl37 (by kernel_rfl) rfl rfl rfl (SrcOk.fz (l := s) rfl (fun _ => rfl)) g2) ?_
    refine oN (EvN.asg (hS false 0 (0 + 1) 1 ((([] : List Int) ++ s).length)) rfl) ?_
    refine TO.nil ?_
    refine T.ret ?_
    obtain rfl := Option.some.inj h
    repeat first | refine retS ?_ | refine retB ?_
    exact Fin.ret (vs := [hS false 0 (0 + 1) 1 ((([] : List Int) ++ s).length)]) (.cons (.tmp rfl) .nil) ⟨0, false, 0 + 1, nofun, rfl, ownB rfl⟩

theorem F_impl_turned_P (x : Int) (i : Int) (k_ : Int) {q : Int} (h : F_impl_turned x i k_ = some q) : PCall Try.prog 78 [I x, I i, I k_] (I q) := by
  refine PCall.mkT Try.func78 rfl (by kernel_rfl) rfl (by kernel_rfl) (e0 := envOf [(0, I x), (1, I i), (2, I k_)]) (weak_cons rfl (weak_cons rfl (weak_cons rfl weak_nil))) ?_
  refine T.seq ?_
  refine T.region ?_
  refine oN (EvN.asg (I (0 : Int)) rfl) ?_
  refine TO.nil ?_
  refine T.seq ?_
  refine T.seq ?_
  refine T.region ?_
  refine oN (EvN.mv (I x) rfl) ?_
  refine TO.nil ?_
  refine T.block ?_
  refine T.seq ?_
  refine T.region ?_
  refine oN (EvN.mv (I i) rfl) ?_
  refine oN (EvN.ieq rfl rfl) ?_
  refine oN (EvN.asg (Bo (x == i)) rfl) ?_
  refine TO.nil ?_
  refine T.cond rfl (fun q1 => ?_) (fun q1 => ?_)
  · replace h := condT q1 h
    refine T.seq ?_
    refine T.clean (H0 := []) (e0 := envOf [(2, I k_)]) rfl (weak_cons rfl weak_nil) ?_
    refine T.region ?_
    refine oN (EvN.mv (I k_) rfl) ?_
    refine oN (EvN.asg (I k_) rfl) ?_
    refine TO.nil ?_
    refine T.ret ?_
    obtain rfl := Option.some.inj h
    repeat first | refine retS ?_ | refine retB ?_
    exact Fin.ret (vs := [I k_]) (.cons (.tmp rfl) .nil) (.of_isF 9 _ rfl)
  · replace h := condF q1 h
    refine T.seq ?_
    refine T.region ?_
    refine oN (EvN.mv (I k_) rfl) ?_
    refine oN (EvN.ieq rfl rfl) ?_
    refine oN (EvN.asg (Bo (x == k_)) rfl) ?_
    refine TO.nil ?_
    refine T.cond rfl (fun q2 => ?_) (fun q2 => ?_)
    · replace h := condT q2 h
      refine T.seq ?_
      refine T.clean (H0 := []) (e0 := envOf [(1, I i)]) rfl (weak_cons rfl weak_nil) ?_
      refine T.region ?_
      refine oN (EvN.mv (I i) rfl) ?_
      refine oN (EvN.asg (I i) rfl) ?_
      refine TO.nil ?_
      refine T.ret ?_
      obtain rfl := Option.some.inj h
      repeat first | refine retS ?_ | refine retB ?_
      exact Fin.ret (vs := [I i]) (.cons (.tmp rfl) .nil) (.of_isF 9 _ rfl)
    · replace h := condF q2 h
      refine T.skip ?_
      refine T.seq ?_
      refine T.clean (H0 := []) (e0 := envOf [(0, I x)]) rfl (weak_cons rfl weak_nil) ?_
      refine T.region ?_
      refine oN (EvN.mv (I x) rfl) ?_
      refine oN (EvN.asg (I x) rfl) ?_
      refine TO.nil ?_
      refine T.ret ?_
      obtain rfl := Option.some.inj h
      repeat first | refine retS ?_ | refine retB ?_
      exact Fin.ret (vs := [I x]) (.cons (.tmp rfl) .nil) (.of_isF 9 _ rfl)

theorem F_impl_TurnOutcome_P (p : List (List Ximpl_Instr)) (o_ : List Int) (i : Int) (k_ : Int) (x : Int) (y : Int) {q : (List Int) × Bool} (h : F_impl_TurnOutcome p o_ i k_ x y = some q) : PCall Try.prog 26 [eL (cL Ximpl_Instr.c) p, eL cI o_, I i, I k_, I x, I y] (.tup [eL cI q.1, Bo q.2]) := by
  refine PCall.mkT Try.func26 rfl (by kernel_rfl) rfl (by kernel_rfl) (e0 := envOf [(0, eL (cL Ximpl_Instr.c) p), (1, eL cI o_), (2, I i), (3, I k_), (4, I x), (5, I y)]) (weak_cons rfl (weak_cons rfl (weak_cons rfl (weak_cons rfl (weak_cons rfl (weak_cons rfl weak_nil)))))) ?_
  refine T.seq ?_
  refine T.region ?_
  refine oN (EvN.asg (.nil) rfl) ?_
  refine oN (EvN.asg (Bo false) rfl) ?_
  refine TO.nil ?_
  refine T.seq ?_
  refine T.seq ?_
  refine T.region ?_
  refine oN (EvN.mv (eL (cL Ximpl_Instr.c) p) rfl) ?_
  refine oN (EvN.mv (eL cI o_) rfl) ?_
  obtain ⟨v1, cv1, h⟩ := bindL h
  refine oN (EvN.call rfl rfl rfl (F_impl_OutcomeValid_P p o_ cv1) rfl) ?_
  refine oN (EvN.not rfl) ?_
  refine oN (EvN.mv (Bo (!v1)) rfl) ?_
  obtain ⟨s2, h, ks2⟩ := bindL h
  refine TO.joinF (G := Unit) 5 (fun _ => True) (fun _ => [(27, Bo s2), (0, eL (cL Ximpl_Instr.c) p), (1, eL cI o_), (2, I i), (3, I k_), (4, I x), (5, I y)]) (fun _ => []) ?_ (fun js2 => ?_)
  rotate_left
  · clear ks2
    rcases bifL h with ⟨q3, h⟩ | ⟨q3, h⟩
    · refine gS rfl q3 ?_
      refine gS rfl q3 ?_
      refine gS rfl q3 ?_
      refine gS rfl q3 ?_
      refine oN (EvN.pickT rfl q3 (Bo true) rfl) ?_
      obtain rfl := Option.some.inj h
      exact js2 _ _ ⟨(), trivial, cutW rfl (weak_cons rfl (weak_cons rfl (weak_cons rfl (weak_cons rfl (weak_cons rfl (weak_cons rfl (weak_cons rfl weak_nil)))))))⟩
    · refine gN rfl q3 (EvN.mv (eL (cL Ximpl_Instr.c) p) rfl) ?_
      refine gN rfl q3 (EvN.mv (I i) rfl) ?_
      obtain ⟨v4, cv4, h⟩ := bindL h
      refine gN rfl q3 (EvN.call rfl rfl rfl (F_impl_isThread_P p i cv4) rfl) ?_
      refine gN rfl q3 (EvN.not rfl) ?_
      refine oN (EvN.pickF rfl q3 (Bo (!v4)) rfl) ?_
      obtain rfl := Option.some.inj h
      exact js2 _ _ ⟨(), trivial, cutW rfl (weak_cons rfl (weak_cons rfl (weak_cons rfl (weak_cons rfl (weak_cons rfl (weak_cons rfl (weak_cons rfl weak_nil)))))))⟩
  · intro _ _
    replace h := ks2
    clear ks2
    refine oN (EvN.mv (Bo s2) rfl) ?_
    obtain ⟨s5, h, ks5⟩ := bindL h
    refine TO.joinF (G := Unit) 5 (fun _ => True) (fun _ => [(33, Bo s5), (0, eL (cL Ximpl_Instr.c) p), (1, eL cI o_), (2, I i), (3, I k_), (4, I x), (5, I y)]) (fun _ => []) ?_ (fun js5 => ?_)
    rotate_left
    · clear ks5
      rcases bifL h with ⟨q6, h⟩ | ⟨q6, h⟩
      · refine gS rfl q6 ?_
        refine gS rfl q6 ?_
        refine gS rfl q6 ?_
        refine gS rfl q6 ?_
        refine oN (EvN.pickT rfl q6 (Bo true) rfl) ?_
        obtain rfl := Option.some.inj h
        exact js5 _ _ ⟨(), trivial, cutW rfl (weak_cons rfl (weak_cons rfl (weak_cons rfl (weak_cons rfl (weak_cons rfl (weak_cons rfl (weak_cons rfl weak_nil)))))))⟩
      · refine gN rfl q6 (EvN.mv (eL (cL Ximpl_Instr.c) p) rfl) ?_
        refine gN rfl q6 (EvN.mv (I k_) rfl) ?_
        obtain ⟨v7, cv7, h⟩ := bindL h
        refine gN rfl q6 (EvN.call rfl rfl rfl (F_impl_isThread_P p k_ cv7) rfl) ?_
        refine gN rfl q6 (EvN.not rfl) ?_
        refine oN (EvN.pickF rfl q6 (Bo (!v7)) rfl) ?_
        obtain rfl := Option.some.inj h
        exact js5 _ _ ⟨(), trivial, cutW rfl (weak_cons rfl (weak_cons rfl (weak_cons rfl (weak_cons rfl (weak_cons rfl (weak_cons rfl (weak_cons rfl weak_nil)))))))⟩
    · intro _ _
      replace h := ks5
      clear ks5
      refine oN (EvN.mv (Bo s5) rfl) ?_
      obtain ⟨s8, h, ks8⟩ := bindL h
      refine TO.joinF (G := Unit) 4 (fun _ => True) (fun _ => [(38, Bo s8), (0, eL (cL Ximpl_Instr.c) p), (1, eL cI o_), (2, I i), (3, I k_), (4, I x), (5, I y)]) (fun _ => []) ?_ (fun js8 => ?_)
      rotate_left
      · clear ks8
        rcases bifL h with ⟨q9, h⟩ | ⟨q9, h⟩
        · refine gS rfl q9 ?_
          refine gS rfl q9 ?_
          refine gS rfl q9 ?_
          refine oN (EvN.pickT rfl q9 (Bo true) rfl) ?_
          obtain rfl := Option.some.inj h
          exact js8 _ _ ⟨(), trivial, cutW rfl (weak_cons rfl (weak_cons rfl (weak_cons rfl (weak_cons rfl (weak_cons rfl (weak_cons rfl (weak_cons rfl weak_nil)))))))⟩
        · refine gN rfl q9 (EvN.mv (I x) rfl) ?_
          obtain ⟨v10, cv10, h⟩ := bindL h
          refine gN rfl q9 (EvN.call rfl rfl rfl (F_impl_isLoc_P x cv10) rfl) ?_
          refine gN rfl q9 (EvN.not rfl) ?_
          refine oN (EvN.pickF rfl q9 (Bo (!v10)) rfl) ?_
          obtain rfl := Option.some.inj h
          exact js8 _ _ ⟨(), trivial, cutW rfl (weak_cons rfl (weak_cons rfl (weak_cons rfl (weak_cons rfl (weak_cons rfl (weak_cons rfl (weak_cons rfl weak_nil)))))))⟩
      · intro _ _
        replace h := ks8
        clear ks8
        refine oN (EvN.mv (Bo s8) rfl) ?_
        obtain ⟨s11, h, ks11⟩ := bindL h
        refine TO.joinF (G := Unit) 4 (fun _ => True) (fun _ => [(43, Bo s11), (0, eL (cL Ximpl_Instr.c) p), (1, eL cI o_), (2, I i), (3, I k_), (4, I x), (5, I y)]) (fun _ => []) ?_ (fun js11 => ?_)
        rotate_left
        · clear ks11
          rcases bifL h with ⟨q12, h⟩ | ⟨q12, h⟩
          · refine gS rfl q12 ?_
            refine gS rfl q12 ?_
            refine gS rfl q12 ?_
            refine oN (EvN.pickT rfl q12 (Bo true) rfl) ?_
            obtain rfl := Option.some.inj h
            exact js11 _ _ ⟨(), trivial, cutW rfl (weak_cons rfl (weak_cons rfl (weak_cons rfl (weak_cons rfl (weak_cons rfl (weak_cons rfl (weak_cons rfl weak_nil)))))))⟩
          · refine gN rfl q12 (EvN.mv (I y) rfl) ?_
            obtain ⟨v13, cv13, h⟩ := bindL h
            refine gN rfl q12 (EvN.call rfl rfl rfl (F_impl_isLoc_P y cv13) rfl) ?_
            refine gN rfl q12 (EvN.not rfl) ?_
            refine oN (EvN.pickF rfl q12 (Bo (!v13)) rfl) ?_
            obtain rfl := Option.some.inj h
            exact js11 _ _ ⟨(), trivial, cutW rfl (weak_cons rfl (weak_cons rfl (weak_cons rfl (weak_cons rfl (weak_cons rfl (weak_cons rfl (weak_cons rfl weak_nil)))))))⟩
        · intro _ _
          replace h := ks11
          clear ks11
          refine TO.nil ?_
          refine T.cond rfl (fun q14 => ?_) (fun q14 => ?_)
          · replace h := condT q14 h
            refine T.seq ?_
            refine T.clean (H0 := []) (e0 := envOf []) rfl weak_nil ?_
            refine T.region ?_
            refine oN (EvN.asg (.nil) rfl) ?_
            refine oN (EvN.asg (Bo false) rfl) ?_
            refine TO.nil ?_
            refine T.ret ?_
            obtain rfl := Option.some.inj h
            repeat first | refine retS ?_ | refine retB ?_
            exact Fin.ret (vs := [.nil, Bo false]) (.cons (.tmp rfl) (.cons (.tmp rfl) .nil)) (.tupL (.cons .nil0 (.cons (.of_isF 9 _ rfl) .nil)))
          · replace h := condF q14 h
            refine T.skip ?_
            refine T.seq ?_
            refine T.region ?_
            refine oN (EvN.mv (eL cI o_) rfl) ?_
            obtain ⟨v15, cv15, h⟩ := bindL h
            refine oG rfl rfl rfl ((F_slices_Clone_int_int_OP o_ cv15).own rfl (rowsM (fun _ => rfl)) ren_id 0 rfl) (fun g16 v17 n18 => ?_)
            refine oN (EvN.asg (hS g16 0 v17 1 v15.length) rfl) ?_
            refine TO.nil ?_
            obtain ⟨s19, h, ks19⟩ := bindL h
            refine T.joinF (G := (Bool × Nat)) (fun gh => (gh.1 = true → s19 = [])) (fun gh => [(14, hS gh.1 0 gh.2 1 s19.length), (0, eL (cL Ximpl_Instr.c) p), (1, eL cI o_), (4, I x), (5, I y)]) (fun gh => [bE gh.1 gh.2 1 3 (s19.map cI)]) (fun gh n56 => ?_) ?_
            · clear h
              have h := ks19
              clear ks19
              obtain ⟨b55, u54⟩ := gh
              refine T.seq ?_
              refine T.region ?_
              refine oN (EvN.mv (eL (cL Ximpl_Instr.c) p) rfl) ?_
              refine oN (EvN.lenL sl23 rfl) ?_
              obtain ⟨g57, h⟩ := gdW h
              refine oN (EvN.mul rfl rfl g57) ?_
              refine oN (EvN.asg (I ((3 : Int) * (p.length : Int))) rfl) ?_
              refine TO.nil ?_
              refine T.seq ?_
              refine T.drawF (fun i => [([], false), ([], false), ([], false), ([], false), ([], false), ([], false), ([], false), ([], false), ([], false), ([], false), ([], false), ([], false), ([], false), ([], false), ([], false), ([], false), ([], false), ([], false), ([], false), ([], false), ([], false), ([0], true), ([], false), ([0], true)].getD i ([], false)) (by kernel_rfl) (by kernel_rfl) ?_
              refine fN rfl (EvN.mv (hS b55 0 u54 1 s19.length) rfl) ?_
              refine fN rfl (EvN.mv (I ((3 : Int) * (p.length : Int))) rfl) ?_
              refine fN rfl (EvN.mv (I x) rfl) ?_
              obtain ⟨g58, h⟩ := gdW h
              refine fN rfl (EvN.add rfl rfl g58) ?_
              refine fN rfl (EvN.mv (hS b55 0 u54 1 s19.length) rfl) ?_
              refine fN rfl (EvN.mv (I ((3 : Int) * (p.length : Int))) rfl) ?_
              refine fN rfl (EvN.mv (I y) rfl) ?_
              obtain ⟨g59, h⟩ := gdW h
              refine fN rfl (EvN.add rfl rfl g59) ?_
              refine fN rfl (EvN.mv (eL cI o_) rfl) ?_
              refine fN rfl (EvN.mv (I ((3 : Int) * (p.length : Int))) rfl) ?_
              refine fN rfl (EvN.mv (I y) rfl) ?_
              refine fN rfl (EvN.add rfl rfl g59) ?_
              obtain ⟨g60, h⟩ := gdD h
              refine fN rfl (EvN.ixL sl37 rfl rfl g60 (fun _ => rfl)) ?_
              refine fN rfl (EvN.loadfp (I (o_.getD (((3 : Int) * (p.length : Int)) + y).toNat default)) ty3 rfl rfl) ?_
              refine fN rfl (EvN.mv (eL cI o_) rfl) ?_
              refine fN rfl (EvN.mv (I ((3 : Int) * (p.length : Int))) rfl) ?_
              refine fN rfl (EvN.mv (I x) rfl) ?_
              refine fN rfl (EvN.add rfl rfl g58) ?_
              obtain ⟨g61, h⟩ := gdD h
              refine fN rfl (EvN.ixL sl37 rfl rfl g61 (fun _ => rfl)) ?_
              refine fN rfl (EvN.loadfp (I (o_.getD (((3 : Int) * (p.length : Int)) + x).toNat default)) ty3 rfl rfl) ?_
              obtain ⟨g62, h⟩ := gdD h
              obtain rfl := gfalse n56 rfl g62
              refine fN rfl (EvN.ixO (g := false) sl37 rfl rfl nofun g62) ?_
              refine fV 0 [] rfl rfl (fun G hG => EvA.stO (g := false) (l := s19) (cs := [I (o_.getD (((3 : Int) * (p.length : Int)) + y).toNat default)]) (o_.getD (((3 : Int) * (p.length : Int)) + y).toNat default) ty3 rfl rfl (hG.a0 rfl) nofun (toNat_lt' rfl g62) rfl rfl rfl) ?_
              obtain ⟨g63, h⟩ := gdD h
              refine fN rfl (EvN.ixO (g := false) sl37 rfl rfl nofun g63) ?_
              refine fV 0 [] rfl rfl (fun G hG => EvA.stO (g := false) (l := (s19.set ((((3 : Int) * (p.length : Int)) + x).toNat) (o_.getD (((3 : Int) * (p.length : Int)) + y).toNat default))) (cs := [I (o_.getD (((3 : Int) * (p.length : Int)) + x).toNat default)]) (o_.getD (((3 : Int) * (p.length : Int)) + x).toNat default) ty3 rfl rfl (hG.a0 rfl) nofun (toNat_lt' (by simp) g63) rfl rfl rfl) ?_
              refine TF.nil ?_
              refine T.seq ?_
              refine T.clean (H0 := [bE false u54 1 3 (((s19.set ((((3 : Int) * (p.length : Int)) + x).toNat) (o_.getD (((3 : Int) * (p.length : Int)) + y).toNat default)).set ((((3 : Int) * (p.length : Int)) + y).toNat) (o_.getD (((3 : Int) * (p.length : Int)) + x).toNat default)).map cI)]) (e0 := envOf [(14, hS false 0 u54 1 s19.length)]) rfl (weak_cons rfl weak_nil) ?_
              refine T.region ?_
              refine oN (EvN.mv (hS false 0 u54 1 s19.length) rfl) ?_
              refine oN (EvN.asg (hS false 0 u54 1 s19.length) rfl) ?_
              refine oN (EvN.asg (Bo true) rfl) ?_
              refine TO.nil ?_
              refine T.ret ?_
              obtain rfl := Option.some.inj h
              repeat first | refine retS ?_ | refine retB ?_
              exact Fin.ret (vs := [hS false 0 u54 1 s19.length, Bo true]) (.cons (.tmp rfl) (.cons (.tmp rfl) .nil)) (.tupL (.cons (Fz.own (g := false) (ver := u54) (l := ((s19.set ((((3 : Int) * (p.length : Int)) + x).toNat) (o_.getD (((3 : Int) * (p.length : Int)) + y).toNat default)).set ((((3 : Int) * (p.length : Int)) + y).toNat) (o_.getD (((3 : Int) * (p.length : Int)) + x).toNat default))) rfl rfl (by simp) nofun (fun _ => rfl)) (.cons (.of_isF 9 _ rfl) .nil)))
            · clear ks19
              refine T.seq ?_
              refine T.region ?_
              refine oN (EvN.mv (eL (cL Ximpl_Instr.c) p) rfl) ?_
              refine oN (EvN.lenL sl23 rfl) ?_
              refine oN (EvN.mv (I (0 : Int)) rfl) ?_
              refine TO.nil ?_
              refine T.block ?_
              refine T.loop (S := (List Int) × Int) (G := (Bool × Nat)) (F_impl_TurnOutcome_L27 p o_ i k_) (fun s26 gh => (gh.1 = true → s26.1 = [])) (fun s26 gh => [(48, I s26.2), (47, I (p.length : Int)), (14, hS gh.1 0 gh.2 1 s26.1.length), (0, eL (cL Ximpl_Instr.c) p), (1, eL cI o_), (2, I i), (3, I k_), (4, I x), (5, I y)]) (fun s26 gh => [bE gh.1 gh.2 1 3 (s26.1.map cI)]) (s0 := (v15, (0 : Int))) (g16, v17) h (fun x => List.eq_nil_of_length_eq_zero (n18 x)) (cutW rfl (weak_cons rfl (weak_cons rfl (weak_cons rfl (weak_cons rfl (weak_cons rfl (weak_cons rfl (weak_cons rfl (weak_cons rfl (weak_cons rfl weak_nil)))))))))) (fun s26 gh ws26 h n30 => ?_)
              obtain ⟨b29, u28⟩ := gh
              refine T.seq ?_
              refine T.region ?_
              refine oN (EvN.ilt rfl rfl) ?_
              refine TO.nil ?_
              refine T.seq ?_
              refine T.cond rfl (fun q31 => ?_) (fun q31 => ?_)
              · replace h := condT q31 h
                refine T.skip ?_
                obtain ⟨s32, h, ks32⟩ := bindL h
                refine T.joinF (G := (Bool × Nat)) (fun gh => (gh.1 = true → s32 = [])) (fun gh => [(48, I s26.2), (47, I (p.length : Int)), (14, hS gh.1 0 gh.2 1 s32.length), (0, eL (cL Ximpl_Instr.c) p), (1, eL cI o_), (2, I i), (3, I k_), (4, I x), (5, I y)]) (fun gh => [bE gh.1 gh.2 1 3 (s32.map cI)]) (fun gh n52 => ?_) ?_
                · clear h
                  have h := ks32
                  clear ks32
                  obtain ⟨b51, u50⟩ := gh
                  refine T.region ?_
                  obtain ⟨g53, h⟩ := gdW h
                  refine oN (EvN.add rfl rfl g53) ?_
                  refine oN (EvN.mv (I (s26.2 + (1 : Int))) rfl) ?_
                  refine TO.nil ?_
                  obtain rfl := Option.some.inj h
                  exact ⟨(s32, (s26.2 + (1 : Int))), (b51, u50), rfl, n52, cutW rfl (weak_cons rfl (weak_cons rfl (weak_cons rfl (weak_cons rfl (weak_cons rfl (weak_cons rfl (weak_cons rfl (weak_cons rfl (weak_cons rfl weak_nil)))))))))⟩
                · clear ks32
                  refine T.block ?_
                  refine T.seq ?_
                  refine T.region ?_
                  refine oN (EvN.mv (I s26.2) rfl) ?_
                  refine oN (EvN.asg (I s26.2) rfl) ?_
                  refine TO.nil ?_
                  refine T.seq ?_
                  refine T.region ?_
                  refine oN (EvN.mv (I (0 : Int)) rfl) ?_
                  refine TO.nil ?_
                  refine T.block ?_
                  refine T.loop (S := (List Int) × Int) (G := (Bool × Nat)) (F_impl_TurnOutcome_L37 o_ i k_ s26) (fun s36 gh => (gh.1 = true → s36.1 = [])) (fun s36 gh => [(51, I s36.2), (15, I s26.2), (48, I s26.2), (47, I (p.length : Int)), (14, hS gh.1 0 gh.2 1 s36.1.length), (0, eL (cL Ximpl_Instr.c) p), (1, eL cI o_), (2, I i), (3, I k_), (4, I x), (5, I y)]) (fun s36 gh => [bE gh.1 gh.2 1 3 (s36.1.map cI)]) (s0 := (s26.1, (0 : Int))) (b29, u28) h n30 (cutW rfl (weak_cons rfl (weak_cons rfl (weak_cons rfl (weak_cons rfl (weak_cons rfl (weak_cons rfl (weak_cons rfl (weak_cons rfl (weak_cons rfl (weak_cons rfl (weak_cons rfl weak_nil)))))))))))) (fun s36 gh ws36 h n40 => ?_)
                  obtain ⟨b39, u38⟩ := gh
                  refine T.seq ?_
                  refine T.region ?_
                  refine oN (EvN.ilt rfl rfl) ?_
                  refine TO.nil ?_
                  refine T.seq ?_
                  refine T.cond rfl (fun q41 => ?_) (fun q41 => ?_)
                  · replace h := condT q41 h
                    refine T.skip ?_
                    refine T.seq ?_
                    refine T.block ?_
                    refine T.seq ?_
                    refine T.region ?_
                    refine oN (EvN.mv (I s36.2) rfl) ?_
                    refine oN (EvN.asg (I s36.2) rfl) ?_
                    refine TO.nil ?_
                    refine T.drawF (fun i => [([], false), ([], false), ([], false), ([], false), ([], false), ([], false), ([], false), ([], false), ([], false), ([], false), ([], false), ([], false), ([], false), ([], false), ([], false), ([], false), ([0], true)].getD i ([], false)) (by kernel_rfl) (by kernel_rfl) ?_
                    refine fN rfl (EvN.mv (hS b39 0 u38 1 s36.1.length) rfl) ?_
                    refine fN rfl (EvN.mv (I s26.2) rfl) ?_
                    refine fN rfl (EvN.mv (I i) rfl) ?_
                    refine fN rfl (EvN.mv (I k_) rfl) ?_
                    obtain ⟨v42, cv42, h⟩ := bindL h
                    refine fN rfl (EvN.call rfl rfl rfl (F_impl_turned_P s26.2 i k_ cv42) rfl) ?_
                    obtain ⟨g43, h⟩ := gdW h
                    refine fN rfl (EvN.mul rfl rfl g43) ?_
                    refine fN rfl (EvN.mv (I s36.2) rfl) ?_
                    obtain ⟨g44, h⟩ := gdW h
                    refine fN rfl (EvN.add rfl rfl g44) ?_
                    refine fN rfl (EvN.mv (eL cI o_) rfl) ?_
                    refine fN rfl (EvN.mv (I s26.2) rfl) ?_
                    obtain ⟨g45, h⟩ := gdW h
                    refine fN rfl (EvN.mul rfl rfl g45) ?_
                    refine fN rfl (EvN.mv (I s36.2) rfl) ?_
                    obtain ⟨g46, h⟩ := gdW h
                    refine fN rfl (EvN.add rfl rfl g46) ?_
                    obtain ⟨g47, h⟩ := gdD h
                    refine fN rfl (EvN.ixL sl37 rfl rfl g47 (fun _ => rfl)) ?_
                    refine fN rfl (EvN.loadfp (I (o_.getD (((3 : Int) * s26.2) + s36.2).toNat default)) ty3 rfl rfl) ?_
                    obtain ⟨g48, h⟩ := gdD h
                    obtain rfl := gfalse n40 rfl g48
                    refine fN rfl (EvN.ixO (g := false) sl37 rfl rfl nofun g48) ?_
                    refine fV 0 [] rfl rfl (fun G hG => EvA.stO (g := false) (l := s36.1) (cs := [I (o_.getD (((3 : Int) * s26.2) + s36.2).toNat default)]) (o_.getD (((3 : Int) * s26.2) + s36.2).toNat default) ty3 rfl rfl (hG.a0 rfl) nofun (toNat_lt' rfl g48) rfl rfl rfl) ?_
                    refine TF.nil ?_
                    refine T.clean (H0 := [bE false u38 1 3 ((s36.1.set ((((3 : Int) * v42) + s36.2).toNat) (o_.getD (((3 : Int) * s26.2) + s36.2).toNat default)).map cI)]) (e0 := envOf [(51, I s36.2), (15, I s26.2), (48, I s26.2), (47, I (p.length : Int)), (14, hS false 0 u38 1 s36.1.length), (0, eL (cL Ximpl_Instr.c) p), (1, eL cI o_), (2, I i), (3, I k_), (4, I x), (5, I y)]) rfl (weak_cons rfl (weak_cons rfl (weak_cons rfl (weak_cons rfl (weak_cons rfl (weak_cons rfl (weak_cons rfl (weak_cons rfl (weak_cons rfl (weak_cons rfl (weak_cons rfl weak_nil))))))))))) ?_
                    refine T.region ?_
                    obtain ⟨g49, h⟩ := gdW h
                    refine oN (EvN.add rfl rfl g49) ?_
                    refine oN (EvN.mv (I (s36.2 + (1 : Int))) rfl) ?_
                    refine TO.nil ?_
                    obtain rfl := Option.some.inj h
                    exact ⟨((s36.1.set ((((3 : Int) * v42) + s36.2).toNat) (o_.getD (((3 : Int) * s26.2) + s36.2).toNat default)), (s36.2 + (1 : Int))), (false, u38), rfl, nofun, cutW rfl (weak_cons rfl (weak_cons rfl (weak_cons rfl (weak_cons rfl (weak_cons (congrArg (hS false 0 u38 1) (by simp : s36.1.length = (s36.1.set ((((3 : Int) * v42) + s36.2).toNat) (o_.getD (((3 : Int) * s26.2) + s36.2).toNat default)).length)) (weak_cons rfl (weak_cons rfl (weak_cons rfl (weak_cons rfl (weak_cons rfl (weak_cons rfl weak_nil)))))))))))⟩
                  · replace h := condF q41 h
                    refine T.exit ?_
                    refine ⟨_, (Option.some.inj h).symm, fun h => ?_⟩
                    replace h := congrArg some h
                    obtain rfl := Option.some.inj h
                    exact ⟨(b39, u38), n40, cutW rfl (weak_cons rfl (weak_cons rfl (weak_cons rfl (weak_cons rfl (weak_cons rfl (weak_cons rfl (weak_cons rfl (weak_cons rfl (weak_cons rfl weak_nil)))))))))⟩
              · replace h := condF q31 h
                refine T.exit ?_
                refine ⟨_, (Option.some.inj h).symm, fun h => ?_⟩
                replace h := congrArg some h
                obtain rfl := Option.some.inj h
                exact ⟨(b29, u28), n30, cutW rfl (weak_cons rfl (weak_cons rfl (weak_cons rfl (weak_cons rfl (weak_cons rfl weak_nil)))))⟩

theorem F_spec_l3Size_P (p : List (List Ximpl_Instr)) {q : Int} (h : F_spec_l3Size p = some q) : PCall Try.prog 135 [eL (cL Ximpl_Instr.c) p] (I q) := by
  refine PCall.mkT Try.func135 rfl (by kernel_rfl) rfl (by kernel_rfl) (e0 := envOf [(0, eL (cL Ximpl_Instr.c) p)]) (weak_cons rfl weak_nil) ?_
  refine T.seq ?_
  refine T.region ?_
  refine oN (EvN.asg (I (0 : Int)) rfl) ?_
  refine TO.nil ?_
  refine T.seq ?_
  refine T.region ?_
  refine oN (EvN.mv (eL (cL Ximpl_Instr.c) p) rfl) ?_
  refine oN (EvN.lenL sl23 rfl) ?_
  obtain ⟨g1, h⟩ := gdW h
  refine oN (EvN.mul rfl rfl g1) ?_
  obtain ⟨g2, h⟩ := gdW h
  refine oN (EvN.add rfl rfl g2) ?_
  obtain ⟨g3, h⟩ := gdW h
  refine oN (EvN.add rfl rfl g3) ?_
  refine oN (EvN.asg (I ((((p.length : Int) * (3 : Int)) + (2 : Int)) + (1 : Int))) rfl) ?_
  refine TO.nil ?_
  refine T.ret ?_
  obtain rfl := Option.some.inj h
  repeat first | refine retS ?_ | refine retB ?_
  exact Fin.ret (vs := [I ((((p.length : Int) * (3 : Int)) + (2 : Int)) + (1 : Int))]) (.cons (.tmp rfl) .nil) (.of_isF 9 _ rfl)

theorem F_spec_l1In_P (n : Int) (most : Int) {q : Bool} (h : F_spec_l1In n most = some q) : PCall Try.prog 75 [I n, I most] (Bo q) := by
  refine PCall.mkT Try.func75 rfl (by kernel_rfl) rfl (by kernel_rfl) (e0 := envOf [(0, I n), (1, I most)]) (weak_cons rfl (weak_cons rfl weak_nil)) ?_
  refine T.seq ?_
  refine T.region ?_
  refine oN (EvN.asg (Bo false) rfl) ?_
  refine TO.nil ?_
  refine T.seq ?_
  refine T.region ?_
  refine oN (EvN.mv (I n) rfl) ?_
  refine oN (EvN.ige rfl rfl) ?_
  refine oN (EvN.mv (Bo (decide ((0 : Int) ≤ n))) rfl) ?_
  obtain ⟨s1, h, ks1⟩ := bindL h
  refine TO.joinF (G := Unit) 4 (fun _ => True) (fun _ => [(11, Bo s1)]) (fun _ => []) ?_ (fun js1 => ?_)
  rotate_left
  · clear ks1
    rcases bifL h with ⟨q2, h⟩ | ⟨q2, h⟩
    · refine gN rfl q2 (EvN.mv (I n) rfl) ?_
      refine gN rfl q2 (EvN.mv (I most) rfl) ?_
      refine gN rfl q2 (EvN.ile rfl rfl) ?_
      refine oN (EvN.pickT rfl q2 (Bo (decide (n ≤ most))) rfl) ?_
      obtain rfl := Option.some.inj h
      exact js1 _ _ ⟨(), trivial, cutW rfl (weak_cons rfl weak_nil)⟩
    · refine gS rfl q2 ?_
      refine gS rfl q2 ?_
      refine gS rfl q2 ?_
      refine oN (EvN.pickF rfl q2 (Bo false) rfl) ?_
      obtain rfl := Option.some.inj h
      exact js1 _ _ ⟨(), trivial, cutW rfl (weak_cons rfl weak_nil)⟩
  · intro _ _
    replace h := ks1
    clear ks1
    refine oN (EvN.asg (Bo s1) rfl) ?_
    refine TO.nil ?_
    refine T.ret ?_
    obtain rfl := Option.some.inj h
    repeat first | refine retS ?_ | refine retB ?_
    exact Fin.ret (vs := [Bo s1]) (.cons (.tmp rfl) .nil) (.of_isF 9 _ rfl)

theorem F_spec_OutcomeValid_P (p : List (List Ximpl_Instr)) (o_ : List Int) {q : Bool} (h : F_spec_OutcomeValid p o_ = some q) : PCall Try.prog 88 [eL (cL Ximpl_Instr.c) p, eL cI o_] (Bo q) := by
  refine PCall.mkT Try.func88 rfl (by kernel_rfl) rfl (by kernel_rfl) (e0 := envOf [(0, eL (cL Ximpl_Instr.c) p), (1, eL cI o_)]) (weak_cons rfl (weak_cons rfl weak_nil)) ?_
  refine T.seq ?_
  refine T.region ?_
  refine oN (EvN.asg (Bo false) rfl) ?_
  refine TO.nil ?_
  refine T.seq ?_
  refine T.seq ?_
  refine T.region ?_
  refine oN (EvN.mv (eL (cL Ximpl_Instr.c) p) rfl) ?_
  obtain ⟨v1, cv1, h⟩ := bindL h
  refine oN (EvN.call rfl rfl rfl (F_spec_ProgramValid_P p cv1) rfl) ?_
  refine oN (EvN.not rfl) ?_
  refine oN (EvN.mv (Bo (!v1)) rfl) ?_
  obtain ⟨s2, h, ks2⟩ := bindL h
  refine TO.joinF (G := Unit) 6 (fun _ => True) (fun _ => [(15, Bo s2), (1, eL cI o_)]) (fun _ => []) ?_ (fun js2 => ?_)
  rotate_left
  · clear ks2
    rcases bifL h with ⟨q3, h⟩ | ⟨q3, h⟩
    · refine gS rfl q3 ?_
      refine gS rfl q3 ?_
      refine gS rfl q3 ?_
      refine gS rfl q3 ?_
      refine gS rfl q3 ?_
      refine oN (EvN.pickT rfl q3 (Bo true) rfl) ?_
      obtain rfl := Option.some.inj h
      exact js2 _ _ ⟨(), trivial, cutW rfl (weak_cons rfl (weak_cons rfl weak_nil))⟩
    · refine gN rfl q3 (EvN.mv (eL cI o_) rfl) ?_
      refine gN rfl q3 (EvN.lenL sl37 rfl) ?_
      refine gN rfl q3 (EvN.mv (eL (cL Ximpl_Instr.c) p) rfl) ?_
      obtain ⟨v4, cv4, h⟩ := bindL h
      refine gN rfl q3 (EvN.call rfl rfl rfl (F_spec_l3Size_P p cv4) rfl) ?_
      refine gN rfl q3 (EvN.ine rfl rfl) ?_
      refine oN (EvN.pickF rfl q3 (Bo ((o_.length : Int) != v4)) rfl) ?_
      obtain rfl := Option.some.inj h
      exact js2 _ _ ⟨(), trivial, cutW rfl (weak_cons rfl (weak_cons rfl weak_nil))⟩
  · intro _ _
    replace h := ks2
    clear ks2
    refine TO.nil ?_
    refine T.cond rfl (fun q5 => ?_) (fun q5 => ?_)
    · replace h := condT q5 h
      refine T.seq ?_
      refine T.region ?_
      refine oN (EvN.asg (Bo false) rfl) ?_
      refine TO.nil ?_
      refine T.ret ?_
      obtain rfl := Option.some.inj h
      repeat first | refine retS ?_ | refine retB ?_
      exact Fin.ret (vs := [Bo false]) (.cons (.tmp rfl) .nil) (.of_isF 9 _ rfl)
    · replace h := condF q5 h
      refine T.skip ?_
      obtain ⟨Ks6, es6, ws6, h, ks6⟩ := sumL h
      refine T.join (S := Unit) (G := Unit) (fun s6 => Ks6 s6 = some q) (fun s6 gh => True) (fun s6 gh => []) (fun s6 gh => []) (fun s6 gh h hg => ?_) ?_
      · clear ks6
        subst es6
        refine T.seq ?_
        refine T.region ?_
        refine oN (EvN.asg (Bo true) rfl) ?_
        refine TO.nil ?_
        refine T.ret ?_
        obtain rfl := Option.some.inj h
        repeat first | refine retS ?_ | refine retB ?_
        exact Fin.ret (vs := [Bo true]) (.cons (.tmp rfl) .nil) (.of_isF 9 _ rfl)
      · refine T.seq ?_
        refine T.region ?_
        refine oN (EvN.asg (I (0 : Int)) rfl) ?_
        refine TO.nil ?_
        refine T.block ?_
        refine T.loop (S := Int) (G := Unit) (F_spec_OutcomeValid_L8 o_) (fun s7 gh => True) (fun s7 gh => [(5, I s7), (1, eL cI o_)]) (fun s7 gh => []) (s0 := (0 : Int)) () h trivial (cutW rfl (weak_cons rfl (weak_cons rfl weak_nil))) (fun s7 gh ws7 h hg => ?_)
        refine T.seq ?_
        refine T.seq ?_
        refine T.region ?_
        refine oN (EvN.mv (I s7) rfl) ?_
        refine oN (EvN.mv (eL cI o_) rfl) ?_
        refine oN (EvN.lenL sl37 rfl) ?_
        refine oN (EvN.ilt rfl rfl) ?_
        refine TO.nil ?_
        refine T.cond rfl (fun q9 => ?_) (fun q9 => ?_)
        · replace h := condT q9 h
          refine T.skip ?_
          refine T.seq ?_
          refine T.block ?_
          refine T.seq ?_
          refine T.region ?_
          refine oN (EvN.mv (eL cI o_) rfl) ?_
          refine oN (EvN.mv (I s7) rfl) ?_
          obtain ⟨g10, h⟩ := gdD h
          refine oN (EvN.ixL sl37 rfl rfl g10 (fun _ => rfl)) ?_
          refine oN (EvN.loadfp (I (o_.getD s7.toNat default)) ty3 rfl rfl) ?_
          obtain ⟨v11, cv11, h⟩ := bindL h
          refine oN (EvN.call rfl rfl rfl (F_spec_l1In_P (o_.getD s7.toNat default) (3 : Int) cv11) rfl) ?_
          refine oN (EvN.not rfl) ?_
          refine TO.nil ?_
          refine T.cond rfl (fun q12 => ?_) (fun q12 => ?_)
          · replace h := condT q12 h
            refine T.seq ?_
            refine T.clean (H0 := []) (e0 := envOf []) rfl weak_nil ?_
            refine T.region ?_
            refine oN (EvN.asg (Bo false) rfl) ?_
            refine TO.nil ?_
            refine T.ret ?_
            refine ⟨_, (Option.some.inj h).symm, fun h => ?_⟩
            replace h := congrArg some h
            obtain rfl := Option.some.inj h
            replace h := congrArg some (show _ = _ from ks6)
            obtain rfl := Option.some.inj h
            repeat first | refine retS ?_ | refine retB ?_
            exact Fin.ret (vs := [Bo false]) (.cons (.tmp rfl) .nil) (.of_isF 9 _ rfl)
          · replace h := condF q12 h
            refine T.skip ?_
            refine T.clean (H0 := []) (e0 := envOf [(5, I s7), (1, eL cI o_)]) rfl (weak_cons rfl (weak_cons rfl weak_nil)) ?_
            refine T.region ?_
            refine oN (EvN.mv (I s7) rfl) ?_
            obtain ⟨g13, h⟩ := gdW h
            refine oN (EvN.add rfl rfl g13) ?_
            refine oN (EvN.asg (I (s7 + (1 : Int))) rfl) ?_
            refine TO.nil ?_
            obtain rfl := Option.some.inj h
            exact ⟨(s7 + (1 : Int)), (), rfl, trivial, cutW rfl (weak_cons rfl (weak_cons rfl weak_nil))⟩
        · replace h := condF q9 h
          refine T.exit ?_
          refine ⟨_, (Option.some.inj h).symm, fun h => ?_⟩
          replace h := congrArg some h
          obtain rfl := Option.some.inj h
          exact ⟨(), (), ks6, trivial, cutW rfl weak_nil⟩

theorem F_spec_l12Turn_P (n : Int) (i : Int) (k_ : Int) {q : Int} (h : F_spec_l12Turn n i k_ = some q) : PCall Try.prog 79 [I n, I i, I k_] (I q) := by
  refine PCall.mkT Try.func79 rfl (by kernel_rfl) rfl (by kernel_rfl) (e0 := envOf [(0, I n), (1, I i), (2, I k_)]) (weak_cons rfl (weak_cons rfl (weak_cons rfl weak_nil))) ?_
  refine T.seq ?_
  refine T.region ?_
  refine oN (EvN.asg (I (0 : Int)) rfl) ?_
  refine TO.nil ?_
  refine T.seq ?_
  refine T.seq ?_
  refine T.region ?_
  refine oN (EvN.mv (I n) rfl) ?_
  refine oN (EvN.mv (I i) rfl) ?_
  refine oN (EvN.ieq rfl rfl) ?_
  refine TO.nil ?_
  refine T.cond rfl (fun q1 => ?_) (fun q1 => ?_)
  · replace h := condT q1 h
    refine T.seq ?_
    refine T.clean (H0 := []) (e0 := envOf [(2, I k_)]) rfl (weak_cons rfl weak_nil) ?_
    refine T.region ?_
    refine oN (EvN.mv (I k_) rfl) ?_
    refine oN (EvN.asg (I k_) rfl) ?_
    refine TO.nil ?_
    refine T.ret ?_
    obtain rfl := Option.some.inj h
    repeat first | refine retS ?_ | refine retB ?_
    exact Fin.ret (vs := [I k_]) (.cons (.tmp rfl) .nil) (.of_isF 9 _ rfl)
  · replace h := condF q1 h
    refine T.skip ?_
    refine T.seq ?_
    refine T.seq ?_
    refine T.region ?_
    refine oN (EvN.mv (I n) rfl) ?_
    refine oN (EvN.mv (I k_) rfl) ?_
    refine oN (EvN.ieq rfl rfl) ?_
    refine TO.nil ?_
    refine T.cond rfl (fun q2 => ?_) (fun q2 => ?_)
    · replace h := condT q2 h
      refine T.seq ?_
      refine T.clean (H0 := []) (e0 := envOf [(1, I i)]) rfl (weak_cons rfl weak_nil) ?_
      refine T.region ?_
      refine oN (EvN.mv (I i) rfl) ?_
      refine oN (EvN.asg (I i) rfl) ?_
      refine TO.nil ?_
      refine T.ret ?_
      obtain rfl := Option.some.inj h
      repeat first | refine retS ?_ | refine retB ?_
      exact Fin.ret (vs := [I i]) (.cons (.tmp rfl) .nil) (.of_isF 9 _ rfl)
    · replace h := condF q2 h
      refine T.skip ?_
      refine T.seq ?_
      refine T.clean (H0 := []) (e0 := envOf [(0, I n)]) rfl (weak_cons rfl weak_nil) ?_
      refine T.region ?_
      refine oN (EvN.mv (I n) rfl) ?_
      refine oN (EvN.asg (I n) rfl) ?_
      refine TO.nil ?_
      refine T.ret ?_
      obtain rfl := Option.some.inj h
      repeat first | refine retS ?_ | refine retB ?_
      exact Fin.ret (vs := [I n]) (.cons (.tmp rfl) .nil) (.of_isF 9 _ rfl)

theorem F_spec_TurnOutcome_P (p : List (List Ximpl_Instr)) (o_ : List Int) (i : Int) (k_ : Int) (x : Int) (y : Int) {q : (List Int) × Bool} (h : F_spec_TurnOutcome p o_ i k_ x y = some q) : PCall Try.prog 27 [eL (cL Ximpl_Instr.c) p, eL cI o_, I i, I k_, I x, I y] (.tup [eL cI q.1, Bo q.2]) := by
  refine PCall.mkT Try.func27 rfl (by kernel_rfl) rfl (by kernel_rfl) (e0 := envOf [(0, eL (cL Ximpl_Instr.c) p), (1, eL cI o_), (2, I i), (3, I k_), (4, I x), (5, I y)]) (weak_cons rfl (weak_cons rfl (weak_cons rfl (weak_cons rfl (weak_cons rfl (weak_cons rfl weak_nil)))))) ?_
  refine T.seq ?_
  refine T.region ?_
  refine oN (EvN.asg (.nil) rfl) ?_
  refine oN (EvN.asg (Bo false) rfl) ?_
  refine TO.nil ?_
  refine T.seq ?_
  refine T.seq ?_
  refine T.region ?_
  refine oN (EvN.mv (eL (cL Ximpl_Instr.c) p) rfl) ?_
  refine oN (EvN.mv (eL cI o_) rfl) ?_
  obtain ⟨v1, cv1, h⟩ := bindL h
  refine oN (EvN.call rfl rfl rfl (F_spec_OutcomeValid_P p o_ cv1) rfl) ?_
  refine oN (EvN.not rfl) ?_
  refine oN (EvN.mv (Bo (!v1)) rfl) ?_
  obtain ⟨s2, h, ks2⟩ := bindL h
  refine TO.joinF (G := Unit) 7 (fun _ => True) (fun _ => [(29, Bo s2), (0, eL (cL Ximpl_Instr.c) p), (1, eL cI o_), (2, I i), (3, I k_), (4, I x), (5, I y)]) (fun _ => []) ?_ (fun js2 => ?_)
  rotate_left
  · clear ks2
    rcases bifL h with ⟨q3, h⟩ | ⟨q3, h⟩
    · refine gS rfl q3 ?_
      refine gS rfl q3 ?_
      refine gS rfl q3 ?_
      refine gS rfl q3 ?_
      refine gS rfl q3 ?_
      refine gS rfl q3 ?_
      refine oN (EvN.pickT rfl q3 (Bo true) rfl) ?_
      obtain rfl := Option.some.inj h
      exact js2 _ _ ⟨(), trivial, cutW rfl (weak_cons rfl (weak_cons rfl (weak_cons rfl (weak_cons rfl (weak_cons rfl (weak_cons rfl (weak_cons rfl weak_nil)))))))⟩
    · refine gN rfl q3 (EvN.mv (I i) rfl) ?_
      refine gN rfl q3 (EvN.mv (eL (cL Ximpl_Instr.c) p) rfl) ?_
      refine gN rfl q3 (EvN.lenL sl23 rfl) ?_
      obtain ⟨g4, h⟩ := gdW h
      refine gN rfl q3 (EvN.sub rfl rfl g4) ?_
      obtain ⟨v5, cv5, h⟩ := bindL h
      refine gN rfl q3 (EvN.call rfl rfl rfl (F_spec_l1In_P i ((p.length : Int) - (1 : Int)) cv5) rfl) ?_
      refine gN rfl q3 (EvN.not rfl) ?_
      refine oN (EvN.pickF rfl q3 (Bo (!v5)) rfl) ?_
      obtain rfl := Option.some.inj h
      exact js2 _ _ ⟨(), trivial, cutW rfl (weak_cons rfl (weak_cons rfl (weak_cons rfl (weak_cons rfl (weak_cons rfl (weak_cons rfl (weak_cons rfl weak_nil)))))))⟩
  · intro _ _
    replace h := ks2
    clear ks2
    refine oN (EvN.mv (Bo s2) rfl) ?_
    obtain ⟨s6, h, ks6⟩ := bindL h
    refine TO.joinF (G := Unit) 7 (fun _ => True) (fun _ => [(37, Bo s6), (0, eL (cL Ximpl_Instr.c) p), (1, eL cI o_), (2, I i), (3, I k_), (4, I x), (5, I y)]) (fun _ => []) ?_ (fun js6 => ?_)
    rotate_left
    · clear ks6
      rcases bifL h with ⟨q7, h⟩ | ⟨q7, h⟩
      · refine gS rfl q7 ?_
        refine gS rfl q7 ?_
        refine gS rfl q7 ?_
        refine gS rfl q7 ?_
        refine gS rfl q7 ?_
        refine gS rfl q7 ?_
        refine oN (EvN.pickT rfl q7 (Bo true) rfl) ?_
        obtain rfl := Option.some.inj h
        exact js6 _ _ ⟨(), trivial, cutW rfl (weak_cons rfl (weak_cons rfl (weak_cons rfl (weak_cons rfl (weak_cons rfl (weak_cons rfl (weak_cons rfl weak_nil)))))))⟩
      · refine gN rfl q7 (EvN.mv (I k_) rfl) ?_
        refine gN rfl q7 (EvN.mv (eL (cL Ximpl_Instr.c) p) rfl) ?_
        refine gN rfl q7 (EvN.lenL sl23 rfl) ?_
        obtain ⟨g8, h⟩ := gdW h
        refine gN rfl q7 (EvN.sub rfl rfl g8) ?_
        obtain ⟨v9, cv9, h⟩ := bindL h
        refine gN rfl q7 (EvN.call rfl rfl rfl (F_spec_l1In_P k_ ((p.length : Int) - (1 : Int)) cv9) rfl) ?_
        refine gN rfl q7 (EvN.not rfl) ?_
        refine oN (EvN.pickF rfl q7 (Bo (!v9)) rfl) ?_
        obtain rfl := Option.some.inj h
        exact js6 _ _ ⟨(), trivial, cutW rfl (weak_cons rfl (weak_cons rfl (weak_cons rfl (weak_cons rfl (weak_cons rfl (weak_cons rfl (weak_cons rfl weak_nil)))))))⟩
    · intro _ _
      replace h := ks6
      clear ks6
      refine oN (EvN.mv (Bo s6) rfl) ?_
      obtain ⟨s10, h, ks10⟩ := bindL h
      refine TO.joinF (G := Unit) 4 (fun _ => True) (fun _ => [(42, Bo s10), (0, eL (cL Ximpl_Instr.c) p), (1, eL cI o_), (2, I i), (3, I k_), (4, I x), (5, I y)]) (fun _ => []) ?_ (fun js10 => ?_)
      rotate_left
      · clear ks10
        rcases bifL h with ⟨q11, h⟩ | ⟨q11, h⟩
        · refine gS rfl q11 ?_
          refine gS rfl q11 ?_
          refine gS rfl q11 ?_
          refine oN (EvN.pickT rfl q11 (Bo true) rfl) ?_
          obtain rfl := Option.some.inj h
          exact js10 _ _ ⟨(), trivial, cutW rfl (weak_cons rfl (weak_cons rfl (weak_cons rfl (weak_cons rfl (weak_cons rfl (weak_cons rfl (weak_cons rfl weak_nil)))))))⟩
        · refine gN rfl q11 (EvN.mv (I x) rfl) ?_
          obtain ⟨v12, cv12, h⟩ := bindL h
          refine gN rfl q11 (EvN.call rfl rfl rfl (F_spec_l1In_P x (2 : Int) cv12) rfl) ?_
          refine gN rfl q11 (EvN.not rfl) ?_
          refine oN (EvN.pickF rfl q11 (Bo (!v12)) rfl) ?_
          obtain rfl := Option.some.inj h
          exact js10 _ _ ⟨(), trivial, cutW rfl (weak_cons rfl (weak_cons rfl (weak_cons rfl (weak_cons rfl (weak_cons rfl (weak_cons rfl (weak_cons rfl weak_nil)))))))⟩
      · intro _ _
        replace h := ks10
        clear ks10
        refine oN (EvN.mv (Bo s10) rfl) ?_
        obtain ⟨s13, h, ks13⟩ := bindL h
        refine TO.joinF (G := Unit) 4 (fun _ => True) (fun _ => [(47, Bo s13), (0, eL (cL Ximpl_Instr.c) p), (1, eL cI o_), (2, I i), (3, I k_), (4, I x), (5, I y)]) (fun _ => []) ?_ (fun js13 => ?_)
        rotate_left
        · clear ks13
          rcases bifL h with ⟨q14, h⟩ | ⟨q14, h⟩
          · refine gS rfl q14 ?_
            refine gS rfl q14 ?_
            refine gS rfl q14 ?_
            refine oN (EvN.pickT rfl q14 (Bo true) rfl) ?_
            obtain rfl := Option.some.inj h
            exact js13 _ _ ⟨(), trivial, cutW rfl (weak_cons rfl (weak_cons rfl (weak_cons rfl (weak_cons rfl (weak_cons rfl (weak_cons rfl (weak_cons rfl weak_nil)))))))⟩
          · refine gN rfl q14 (EvN.mv (I y) rfl) ?_
            obtain ⟨v15, cv15, h⟩ := bindL h
            refine gN rfl q14 (EvN.call rfl rfl rfl (F_spec_l1In_P y (2 : Int) cv15) rfl) ?_
            refine gN rfl q14 (EvN.not rfl) ?_
            refine oN (EvN.pickF rfl q14 (Bo (!v15)) rfl) ?_
            obtain rfl := Option.some.inj h
            exact js13 _ _ ⟨(), trivial, cutW rfl (weak_cons rfl (weak_cons rfl (weak_cons rfl (weak_cons rfl (weak_cons rfl (weak_cons rfl (weak_cons rfl weak_nil)))))))⟩
        · intro _ _
          replace h := ks13
          clear ks13
          refine TO.nil ?_
          refine T.cond rfl (fun q16 => ?_) (fun q16 => ?_)
          · replace h := condT q16 h
            refine T.seq ?_
            refine T.clean (H0 := []) (e0 := envOf []) rfl weak_nil ?_
            refine T.region ?_
            refine oN (EvN.mkF (c := cI) ([] : List Int) [] sl37 rfl rfl rfl (fun _ => rfl) (fun _ => rfl) rfl) ?_
            refine oN (EvN.asg (eL cI ([] : List Int)) rfl) ?_
            refine oN (EvN.asg (Bo false) rfl) ?_
            refine TO.nil ?_
            refine T.ret ?_
            obtain rfl := Option.some.inj h
            repeat first | refine retS ?_ | refine retB ?_
            exact Fin.ret (vs := [eL cI ([] : List Int), Bo false]) (.cons (.tmp rfl) (.cons (.tmp rfl) .nil)) (.tupL (.cons (.of_isF 9 _ rfl) (.cons (.of_isF 9 _ rfl) .nil)))
          · replace h := condF q16 h
            refine T.skip ?_
            refine T.seq ?_
            refine T.region ?_
            refine oA (EvA.mkO (c := cI) ([] : List Int) [] sl37 rfl rfl rfl (fun _ => rfl) rfl rfl) ?_
            refine oN (EvN.asg (hS false 0 0 1 (([] : List Int).length)) rfl) ?_
            refine TO.nil ?_
            obtain ⟨s17, h, ks17⟩ := bindL h
            refine T.joinF (G := Nat) (fun gh => True) (fun gh => [(14, hS false 0 gh 1 s17.length), (0, eL (cL Ximpl_Instr.c) p), (1, eL cI o_), (4, I x), (5, I y)]) (fun gh => [bE false gh 1 3 (s17.map cI)]) (fun u36 hg => ?_) ?_
            · clear h
              have h := ks17
              clear ks17
              obtain ⟨s37, h, ks37⟩ := bindL h
              refine T.joinF (G := Nat) (fun gh => True) (fun gh => [(14, hS false 0 gh 1 s37.length)]) (fun gh => [bE false gh 1 3 (s37.map cI)]) (fun u49 hg => ?_) ?_
              · clear h
                have h := ks37
                clear ks37
                refine T.seq ?_
                refine T.region ?_
                refine oN (EvN.mv (hS false 0 u49 1 s37.length) rfl) ?_
                refine oN (EvN.asg (hS false 0 u49 1 s37.length) rfl) ?_
                refine oN (EvN.asg (Bo true) rfl) ?_
                refine TO.nil ?_
                refine T.ret ?_
                obtain rfl := Option.some.inj h
                repeat first | refine retS ?_ | refine retB ?_
                exact Fin.ret (vs := [hS false 0 u49 1 s37.length, Bo true]) (.cons (.tmp rfl) (.cons (.tmp rfl) .nil)) (.tupL (.cons (Fz.own (g := false) (ver := u49) (l := s37) rfl rfl rfl nofun (fun _ => rfl)) (.cons (.of_isF 9 _ rfl) .nil)))
              · clear ks37
                refine T.seq ?_
                refine T.region ?_
                refine oN (EvN.asg (I (0 : Int)) rfl) ?_
                refine TO.nil ?_
                refine T.block ?_
                refine T.loop (S := (List Int) × Int) (G := Nat) (F_spec_TurnOutcome_L40 p o_ x y) (fun s39 gh => True) (fun s39 gh => [(17, I s39.2), (14, hS false 0 gh 1 s39.1.length), (0, eL (cL Ximpl_Instr.c) p), (1, eL cI o_), (4, I x), (5, I y)]) (fun s39 gh => [bE false gh 1 3 (s39.1.map cI)]) (s0 := (s17, (0 : Int))) u36 h trivial (cutW rfl (weak_cons rfl (weak_cons rfl (weak_cons rfl (weak_cons rfl (weak_cons rfl (weak_cons rfl weak_nil))))))) (fun s39 u41 ws39 h hg => ?_)
                refine T.seq ?_
                refine T.seq ?_
                refine T.region ?_
                refine oN (EvN.mv (I s39.2) rfl) ?_
                refine oN (EvN.ile rfl rfl) ?_
                refine TO.nil ?_
                refine T.cond rfl (fun q42 => ?_) (fun q42 => ?_)
                · replace h := condT q42 h
                  refine T.skip ?_
                  refine T.seq ?_
                  refine T.block ?_
                  refine T.region ?_
                  refine oN (EvN.mv (hS false 0 u41 1 s39.1.length) rfl) ?_
                  refine oN (EvN.mv (eL cI o_) rfl) ?_
                  refine oN (EvN.mv (eL (cL Ximpl_Instr.c) p) rfl) ?_
                  refine oN (EvN.lenL sl23 rfl) ?_
                  obtain ⟨g43, h⟩ := gdW h
                  refine oN (EvN.mul rfl rfl g43) ?_
                  refine oN (EvN.mv (I s39.2) rfl) ?_
                  refine oN (EvN.mv (I x) rfl) ?_
                  refine oN (EvN.mv (I y) rfl) ?_
                  obtain ⟨v44, cv44, h⟩ := bindL h
                  refine oN (EvN.call rfl rfl rfl (F_spec_l12Turn_P s39.2 x y cv44) rfl) ?_
                  obtain ⟨g45, h⟩ := gdW h
                  refine oN (EvN.add rfl rfl g45) ?_
                  obtain ⟨g46, h⟩ := gdD h
                  refine oN (EvN.ixL sl37 rfl rfl g46 (fun _ => rfl)) ?_
                  refine oN (EvN.loadfp (I (o_.getD (((p.length : Int) * (3 : Int)) + v44).toNat default)) ty3 rfl rfl) ?_
                  refine oN (EvN.mkF (c := cI) ([(o_.getD (((p.length : Int) * (3 : Int)) + v44).toNat default)] : List Int) [[I (o_.getD (((p.length : Int) * (3 : Int)) + v44).toNat default)]] sl37 rfl rfl rfl (fun _ => rfl) (fun _ => rfl) rfl) ?_
                  obtain ⟨g47, h⟩ := gdL h
                  refine oA (EvA.app1 (g := false) (l := s39.1) (o_.getD (((p.length : Int) * (3 : Int)) + v44).toNat default) sl37 (by kernel_rfl) rfl rfl rfl nofun (SrcOk.fz (l := ([(o_.getD (((p.length : Int) * (3 : Int)) + v44).toNat default)] : List Int)) rfl (fun _ => rfl)) g47) ?_
                  refine oN (EvN.asg (hS false 0 (u41 + 1) 1 ((s39.1 ++ [(o_.getD (((p.length : Int) * (3 : Int)) + v44).toNat default)]).length)) rfl) ?_
                  refine TO.nil ?_
                  refine T.clean (H0 := [bE false (u41 + 1) 1 3 ((s39.1 ++ [(o_.getD (((p.length : Int) * (3 : Int)) + v44).toNat default)]).map cI)]) (e0 := envOf [(14, hS false 0 (u41 + 1) 1 ((s39.1 ++ [(o_.getD (((p.length : Int) * (3 : Int)) + v44).toNat default)]).length)), (17, I s39.2), (0, eL (cL Ximpl_Instr.c) p), (1, eL cI o_), (4, I x), (5, I y)]) rfl (weak_cons rfl (weak_cons rfl (weak_cons rfl (weak_cons rfl (weak_cons rfl (weak_cons rfl weak_nil)))))) ?_
                  refine T.region ?_
                  refine oN (EvN.mv (I s39.2) rfl) ?_
                  obtain ⟨g48, h⟩ := gdW h
                  refine oN (EvN.add rfl rfl g48) ?_
                  refine oN (EvN.asg (I (s39.2 + (1 : Int))) rfl) ?_
                  refine TO.nil ?_
                  obtain rfl := Option.some.inj h
                  exact ⟨((s39.1 ++ [(o_.getD (((p.length : Int) * (3 : Int)) + v44).toNat default)]), (s39.2 + (1 : Int))), u41 + 1, rfl, trivial, cutW rfl (weak_cons rfl (weak_cons rfl (weak_cons rfl (weak_cons rfl (weak_cons rfl (weak_cons rfl weak_nil))))))⟩
                · replace h := condF q42 h
                  refine T.exit ?_
                  refine ⟨_, (Option.some.inj h).symm, fun h => ?_⟩
                  replace h := congrArg some h
                  obtain rfl := Option.some.inj h
                  exact ⟨u41, trivial, cutW rfl (weak_cons rfl weak_nil)⟩
            · clear ks17
              refine T.seq ?_
              refine T.region ?_
              refine oN (EvN.asg (I (0 : Int)) rfl) ?_
              refine TO.nil ?_
              refine T.block ?_
              refine T.loop (S := (List Int) × Int) (G := Nat) (F_spec_TurnOutcome_L20 p o_ i k_) (fun s19 gh => True) (fun s19 gh => [(15, I s19.2), (14, hS false 0 gh 1 s19.1.length), (0, eL (cL Ximpl_Instr.c) p), (1, eL cI o_), (2, I i), (3, I k_), (4, I x), (5, I y)]) (fun s19 gh => [bE false gh 1 3 (s19.1.map cI)]) (s0 := (([] : List Int), (0 : Int))) 0 h trivial (cutW rfl (weak_cons rfl (weak_cons rfl (weak_cons rfl (weak_cons rfl (weak_cons rfl (weak_cons rfl (weak_cons rfl (weak_cons rfl weak_nil))))))))) (fun s19 u21 ws19 h hg => ?_)
              refine T.seq ?_
              refine T.seq ?_
              refine T.region ?_
              refine oN (EvN.mv (I s19.2) rfl) ?_
              refine oN (EvN.mv (eL (cL Ximpl_Instr.c) p) rfl) ?_
              refine oN (EvN.lenL sl23 rfl) ?_
              refine oN (EvN.ilt rfl rfl) ?_
              refine TO.nil ?_
              refine T.cond rfl (fun q22 => ?_) (fun q22 => ?_)
              · replace h := condT q22 h
                refine T.skip ?_
                obtain ⟨s23, h, ks23⟩ := bindL h
                refine T.joinF (G := Nat) (fun gh => True) (fun gh => [(15, I s19.2), (14, hS false 0 gh 1 s23.length), (0, eL (cL Ximpl_Instr.c) p), (1, eL cI o_), (2, I i), (3, I k_), (4, I x), (5, I y)]) (fun gh => [bE false gh 1 3 (s23.map cI)]) (fun u34 hg => ?_) ?_
                · clear h
                  have h := ks23
                  clear ks23
                  refine T.region ?_
                  refine oN (EvN.mv (I s19.2) rfl) ?_
                  obtain ⟨g35, h⟩ := gdW h
                  refine oN (EvN.add rfl rfl g35) ?_
                  refine oN (EvN.asg (I (s19.2 + (1 : Int))) rfl) ?_
                  refine TO.nil ?_
                  obtain rfl := Option.some.inj h
                  exact ⟨(s23, (s19.2 + (1 : Int))), u34, rfl, trivial, cutW rfl (weak_cons rfl (weak_cons rfl (weak_cons rfl (weak_cons rfl (weak_cons rfl (weak_cons rfl (weak_cons rfl (weak_cons rfl weak_nil))))))))⟩
                · clear ks23
                  refine T.block ?_
                  refine T.seq ?_
                  refine T.region ?_
                  refine oN (EvN.asg (I (0 : Int)) rfl) ?_
                  refine TO.nil ?_
                  refine T.block ?_
                  refine T.loop (S := (List Int) × Int) (G := Nat) (F_spec_TurnOutcome_L26 o_ i k_ s19) (fun s25 gh => True) (fun s25 gh => [(16, I s25.2), (15, I s19.2), (14, hS false 0 gh 1 s25.1.length), (0, eL (cL Ximpl_Instr.c) p), (1, eL cI o_), (2, I i), (3, I k_), (4, I x), (5, I y)]) (fun s25 gh => [bE false gh 1 3 (s25.1.map cI)]) (s0 := (s19.1, (0 : Int))) u21 h trivial (cutW rfl (weak_cons rfl (weak_cons rfl (weak_cons rfl (weak_cons rfl (weak_cons rfl (weak_cons rfl (weak_cons rfl (weak_cons rfl (weak_cons rfl weak_nil)))))))))) (fun s25 u27 ws25 h hg => ?_)
                  refine T.seq ?_
                  refine T.seq ?_
                  refine T.region ?_
                  refine oN (EvN.mv (I s25.2) rfl) ?_
                  refine oN (EvN.ile rfl rfl) ?_
                  refine TO.nil ?_
                  refine T.cond rfl (fun q28 => ?_) (fun q28 => ?_)
                  · replace h := condT q28 h
                    refine T.skip ?_
                    refine T.seq ?_
                    refine T.block ?_
                    refine T.region ?_
                    refine oN (EvN.mv (hS false 0 u27 1 s25.1.length) rfl) ?_
                    refine oN (EvN.mv (eL cI o_) rfl) ?_
                    refine oN (EvN.mv (I s19.2) rfl) ?_
                    refine oN (EvN.mv (I i) rfl) ?_
                    refine oN (EvN.mv (I k_) rfl) ?_
                    obtain ⟨v29, cv29, h⟩ := bindL h
                    refine oN (EvN.call rfl rfl rfl (F_spec_l12Turn_P s19.2 i k_ cv29) rfl) ?_
                    refine oN (EvN.mv (I s25.2) rfl) ?_
                    obtain ⟨v30, cv30, h⟩ := bindL h
                    refine oN (EvN.call rfl rfl rfl (F_spec_l3Reg_P v29 s25.2 cv30) rfl) ?_
                    obtain ⟨g31, h⟩ := gdD h
                    refine oN (EvN.ixL sl37 rfl rfl g31 (fun _ => rfl)) ?_
                    refine oN (EvN.loadfp (I (o_.getD v30.toNat default)) ty3 rfl rfl) ?_
                    refine oN (EvN.mkF (c := cI) ([(o_.getD v30.toNat default)] : List Int) [[I (o_.getD v30.toNat default)]] sl37 rfl rfl rfl (fun _ => rfl) (fun _ => rfl) rfl) ?_
                    obtain ⟨g32, h⟩ := gdL h
                    refine oA (EvA.app1 (g := false) (l := s25.1) (o_.getD v30.toNat default) sl37 (by kernel_rfl) rfl rfl rfl nofun (SrcOk.fz (l := ([(o_.getD v30.toNat default)] : List Int)) rfl (fun _ => rfl)) g32) ?_
                    refine oN (EvN.asg (hS false 0 (u27 + 1) 1 ((s25.1 ++ [(o_.getD v30.toNat default)]).length)) rfl) ?_
                    refine TO.nil ?_
                    refine T.clean (H0 := [bE false (u27 + 1) 1 3 ((s25.1 ++ [(o_.getD v30.toNat default)]).map cI)]) (e0 := envOf [(14, hS false 0 (u27 + 1) 1 ((s25.1 ++ [(o_.getD v30.toNat default)]).length)), (16, I s25.2), (15, I s19.2), (0, eL (cL Ximpl_Instr.c) p), (1, eL cI o_), (2, I i), (3, I k_), (4, I x), (5, I y)]) rfl (weak_cons rfl (weak_cons rfl (weak_cons rfl (weak_cons rfl (weak_cons rfl (weak_cons rfl (weak_cons rfl (weak_cons rfl (weak_cons rfl weak_nil))))))))) ?_
                    refine T.region ?_
                    refine oN (EvN.mv (I s25.2) rfl) ?_
                    obtain ⟨g33, h⟩ := gdW h
                    refine oN (EvN.add rfl rfl g33) ?_
                    refine oN (EvN.asg (I (s25.2 + (1 : Int))) rfl) ?_
                    refine TO.nil ?_
                    obtain rfl := Option.some.inj h
                    exact ⟨((s25.1 ++ [(o_.getD v30.toNat default)]), (s25.2 + (1 : Int))), u27 + 1, rfl, trivial, cutW rfl (weak_cons rfl (weak_cons rfl (weak_cons rfl (weak_cons rfl (weak_cons rfl (weak_cons rfl (weak_cons rfl (weak_cons rfl (weak_cons rfl weak_nil)))))))))⟩
                  · replace h := condF q28 h
                    refine T.exit ?_
                    refine ⟨_, (Option.some.inj h).symm, fun h => ?_⟩
                    replace h := congrArg some h
                    obtain rfl := Option.some.inj h
                    exact ⟨u27, trivial, cutW rfl (weak_cons rfl (weak_cons rfl (weak_cons rfl (weak_cons rfl (weak_cons rfl (weak_cons rfl (weak_cons rfl (weak_cons rfl weak_nil))))))))⟩
              · replace h := condF q22 h
                refine T.exit ?_
                refine ⟨_, (Option.some.inj h).symm, fun h => ?_⟩
                replace h := congrArg some h
                obtain rfl := Option.some.inj h
                exact ⟨u21, trivial, cutW rfl (weak_cons rfl (weak_cons rfl (weak_cons rfl (weak_cons rfl (weak_cons rfl weak_nil)))))⟩

theorem F_laws_wmInts_P (a : List Int) (b : List Int) {q : Bool} (h : F_laws_wmInts a b = some q) : PCall Try.prog 28 [eL cI a, eL cI b] (Bo q) := by
  refine PCall.mkT Try.func28 rfl (by kernel_rfl) rfl (by kernel_rfl) (e0 := envOf [(0, eL cI a), (1, eL cI b)]) (weak_cons rfl (weak_cons rfl weak_nil)) ?_
  refine T.seq ?_
  refine T.region ?_
  refine oN (EvN.asg (Bo false) rfl) ?_
  refine TO.nil ?_
  refine T.seq ?_
  refine T.seq ?_
  refine T.region ?_
  refine oN (EvN.mv (eL cI a) rfl) ?_
  refine oN (EvN.lenL sl37 rfl) ?_
  refine oN (EvN.mv (eL cI b) rfl) ?_
  refine oN (EvN.lenL sl37 rfl) ?_
  refine oN (EvN.ine rfl rfl) ?_
  refine TO.nil ?_
  refine T.cond rfl (fun q1 => ?_) (fun q1 => ?_)
  · replace h := condT q1 h
    refine T.seq ?_
    refine T.clean (H0 := []) (e0 := envOf []) rfl weak_nil ?_
    refine T.region ?_
    refine oN (EvN.asg (Bo false) rfl) ?_
    refine TO.nil ?_
    refine T.ret ?_
    obtain rfl := Option.some.inj h
    repeat first | refine retS ?_ | refine retB ?_
    exact Fin.ret (vs := [Bo false]) (.cons (.tmp rfl) .nil) (.of_isF 9 _ rfl)
  · replace h := condF q1 h
    refine T.skip ?_
    obtain ⟨Ks2, es2, ws2, h, ks2⟩ := sumL h
    refine T.join (S := Unit) (G := Unit) (fun s2 => Ks2 s2 = some q) (fun s2 gh => True) (fun s2 gh => []) (fun s2 gh => []) (fun s2 gh h hg => ?_) ?_
    · clear ks2
      subst es2
      refine T.seq ?_
      refine T.region ?_
      refine oN (EvN.asg (Bo true) rfl) ?_
      refine TO.nil ?_
      refine T.ret ?_
      obtain rfl := Option.some.inj h
      repeat first | refine retS ?_ | refine retB ?_
      exact Fin.ret (vs := [Bo true]) (.cons (.tmp rfl) .nil) (.of_isF 9 _ rfl)
    · refine T.seq ?_
      refine T.clean (H0 := []) (e0 := envOf [(0, eL cI a), (1, eL cI b)]) rfl (weak_cons rfl (weak_cons rfl weak_nil)) ?_
      refine T.region ?_
      refine oN (EvN.asg (I (0 : Int)) rfl) ?_
      refine TO.nil ?_
      refine T.block ?_
      refine T.loop (S := Int) (G := Unit) (F_laws_wmInts_L4 a b) (fun s3 gh => True) (fun s3 gh => [(5, I s3), (0, eL cI a), (1, eL cI b)]) (fun s3 gh => []) (s0 := (0 : Int)) () h trivial (cutW rfl (weak_cons rfl (weak_cons rfl (weak_cons rfl weak_nil)))) (fun s3 gh ws3 h hg => ?_)
      refine T.seq ?_
      refine T.seq ?_
      refine T.region ?_
      refine oN (EvN.mv (I s3) rfl) ?_
      refine oN (EvN.mv (eL cI a) rfl) ?_
      refine oN (EvN.lenL sl37 rfl) ?_
      refine oN (EvN.ilt rfl rfl) ?_
      refine TO.nil ?_
      refine T.cond rfl (fun q5 => ?_) (fun q5 => ?_)
      · replace h := condT q5 h
        refine T.skip ?_
        refine T.seq ?_
        refine T.block ?_
        refine T.seq ?_
        refine T.drawF (fun _ => ([], false)) (by kernel_rfl) (by kernel_rfl) ?_
        refine fN rfl (EvN.mv (eL cI a) rfl) ?_
        refine fN rfl (EvN.mv (I s3) rfl) ?_
        obtain ⟨g6, h⟩ := gdD h
        refine fN rfl (EvN.ixL sl37 rfl rfl g6 (fun _ => rfl)) ?_
        refine fN rfl (EvN.loadfp (I (a.getD s3.toNat default)) ty3 rfl rfl) ?_
        refine fN rfl (EvN.mv (eL cI b) rfl) ?_
        refine fN rfl (EvN.mv (I s3) rfl) ?_
        obtain ⟨g7, h⟩ := gdD h
        refine fN rfl (EvN.ixL sl37 rfl rfl g7 (fun _ => rfl)) ?_
        refine fN rfl (EvN.loadfp (I (b.getD s3.toNat default)) ty3 rfl rfl) ?_
        refine fN rfl (EvN.ine rfl rfl) ?_
        refine TF.nil ?_
        refine T.cond rfl (fun q8 => ?_) (fun q8 => ?_)
        · replace h := condT q8 h
          refine T.seq ?_
          refine T.clean (H0 := []) (e0 := envOf []) rfl weak_nil ?_
          refine T.region ?_
          refine oN (EvN.asg (Bo false) rfl) ?_
          refine TO.nil ?_
          refine T.ret ?_
          refine ⟨_, (Option.some.inj h).symm, fun h => ?_⟩
          replace h := congrArg some h
          obtain rfl := Option.some.inj h
          replace h := congrArg some (show _ = _ from ks2)
          obtain rfl := Option.some.inj h
          repeat first | refine retS ?_ | refine retB ?_
          exact Fin.ret (vs := [Bo false]) (.cons (.tmp rfl) .nil) (.of_isF 9 _ rfl)
        · replace h := condF q8 h
          refine T.skip ?_
          refine T.clean (H0 := []) (e0 := envOf [(5, I s3), (0, eL cI a), (1, eL cI b)]) rfl (weak_cons rfl (weak_cons rfl (weak_cons rfl weak_nil))) ?_
          refine T.region ?_
          refine oN (EvN.mv (I s3) rfl) ?_
          obtain ⟨g9, h⟩ := gdW h
          refine oN (EvN.add rfl rfl g9) ?_
          refine oN (EvN.asg (I (s3 + (1 : Int))) rfl) ?_
          refine TO.nil ?_
          obtain rfl := Option.some.inj h
          exact ⟨(s3 + (1 : Int)), (), rfl, trivial, cutW rfl (weak_cons rfl (weak_cons rfl (weak_cons rfl weak_nil)))⟩
      · replace h := condF q5 h
        refine T.exit ?_
        refine ⟨_, (Option.some.inj h).symm, fun h => ?_⟩
        replace h := congrArg some h
        obtain rfl := Option.some.inj h
        exact ⟨(), (), ks2, trivial, cutW rfl weak_nil⟩
end Go.Proofs.Ytjogdblionfmiaa
