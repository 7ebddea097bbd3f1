/-
  The program's code computes the functions over plain values; printed by lift.py. No conditions.
-/
import Derived.Test.YtjogdblionfmiaaS12d
import Derived.Test.YtjogdblionfmiaaSf
import Derived.Test.YtjogdblionfmiaaBrM
import Derived.Test.YtjogdblionfmiaaBrN
import Derived.Test.YtjogdblionfmiaaMu2
import Derived.Test.YtjogdblionfmiaaSP1
import Derived.Test.YtjogdblionfmiaaSQ1
import Derived.Test.YtjogdblionfmiaaSR1
namespace Go.Proofs.Ytjogdblionfmiaa
open Go.RowKit
set_option maxRecDepth 100000
theorem F_spec_l14Instrs_P  {q : (List Ximpl_Instr)} (h : F_spec_l14Instrs  = some q) : PCall Try.prog 64 [] (eL Ximpl_Instr.c q) := by
  refine PCall.mkT Try.func64 rfl (by kernel_rfl) rfl (by kernel_rfl) (e0 := envOf []) weak_nil ?_
  refine T.seq ?_
  refine T.region ?_
  refine oN (EvN.asg (.nil) rfl) ?_
  refine TO.nil ?_
  refine T.seq ?_
  refine T.region ?_
  refine oN (EvN.build [I (2 : Int), I (0 : Int), I (0 : Int), I (1 : Int)] Try.underlying81 zs81 fs81 rfl rfl) ?_
  refine oN (EvN.build [I (2 : Int), I (1 : Int), I (0 : Int), I (1 : Int)] Try.underlying81 zs81 fs81 rfl rfl) ?_
  refine oN (EvN.build [I (1 : Int), I (0 : Int), I (0 : Int), I (0 : Int)] Try.underlying81 zs81 fs81 rfl rfl) ?_
  refine oN (EvN.build [I (1 : Int), I (1 : Int), I (1 : Int), I (0 : Int)] Try.underlying81 zs81 fs81 rfl rfl) ?_
  refine oN (EvN.build [I (4 : Int), I (0 : Int), I (0 : Int), I (0 : Int)] Try.underlying81 zs81 fs81 rfl rfl) ?_
  refine oN (EvN.build [I (5 : Int), I (0 : Int), I (2 : Int), I (2 : Int)] Try.underlying81 zs81 fs81 rfl rfl) ?_
  refine oN (EvN.mkF (c := Ximpl_Instr.c) ([(⟨(2 : Int), (0 : Int), (0 : Int), (1 : Int)⟩ : Ximpl_Instr), (⟨(2 : Int), (1 : Int), (0 : Int), (1 : Int)⟩ : Ximpl_Instr), (⟨(1 : Int), (0 : Int), (0 : Int), (0 : Int)⟩ : Ximpl_Instr), (⟨(1 : Int), (1 : Int), (1 : Int), (0 : Int)⟩ : Ximpl_Instr), (⟨(4 : Int), (0 : Int), (0 : Int), (0 : Int)⟩ : Ximpl_Instr), (⟨(5 : Int), (0 : Int), (2 : Int), (2 : Int)⟩ : Ximpl_Instr)] : List Ximpl_Instr) [[I (2 : Int), I (0 : Int), I (0 : Int), I (1 : Int)], [I (2 : Int), I (1 : Int), I (0 : Int), I (1 : Int)], [I (1 : Int), I (0 : Int), I (0 : Int), I (0 : Int)], [I (1 : Int), I (1 : Int), I (1 : Int), I (0 : Int)], [I (4 : Int), I (0 : Int), I (0 : Int), I (0 : Int)], [I (5 : Int), I (0 : Int), I (2 : Int), I (2 : Int)]] sl78 rfl rfl rfl (fun _ => rfl) Ximpl_Instr.isF rfl) ?_
  refine oN (EvN.asg (eL Ximpl_Instr.c ([(⟨(2 : Int), (0 : Int), (0 : Int), (1 : Int)⟩ : Ximpl_Instr), (⟨(2 : Int), (1 : Int), (0 : Int), (1 : Int)⟩ : Ximpl_Instr), (⟨(1 : Int), (0 : Int), (0 : Int), (0 : Int)⟩ : Ximpl_Instr), (⟨(1 : Int), (1 : Int), (1 : Int), (0 : Int)⟩ : Ximpl_Instr), (⟨(4 : Int), (0 : Int), (0 : Int), (0 : Int)⟩ : Ximpl_Instr), (⟨(5 : Int), (0 : Int), (2 : Int), (2 : Int)⟩ : Ximpl_Instr)] : List Ximpl_Instr)) rfl) ?_
  refine TO.nil ?_
  refine T.ret ?_
  obtain rfl := Option.some.inj h
  repeat first | refine retS ?_ | refine retB ?_
  exact Fin.ret (vs := [eL Ximpl_Instr.c ([(⟨(2 : Int), (0 : Int), (0 : Int), (1 : Int)⟩ : Ximpl_Instr), (⟨(2 : Int), (1 : Int), (0 : Int), (1 : Int)⟩ : Ximpl_Instr), (⟨(1 : Int), (0 : Int), (0 : Int), (0 : Int)⟩ : Ximpl_Instr), (⟨(1 : Int), (1 : Int), (1 : Int), (0 : Int)⟩ : Ximpl_Instr), (⟨(4 : Int), (0 : Int), (0 : Int), (0 : Int)⟩ : Ximpl_Instr), (⟨(5 : Int), (0 : Int), (2 : Int), (2 : Int)⟩ : Ximpl_Instr)] : List Ximpl_Instr)]) (.cons (.tmp rfl) .nil) (.of_isF 9 _ rfl)

theorem F_spec_l14Test_P (n : Int) {q : (List (List Ximpl_Instr))} (h : F_spec_l14Test n = some q) : PCall Try.prog 60 [I n] (eL (cL Ximpl_Instr.c) q) := by
  refine PCall.mkT Try.func60 rfl (by kernel_rfl) rfl (by kernel_rfl) (e0 := envOf [(0, I n)]) (weak_cons rfl weak_nil) ?_
  refine T.seq ?_
  refine T.region ?_
  refine oN (EvN.asg (.nil) rfl) ?_
  refine TO.nil ?_
  refine T.seq ?_
  refine T.region ?_
  obtain ⟨v1, cv1, h⟩ := bindL h
  refine oN (EvN.call rfl rfl rfl (F_spec_l14Instrs_P  cv1) rfl) ?_
  refine oN (EvN.asg (eL Ximpl_Instr.c v1) rfl) ?_
  refine TO.nil ?_
  refine T.seq ?_
  refine T.region ?_
  refine oN (EvN.mkF (c := Ximpl_Instr.c) ([] : List Ximpl_Instr) [] sl78 rfl rfl rfl (fun _ => rfl) Ximpl_Instr.isF rfl) ?_
  refine oN (EvN.mkF (c := Ximpl_Instr.c) ([] : List Ximpl_Instr) [] sl78 rfl rfl rfl (fun _ => rfl) Ximpl_Instr.isF rfl) ?_
  refine oA (EvA.mkO (c := (cL Ximpl_Instr.c)) ([([] : List Ximpl_Instr), ([] : List Ximpl_Instr)] : List (List Ximpl_Instr)) [[eL Ximpl_Instr.c ([] : List Ximpl_Instr)], [eL Ximpl_Instr.c ([] : List Ximpl_Instr)]] sl23 rfl rfl rfl (fun _ => rfl) rfl rfl) ?_
  refine oN (EvN.asg (hS false 0 0 1 (([([] : List Ximpl_Instr), ([] : List Ximpl_Instr)] : List (List Ximpl_Instr)).length)) rfl) ?_
  refine TO.nil ?_
  obtain ⟨s2, h, ks2⟩ := bindL h
  refine T.joinF (G := Nat) (fun gh => True) (fun gh => [(4, hS false 0 gh 1 s2.length)]) (fun gh => [bE false gh 1 78 (s2.map (cL Ximpl_Instr.c))]) (fun u16 hg => ?_) ?_
  · clear h
    have h := ks2
    clear ks2
    refine T.seq ?_
    refine T.region ?_
    refine oN (EvN.mv (hS false 0 u16 1 s2.length) rfl) ?_
    refine oN (EvN.asg (hS false 0 u16 1 s2.length) rfl) ?_
    refine TO.nil ?_
    refine T.ret ?_
    obtain rfl := Option.some.inj h
    repeat first | refine retS ?_ | refine retB ?_
    exact Fin.ret (vs := [hS false 0 u16 1 s2.length]) (.cons (.tmp rfl) .nil) (Fz.own (g := false) (ver := u16) (l := s2) rfl rfl rfl nofun (fun _ => rfl))
  · clear ks2
    refine T.seq ?_
    refine T.region ?_
    refine oN (EvN.asg (I (3 : Int)) rfl) ?_
    refine TO.nil ?_
    refine T.block ?_
    refine T.loop (S := (List (List Ximpl_Instr)) × Int × Int) (G := Nat) (F_spec_l14Test_L5 v1) (fun s4 gh => True) (fun s4 gh => [(5, I s4.2.1), (4, hS false 0 gh 1 s4.1.length), (3, eL Ximpl_Instr.c v1), (0, I s4.2.2)]) (fun s4 gh => [bE false gh 1 78 (s4.1.map (cL Ximpl_Instr.c))]) (s0 := (([([] : List Ximpl_Instr), ([] : List Ximpl_Instr)] : List (List Ximpl_Instr)), (3 : Int), n)) 0 h trivial (cutW rfl (weak_cons rfl (weak_cons rfl (weak_cons rfl (weak_cons rfl weak_nil))))) (fun s4 u6 ws4 h hg => ?_)
    refine T.seq ?_
    refine T.seq ?_
    refine T.region ?_
    refine oN (EvN.mv (I s4.2.1) rfl) ?_
    refine oN (EvN.ige rfl rfl) ?_
    refine TO.nil ?_
    refine T.cond rfl (fun q7 => ?_) (fun q7 => ?_)
    · replace h := condT q7 h
      refine T.skip ?_
      refine T.seq ?_
      refine T.block ?_
      refine T.seq ?_
      refine T.reserve ?_
      refine T.drawF (fun i => [([], false), ([], false), ([], false), ([], false), ([], false), ([], false), ([], false), ([], false), ([], false), ([], false), ([1], true), ([], false), ([], false), ([], false), ([], false), ([0], false), ([1], true), ([], false), ([0], true)].getD i ([], false)) (by kernel_rfl) (by kernel_rfl) ?_
      refine fN rfl (EvN.mv (hS false 0 u6 1 s4.1.length) rfl) ?_
      refine fN rfl (EvN.mv (I s4.2.1) rfl) ?_
      obtain ⟨g8, h⟩ := gdD h
      obtain ⟨g9, h⟩ := gdW h
      refine fN rfl (EvN.quo rfl rfl g8 g9) ?_
      refine fN rfl (EvN.mv (eL Ximpl_Instr.c v1) rfl) ?_
      refine fN rfl (EvN.mv (I s4.2.2) rfl) ?_
      refine fN rfl (EvN.mv (eL Ximpl_Instr.c v1) rfl) ?_
      refine fN rfl (EvN.lenL sl78 rfl) ?_
      obtain ⟨g10, h⟩ := gdD h
      refine fN rfl (EvN.rem rfl rfl g10) ?_
      obtain ⟨g11, h⟩ := gdD h
      refine fN rfl (EvN.ixL sl78 rfl rfl g11 (fun _ => rfl)) ?_
      refine fN rfl (EvN.loadfp (.agg (Ximpl_Instr.c (v1.getD (s4.2.2.tmod (v1.length : Int)).toNat default))) ty81 rfl rfl) ?_
      refine fW 1 [] rfl rfl (fun G hG => EvA.mkOR (c := Ximpl_Instr.c) 1 ([(v1.getD (s4.2.2.tmod (v1.length : Int)).toNat default)] : List Ximpl_Instr) [[I ((v1.getD (s4.2.2.tmod (v1.length : Int)).toNat default).Op), I ((v1.getD (s4.2.2.tmod (v1.length : Int)).toNat default).Loc), I ((v1.getD (s4.2.2.tmod (v1.length : Int)).toNat default).Reg), I ((v1.getD (s4.2.2.tmod (v1.length : Int)).toNat default).Val)]] sl78 rfl rfl rfl (fun _ => rfl) Ximpl_Instr.isF rfl (hG.a0 rfl)) ?_
      refine fN rfl (EvN.mv (hS false 0 u6 1 s4.1.length) rfl) ?_
      refine fN rfl (EvN.mv (I s4.2.1) rfl) ?_
      refine fN rfl (EvN.quo rfl rfl g8 g9) ?_
      obtain ⟨g12, h⟩ := gdD h
      refine fN rfl (EvN.ixO (g := false) sl23 rfl rfl nofun g12) ?_
      refine fR [0] rfl (fun G hG => EvA.ldO (g := false) (l := s4.1) (eL Ximpl_Instr.c (s4.1.getD ((s4.2.1.tdiv (2 : Int)).toNat) default)) ty78 rfl (hG.a0 rfl) nofun (toNat_lt' rfl g12) rfl) ?_
      obtain ⟨g13, h⟩ := gdL h
      refine fW 1 [] rfl rfl (fun G hG => EvA.appF (l := ([(v1.getD (s4.2.2.tmod (v1.length : Int)).toNat default)] : List Ximpl_Instr)) (s4.1.getD ((s4.2.1.tdiv (2 : Int)).toNat) default) sl78 (by kernel_rfl) rfl rfl (hG.a0 rfl) (SrcOk.fz (l := (s4.1.getD ((s4.2.1.tdiv (2 : Int)).toNat) default)) rfl (fun _ => rfl)) g13) ?_
      refine fN rfl (EvN.ixO (g := false) sl23 rfl rfl nofun g12) ?_
      refine fV 0 [] rfl rfl (fun G hG => EvA.stS (g := false) (xs := s4.1) (cs := [hS false 1 (0 + 1) 4 ((([(v1.getD (s4.2.2.tmod (v1.length : Int)).toNat default)] : List Ximpl_Instr) ++ (s4.1.getD ((s4.2.1.tdiv (2 : Int)).toNat) default)).length)]) ty78 rfl rfl (hG.a0 rfl) nofun (toNat_lt' rfl g12) (fun _ => rfl) rfl rfl) ?_
      refine TF.nil ?_
      refine T.cut (e0 := envOf [(5, I s4.2.1), (4, hS false 0 u6 1 ((s4.1.set ((s4.2.1.tdiv (2 : Int)).toNat) (([(v1.getD (s4.2.2.tmod (v1.length : Int)).toNat default)] : List Ximpl_Instr) ++ (s4.1.getD ((s4.2.1.tdiv (2 : Int)).toNat) default))).length)), (3, eL Ximpl_Instr.c v1), (0, I s4.2.2)]) (H0 := [bE false u6 1 78 ((s4.1.set ((s4.2.1.tdiv (2 : Int)).toNat) (([(v1.getD (s4.2.2.tmod (v1.length : Int)).toNat default)] : List Ximpl_Instr) ++ (s4.1.getD ((s4.2.1.tdiv (2 : Int)).toNat) default))).map (cL Ximpl_Instr.c))]) (cutS rfl (.cons (.rows (.setM (f := (cL Ximpl_Instr.c)) (v := (([(v1.getD (s4.2.2.tmod (v1.length : Int)).toNat default)] : List Ximpl_Instr) ++ (s4.1.getD ((s4.2.1.tdiv (2 : Int)).toNat) default))) (fun _ => rfl) (.cons (.fz (Fz.own (g := false) (ver := 0 + 1) (l := (([(v1.getD (s4.2.2.tmod (v1.length : Int)).toNat default)] : List Ximpl_Instr) ++ (s4.1.getD ((s4.2.1.tdiv (2 : Int)).toNat) default))) rfl rfl rfl nofun Ximpl_Instr.isF)) .nil) s4.1 ((s4.2.1.tdiv (2 : Int)).toNat))) .nil) (stl_cons (.fz (.of_isF 9 _ rfl)) (stl_cons (.eqv (congrArg (hS false 0 u6 1) (by simp : s4.1.length = (s4.1.set ((s4.2.1.tdiv (2 : Int)).toNat) (([(v1.getD (s4.2.2.tmod (v1.length : Int)).toNat default)] : List Ximpl_Instr) ++ (s4.1.getD ((s4.2.1.tdiv (2 : Int)).toNat) default))).length)) (.hS (g := false) (b := 0) (ver := u6) (s := 1) (n := (s4.1.set ((s4.2.1.tdiv (2 : Int)).toNat) (([(v1.getD (s4.2.2.tmod (v1.length : Int)).toNat default)] : List Ximpl_Instr) ++ (s4.1.getD ((s4.2.1.tdiv (2 : Int)).toNat) default))).length) rfl)) (stl_cons (.fz (.of_isF 9 _ rfl)) (stl_cons (.fz (.of_isF 9 _ rfl)) stl_nil))))) ?_
      refine T.region ?_
      refine oN (EvN.mv (I s4.2.2) rfl) ?_
      refine oN (EvN.mv (eL Ximpl_Instr.c v1) rfl) ?_
      refine oN (EvN.lenL sl78 rfl) ?_
      obtain ⟨g14, h⟩ := gdW h
      refine oN (EvN.quo rfl rfl g10 g14) ?_
      refine oN (EvN.asg (I (s4.2.2.tdiv (v1.length : Int))) rfl) ?_
      refine TO.nil ?_
      refine T.region ?_
      refine oN (EvN.mv (I s4.2.1) rfl) ?_
      obtain ⟨g15, h⟩ := gdW h
      refine oN (EvN.sub rfl rfl g15) ?_
      refine oN (EvN.asg (I (s4.2.1 - (1 : Int))) rfl) ?_
      refine TO.nil ?_
      obtain rfl := Option.some.inj h
      exact ⟨((s4.1.set ((s4.2.1.tdiv (2 : Int)).toNat) (([(v1.getD (s4.2.2.tmod (v1.length : Int)).toNat default)] : List Ximpl_Instr) ++ (s4.1.getD ((s4.2.1.tdiv (2 : Int)).toNat) default))), (s4.2.1 - (1 : Int)), (s4.2.2.tdiv (v1.length : Int))), u6, rfl, trivial, cutW rfl (weak_cons rfl (weak_cons rfl (weak_cons rfl (weak_cons rfl weak_nil))))⟩
    · replace h := condF q7 h
      refine T.exit ?_
      refine ⟨_, (Option.some.inj h).symm, fun h => ?_⟩
      replace h := congrArg some h
      obtain rfl := Option.some.inj h
      exact ⟨u6, trivial, cutW rfl (weak_cons rfl weak_nil)⟩

theorem F_spec_DrawNumberOfTest_P (code : List Int) {q : (List (List Ximpl_Instr))} (h : F_spec_DrawNumberOfTest code = some q) : PCall Try.prog 11 [eL cY code] (eL (cL Ximpl_Instr.c) q) := by
  refine PCall.mkT Try.func11 rfl (by kernel_rfl) rfl (by kernel_rfl) (e0 := envOf [(0, eL cY code)]) (weak_cons rfl weak_nil) ?_
  refine T.seq ?_
  refine T.region ?_
  refine oN (EvN.asg (.nil) rfl) ?_
  refine TO.nil ?_
  refine T.seq ?_
  refine T.region ?_
  refine oN (EvN.mv (eL cY code) rfl) ?_
  obtain ⟨v1, cv1, h⟩ := bindL h
  refine oA (EvA.call rfl rfl rfl ((F_spec_l17Open_P code cv1).fresh rfl (rowsF_row rfl) 0 rfl)) ?_
  refine oN (EvN.asg (.hp 0 0 2 0 0) rfl) ?_
  refine TO.nil ?_
  refine T.seq ?_
  refine T.seq ?_
  refine T.region ?_
  refine oN (EvN.mv (.hp 0 0 2 0 0) rfl) ?_
  obtain ⟨v2, cv2, h⟩ := bindL h
  refine oA (EvA.call rfl rfl rfl ((F_spec_l17Rd_pick_P (⟨v1.b, v1.p⟩ : Xspec_l17Rd) (3 : Int) 0 cv2).one 0 rfl (.cons (.hp rfl) (.cons (.pF rfl) .nil)) (rowsF_row rfl) (rowsF_row rfl) rfl)) ?_
  refine oN (EvN.ieq rfl rfl) ?_
  refine TO.nil ?_
  refine T.cond rfl (fun q3 => ?_) (fun q3 => ?_)
  · replace h := condT q3 h
    refine T.seq ?_
    refine T.clean (H0 := [some ⟨0, 2, 126, [[eL cY v2.1.b, I v2.1.p]]⟩]) (e0 := envOf [(3, .hp 0 0 2 0 0)]) rfl (weak_cons rfl weak_nil) ?_
    refine T.region ?_
    refine oN (EvN.mv (.hp 0 0 2 0 0) rfl) ?_
    refine oN (EvN.mv (.hp 0 0 2 0 0) rfl) ?_
    obtain ⟨v4, cv4, h⟩ := bindL h
    refine oA (EvA.call rfl rfl rfl ((F_spec_l1Draw_P (⟨v2.1.b, v2.1.p⟩ : Xspec_l17Rd) 0 cv4).one 0 rfl (.cons (.hp rfl) .nil) (rowsF_row rfl) (rowsF_row rfl) rfl)) ?_
    obtain ⟨v5, cv5, h⟩ := bindL h
    refine oA (EvA.call rfl rfl rfl ((F_spec_l1Mutate_P (⟨v4.1.b, v4.1.p⟩ : Xspec_l17Rd) v4.2 0 cv5).one 0 rfl (.cons (.hp rfl) (.cons (.pF rfl) .nil)) (rowsF_row rfl) (rowsF_row rfl) rfl)) ?_
    refine oN (EvN.asg (eL (cL Ximpl_Instr.c) v5.2) rfl) ?_
    refine TO.nil ?_
    refine T.ret ?_
    obtain rfl := Option.some.inj h
    repeat first | refine retS ?_ | refine retB ?_
    exact Fin.ret (vs := [eL (cL Ximpl_Instr.c) v5.2]) (.cons (.tmp rfl) .nil) (.of_isF 9 _ rfl)
  · replace h := condF q3 h
    refine T.skip ?_
    refine T.seq ?_
    refine T.clean (H0 := [some ⟨0, 2, 126, [[eL cY v2.1.b, I v2.1.p]]⟩]) (e0 := envOf [(3, .hp 0 0 2 0 0)]) rfl (weak_cons rfl weak_nil) ?_
    refine T.region ?_
    refine oN (EvN.mv (.hp 0 0 2 0 0) rfl) ?_
    obtain ⟨v6, cv6, h⟩ := bindL h
    refine oA (EvA.call rfl rfl rfl ((F_spec_l17Rd_pick_P (⟨v2.1.b, v2.1.p⟩ : Xspec_l17Rd) (36 : Int) 0 cv6).one 0 rfl (.cons (.hp rfl) (.cons (.pF rfl) .nil)) (rowsF_row rfl) (rowsF_row rfl) rfl)) ?_
    obtain ⟨g7, h⟩ := gdW h
    refine oN (EvN.mul rfl rfl g7) ?_
    refine oN (EvN.mv (.hp 0 0 2 0 0) rfl) ?_
    obtain ⟨v8, cv8, h⟩ := bindL h
    refine oA (EvA.call rfl rfl rfl ((F_spec_l17Rd_pick_P (⟨v6.1.b, v6.1.p⟩ : Xspec_l17Rd) (36 : Int) 0 cv8).one 0 rfl (.cons (.hp rfl) (.cons (.pF rfl) .nil)) (rowsF_row rfl) (rowsF_row rfl) rfl)) ?_
    obtain ⟨g9, h⟩ := gdW h
    refine oN (EvN.add rfl rfl g9) ?_
    obtain ⟨v10, cv10, h⟩ := bindL h
    refine oN (EvN.call rfl rfl rfl (F_spec_l14Test_P ((v6.2 * (36 : Int)) + v8.2) cv10) rfl) ?_
    refine oN (EvN.asg (eL (cL Ximpl_Instr.c) v10) rfl) ?_
    refine TO.nil ?_
    refine T.ret ?_
    obtain rfl := Option.some.inj h
    repeat first | refine retS ?_ | refine retB ?_
    exact Fin.ret (vs := [eL (cL Ximpl_Instr.c) v10]) (.cons (.tmp rfl) .nil) (.of_isF 9 _ rfl)

theorem F_impl_SmallTests_P  {q : Int} (h : F_impl_SmallTests  = some q) : PCall Try.prog 66 [] (I q) := by
  refine PCall.mkT Try.func66 rfl (by kernel_rfl) rfl (by kernel_rfl) (e0 := envOf []) weak_nil ?_
  refine T.seq ?_
  refine T.region ?_
  refine oN (EvN.asg (I (0 : Int)) rfl) ?_
  refine TO.nil ?_
  refine T.seq ?_
  refine T.region ?_
  refine oN (EvN.asg (I (1296 : Int)) rfl) ?_
  refine TO.nil ?_
  refine T.ret ?_
  obtain rfl := Option.some.inj h
  repeat first | refine retS ?_ | refine retB ?_
  exact Fin.ret (vs := [I (1296 : Int)]) (.cons (.tmp rfl) .nil) (.of_isF 9 _ rfl)

theorem F_impl_within_P (x : Int) (low : Int) (high : Int) {q : Bool} (h : F_impl_within x low high = some q) : PCall Try.prog 65 [I x, I low, I high] (Bo q) := by
  refine PCall.mkT Try.func65 rfl (by kernel_rfl) rfl (by kernel_rfl) (e0 := envOf [(0, I x), (1, I low), (2, I high)]) (weak_cons rfl (weak_cons rfl (weak_cons rfl weak_nil))) ?_
  refine T.seq ?_
  refine T.region ?_
  refine oN (EvN.asg (Bo false) rfl) ?_
  refine TO.nil ?_
  refine T.seq ?_
  refine T.region ?_
  refine oN (EvN.mv (I x) rfl) ?_
  refine oN (EvN.mv (I low) rfl) ?_
  refine oN (EvN.ige rfl rfl) ?_
  refine oN (EvN.mv (Bo (decide (low ≤ x))) rfl) ?_
  obtain ⟨s1, h, ks1⟩ := bindL h
  refine TO.joinF (G := Unit) 4 (fun _ => True) (fun _ => [(14, Bo s1)]) (fun _ => []) ?_ (fun js1 => ?_)
  rotate_left
  · clear ks1
    rcases bifL h with ⟨q2, h⟩ | ⟨q2, h⟩
    · refine gN rfl q2 (EvN.mv (I x) rfl) ?_
      refine gN rfl q2 (EvN.mv (I high) rfl) ?_
      refine gN rfl q2 (EvN.ile rfl rfl) ?_
      refine oN (EvN.pickT rfl q2 (Bo (decide (x ≤ high))) rfl) ?_
      obtain rfl := Option.some.inj h
      exact js1 _ _ ⟨(), trivial, cutW rfl (weak_cons rfl weak_nil)⟩
    · refine gS rfl q2 ?_
      refine gS rfl q2 ?_
      refine gS rfl q2 ?_
      refine oN (EvN.pickF rfl q2 (Bo false) rfl) ?_
      obtain rfl := Option.some.inj h
      exact js1 _ _ ⟨(), trivial, cutW rfl (weak_cons rfl weak_nil)⟩
  · intro _ _
    replace h := ks1
    clear ks1
    refine oN (EvN.asg (Bo s1) rfl) ?_
    refine TO.nil ?_
    refine T.ret ?_
    obtain rfl := Option.some.inj h
    repeat first | refine retS ?_ | refine retB ?_
    exact Fin.ret (vs := [Bo s1]) (.cons (.tmp rfl) .nil) (.of_isF 9 _ rfl)

theorem F_impl_smallInstrs_P  {q : (List Ximpl_Instr)} (h : F_impl_smallInstrs  = some q) : PCall Try.prog 63 [] (eL Ximpl_Instr.c q) := by
  refine PCall.mkT Try.func63 rfl (by kernel_rfl) rfl (by kernel_rfl) (e0 := envOf []) weak_nil ?_
  refine T.seq ?_
  refine T.region ?_
  refine oN (EvN.asg (.nil) rfl) ?_
  refine TO.nil ?_
  refine T.seq ?_
  refine T.region ?_
  refine oN (EvN.build [I (2 : Int), I (0 : Int), I (0 : Int), I (1 : Int)] Try.underlying81 zs81 fs81 rfl rfl) ?_
  refine oN (EvN.build [I (2 : Int), I (1 : Int), I (0 : Int), I (1 : Int)] Try.underlying81 zs81 fs81 rfl rfl) ?_
  refine oN (EvN.build [I (1 : Int), I (0 : Int), I (0 : Int), I (0 : Int)] Try.underlying81 zs81 fs81 rfl rfl) ?_
  refine oN (EvN.build [I (1 : Int), I (1 : Int), I (1 : Int), I (0 : Int)] Try.underlying81 zs81 fs81 rfl rfl) ?_
  refine oN (EvN.build [I (4 : Int), I (0 : Int), I (0 : Int), I (0 : Int)] Try.underlying81 zs81 fs81 rfl rfl) ?_
  refine oN (EvN.build [I (5 : Int), I (0 : Int), I (2 : Int), I (2 : Int)] Try.underlying81 zs81 fs81 rfl rfl) ?_
  refine oN (EvN.mkF (c := Ximpl_Instr.c) ([(⟨(2 : Int), (0 : Int), (0 : Int), (1 : Int)⟩ : Ximpl_Instr), (⟨(2 : Int), (1 : Int), (0 : Int), (1 : Int)⟩ : Ximpl_Instr), (⟨(1 : Int), (0 : Int), (0 : Int), (0 : Int)⟩ : Ximpl_Instr), (⟨(1 : Int), (1 : Int), (1 : Int), (0 : Int)⟩ : Ximpl_Instr), (⟨(4 : Int), (0 : Int), (0 : Int), (0 : Int)⟩ : Ximpl_Instr), (⟨(5 : Int), (0 : Int), (2 : Int), (2 : Int)⟩ : Ximpl_Instr)] : List Ximpl_Instr) [[I (2 : Int), I (0 : Int), I (0 : Int), I (1 : Int)], [I (2 : Int), I (1 : Int), I (0 : Int), I (1 : Int)], [I (1 : Int), I (0 : Int), I (0 : Int), I (0 : Int)], [I (1 : Int), I (1 : Int), I (1 : Int), I (0 : Int)], [I (4 : Int), I (0 : Int), I (0 : Int), I (0 : Int)], [I (5 : Int), I (0 : Int), I (2 : Int), I (2 : Int)]] sl78 rfl rfl rfl (fun _ => rfl) Ximpl_Instr.isF rfl) ?_
  refine oN (EvN.asg (eL Ximpl_Instr.c ([(⟨(2 : Int), (0 : Int), (0 : Int), (1 : Int)⟩ : Ximpl_Instr), (⟨(2 : Int), (1 : Int), (0 : Int), (1 : Int)⟩ : Ximpl_Instr), (⟨(1 : Int), (0 : Int), (0 : Int), (0 : Int)⟩ : Ximpl_Instr), (⟨(1 : Int), (1 : Int), (1 : Int), (0 : Int)⟩ : Ximpl_Instr), (⟨(4 : Int), (0 : Int), (0 : Int), (0 : Int)⟩ : Ximpl_Instr), (⟨(5 : Int), (0 : Int), (2 : Int), (2 : Int)⟩ : Ximpl_Instr)] : List Ximpl_Instr)) rfl) ?_
  refine TO.nil ?_
  refine T.ret ?_
  obtain rfl := Option.some.inj h
  repeat first | refine retS ?_ | refine retB ?_
  exact Fin.ret (vs := [eL Ximpl_Instr.c ([(⟨(2 : Int), (0 : Int), (0 : Int), (1 : Int)⟩ : Ximpl_Instr), (⟨(2 : Int), (1 : Int), (0 : Int), (1 : Int)⟩ : Ximpl_Instr), (⟨(1 : Int), (0 : Int), (0 : Int), (0 : Int)⟩ : Ximpl_Instr), (⟨(1 : Int), (1 : Int), (1 : Int), (0 : Int)⟩ : Ximpl_Instr), (⟨(4 : Int), (0 : Int), (0 : Int), (0 : Int)⟩ : Ximpl_Instr), (⟨(5 : Int), (0 : Int), (2 : Int), (2 : Int)⟩ : Ximpl_Instr)] : List Ximpl_Instr)]) (.cons (.tmp rfl) .nil) (.of_isF 9 _ rfl)

theorem F_impl_smallTest_P (n : Int) {q : (List (List Ximpl_Instr))} (h : F_impl_smallTest n = some q) : PCall Try.prog 67 [I n] (eL (cL Ximpl_Instr.c) q) := by
  refine PCall.mkT Try.func67 rfl (by kernel_rfl) rfl (by kernel_rfl) (e0 := envOf [(0, I n)]) (weak_cons rfl weak_nil) ?_
  refine T.seq ?_
  refine T.region ?_
  refine oN (EvN.asg (.nil) rfl) ?_
  refine TO.nil ?_
  refine T.seq ?_
  refine T.region ?_
  obtain ⟨v1, cv1, h⟩ := bindL h
  refine oN (EvN.call rfl rfl rfl (F_impl_smallInstrs_P  cv1) rfl) ?_
  refine oN (EvN.asg (eL Ximpl_Instr.c v1) rfl) ?_
  refine TO.nil ?_
  refine T.seq ?_
  refine T.drawF (fun _ => ([], false)) (by kernel_rfl) (by kernel_rfl) ?_
  refine fN rfl (EvN.mv (eL Ximpl_Instr.c v1) rfl) ?_
  refine fN rfl (EvN.mv (I n) rfl) ?_
  obtain ⟨g2, h⟩ := gdD h
  obtain ⟨g3, h⟩ := gdW h
  refine fN rfl (EvN.quo rfl rfl g2 g3) ?_
  obtain ⟨g4, h⟩ := gdD h
  refine fN rfl (EvN.ixL sl78 rfl rfl g4 (fun _ => rfl)) ?_
  refine fN rfl (EvN.loadfp (.agg (Ximpl_Instr.c (v1.getD (n.tdiv (216 : Int)).toNat default))) ty81 rfl rfl) ?_
  refine fN rfl (EvN.mv (eL Ximpl_Instr.c v1) rfl) ?_
  refine fN rfl (EvN.mv (I n) rfl) ?_
  obtain ⟨g5, h⟩ := gdD h
  obtain ⟨g6, h⟩ := gdW h
  refine fN rfl (EvN.quo rfl rfl g5 g6) ?_
  obtain ⟨g7, h⟩ := gdD h
  refine fN rfl (EvN.rem rfl rfl g7) ?_
  obtain ⟨g8, h⟩ := gdD h
  refine fN rfl (EvN.ixL sl78 rfl rfl g8 (fun _ => rfl)) ?_
  refine fN rfl (EvN.loadfp (.agg (Ximpl_Instr.c (v1.getD ((n.tdiv (36 : Int)).tmod (6 : Int)).toNat default))) ty81 rfl rfl) ?_
  refine fN rfl (EvN.mkF (c := Ximpl_Instr.c) ([(v1.getD (n.tdiv (216 : Int)).toNat default), (v1.getD ((n.tdiv (36 : Int)).tmod (6 : Int)).toNat default)] : List Ximpl_Instr) [[I ((v1.getD (n.tdiv (216 : Int)).toNat default).Op), I ((v1.getD (n.tdiv (216 : Int)).toNat default).Loc), I ((v1.getD (n.tdiv (216 : Int)).toNat default).Reg), I ((v1.getD (n.tdiv (216 : Int)).toNat default).Val)], [I ((v1.getD ((n.tdiv (36 : Int)).tmod (6 : Int)).toNat default).Op), I ((v1.getD ((n.tdiv (36 : Int)).tmod (6 : Int)).toNat default).Loc), I ((v1.getD ((n.tdiv (36 : Int)).tmod (6 : Int)).toNat default).Reg), I ((v1.getD ((n.tdiv (36 : Int)).tmod (6 : Int)).toNat default).Val)]] sl78 rfl rfl rfl (fun _ => rfl) Ximpl_Instr.isF rfl) ?_
  refine fN rfl (EvN.mv (eL Ximpl_Instr.c v1) rfl) ?_
  refine fN rfl (EvN.mv (I n) rfl) ?_
  obtain ⟨g9, h⟩ := gdW h
  refine fN rfl (EvN.quo rfl rfl g7 g9) ?_
  refine fN rfl (EvN.rem rfl rfl g7) ?_
  obtain ⟨g10, h⟩ := gdD h
  refine fN rfl (EvN.ixL sl78 rfl rfl g10 (fun _ => rfl)) ?_
  refine fN rfl (EvN.loadfp (.agg (Ximpl_Instr.c (v1.getD ((n.tdiv (6 : Int)).tmod (6 : Int)).toNat default))) ty81 rfl rfl) ?_
  refine fN rfl (EvN.mv (eL Ximpl_Instr.c v1) rfl) ?_
  refine fN rfl (EvN.mv (I n) rfl) ?_
  refine fN rfl (EvN.rem rfl rfl g7) ?_
  obtain ⟨g11, h⟩ := gdD h
  refine fN rfl (EvN.ixL sl78 rfl rfl g11 (fun _ => rfl)) ?_
  refine fN rfl (EvN.loadfp (.agg (Ximpl_Instr.c (v1.getD (n.tmod (6 : Int)).toNat default))) ty81 rfl rfl) ?_
  refine fN rfl (EvN.mkF (c := Ximpl_Instr.c) ([(v1.getD ((n.tdiv (6 : Int)).tmod (6 : Int)).toNat default), (v1.getD (n.tmod (6 : Int)).toNat default)] : List Ximpl_Instr) [[I ((v1.getD ((n.tdiv (6 : Int)).tmod (6 : Int)).toNat default).Op), I ((v1.getD ((n.tdiv (6 : Int)).tmod (6 : Int)).toNat default).Loc), I ((v1.getD ((n.tdiv (6 : Int)).tmod (6 : Int)).toNat default).Reg), I ((v1.getD ((n.tdiv (6 : Int)).tmod (6 : Int)).toNat default).Val)], [I ((v1.getD (n.tmod (6 : Int)).toNat default).Op), I ((v1.getD (n.tmod (6 : Int)).toNat default).Loc), I ((v1.getD (n.tmod (6 : Int)).toNat default).Reg), I ((v1.getD (n.tmod (6 : Int)).toNat default).Val)]] sl78 rfl rfl rfl (fun _ => rfl) Ximpl_Instr.isF rfl) ?_
  refine fN rfl (EvN.mkF (c := (cL Ximpl_Instr.c)) ([([(v1.getD (n.tdiv (216 : Int)).toNat default), (v1.getD ((n.tdiv (36 : Int)).tmod (6 : Int)).toNat default)] : List Ximpl_Instr), ([(v1.getD ((n.tdiv (6 : Int)).tmod (6 : Int)).toNat default), (v1.getD (n.tmod (6 : Int)).toNat default)] : List Ximpl_Instr)] : List (List Ximpl_Instr)) [[eL Ximpl_Instr.c ([(v1.getD (n.tdiv (216 : Int)).toNat default), (v1.getD ((n.tdiv (36 : Int)).tmod (6 : Int)).toNat default)] : List Ximpl_Instr)], [eL Ximpl_Instr.c ([(v1.getD ((n.tdiv (6 : Int)).tmod (6 : Int)).toNat default), (v1.getD (n.tmod (6 : Int)).toNat default)] : List Ximpl_Instr)]] sl23 rfl rfl rfl (fun _ => rfl) (fun _ => rfl) rfl) ?_
  refine fN rfl (EvN.asg (eL (cL Ximpl_Instr.c) ([([(v1.getD (n.tdiv (216 : Int)).toNat default), (v1.getD ((n.tdiv (36 : Int)).tmod (6 : Int)).toNat default)] : List Ximpl_Instr), ([(v1.getD ((n.tdiv (6 : Int)).tmod (6 : Int)).toNat default), (v1.getD (n.tmod (6 : Int)).toNat default)] : List Ximpl_Instr)] : List (List Ximpl_Instr))) rfl) ?_
  refine TF.nil ?_
  refine T.ret ?_
  obtain rfl := Option.some.inj h
  repeat first | refine retS ?_ | refine retB ?_
  exact Fin.ret (vs := [eL (cL Ximpl_Instr.c) ([([(v1.getD (n.tdiv (216 : Int)).toNat default), (v1.getD ((n.tdiv (36 : Int)).tmod (6 : Int)).toNat default)] : List Ximpl_Instr), ([(v1.getD ((n.tdiv (6 : Int)).tmod (6 : Int)).toNat default), (v1.getD (n.tmod (6 : Int)).toNat default)] : List Ximpl_Instr)] : List (List Ximpl_Instr))]) (.cons (.tmp rfl) .nil) (.of_isF 9 _ rfl)

theorem F_impl_SmallTest_P (n : Int) {q : (List (List Ximpl_Instr)) × Bool} (h : F_impl_SmallTest n = some q) : PCall Try.prog 14 [I n] (.tup [eL (cL Ximpl_Instr.c) q.1, Bo q.2]) := by
  refine PCall.mkT Try.func14 rfl (by kernel_rfl) rfl (by kernel_rfl) (e0 := envOf [(0, I n)]) (weak_cons rfl weak_nil) ?_
  refine T.seq ?_
  refine T.region ?_
  refine oN (EvN.asg (.nil) rfl) ?_
  refine oN (EvN.asg (Bo false) rfl) ?_
  refine TO.nil ?_
  refine T.seq ?_
  refine T.seq ?_
  refine T.region ?_
  refine oN (EvN.mv (I n) rfl) ?_
  obtain ⟨v1, cv1, h⟩ := bindL h
  refine oN (EvN.call rfl rfl rfl (F_impl_SmallTests_P  cv1) rfl) ?_
  obtain ⟨g2, h⟩ := gdW h
  refine oN (EvN.sub rfl rfl g2) ?_
  obtain ⟨v3, cv3, h⟩ := bindL h
  refine oN (EvN.call rfl rfl rfl (F_impl_within_P n (0 : Int) (v1 - (1 : Int)) cv3) rfl) ?_
  refine oN (EvN.not rfl) ?_
  refine TO.nil ?_
  refine T.cond rfl (fun q4 => ?_) (fun q4 => ?_)
  · replace h := condT q4 h
    refine T.seq ?_
    refine T.clean (H0 := []) (e0 := envOf []) rfl weak_nil ?_
    refine T.region ?_
    refine oN (EvN.asg (.nil) rfl) ?_
    refine oN (EvN.asg (Bo false) rfl) ?_
    refine TO.nil ?_
    refine T.ret ?_
    obtain rfl := Option.some.inj h
    repeat first | refine retS ?_ | refine retB ?_
    exact Fin.ret (vs := [.nil, Bo false]) (.cons (.tmp rfl) (.cons (.tmp rfl) .nil)) (.tupL (.cons .nil0 (.cons (.of_isF 9 _ rfl) .nil)))
  · replace h := condF q4 h
    refine T.skip ?_
    refine T.seq ?_
    refine T.clean (H0 := []) (e0 := envOf [(0, I n)]) rfl (weak_cons rfl weak_nil) ?_
    refine T.region ?_
    refine oN (EvN.mv (I n) rfl) ?_
    obtain ⟨v5, cv5, h⟩ := bindL h
    refine oN (EvN.call rfl rfl rfl (F_impl_smallTest_P n cv5) rfl) ?_
    refine oN (EvN.asg (eL (cL Ximpl_Instr.c) v5) rfl) ?_
    refine oN (EvN.asg (Bo true) rfl) ?_
    refine TO.nil ?_
    refine T.ret ?_
    obtain rfl := Option.some.inj h
    repeat first | refine retS ?_ | refine retB ?_
    exact Fin.ret (vs := [eL (cL Ximpl_Instr.c) v5, Bo true]) (.cons (.tmp rfl) (.cons (.tmp rfl) .nil)) (.tupL (.cons (.of_isF 9 _ rfl) (.cons (.of_isF 9 _ rfl) .nil)))

theorem F_laws_FnNumberOfTest_P (code : List Int) {q : Bool} (h : F_laws_FnNumberOfTest code = some q) : PCall Try.prog 3 [eL cY code] (Bo q) := by
  refine PCall.mkT Try.func3 rfl (by kernel_rfl) rfl (by kernel_rfl) (e0 := envOf [(0, eL cY code)]) (weak_cons rfl weak_nil) ?_
  refine T.seq ?_
  refine T.region ?_
  refine oN (EvN.asg (Bo false) rfl) ?_
  refine TO.nil ?_
  refine T.seq ?_
  refine T.seq ?_
  refine T.region ?_
  refine oN (EvN.mv (eL cY code) rfl) ?_
  refine oN (EvN.lenL sl22 rfl) ?_
  refine oN (EvN.igt rfl rfl) ?_
  refine TO.nil ?_
  refine T.cond rfl (fun q1 => ?_) (fun q1 => ?_)
  · replace h := condT q1 h
    refine T.seq ?_
    refine T.region ?_
    refine oN (EvN.asg (Bo true) rfl) ?_
    refine TO.nil ?_
    refine T.ret ?_
    obtain rfl := Option.some.inj h
    repeat first | refine retS ?_ | refine retB ?_
    exact Fin.ret (vs := [Bo true]) (.cons (.tmp rfl) .nil) (.of_isF 9 _ rfl)
  · replace h := condF q1 h
    refine T.skip ?_
    refine T.seq ?_
    refine T.region ?_
    refine oN (EvN.mv (eL cY code) rfl) ?_
    obtain ⟨v2, cv2, h⟩ := bindL h
    refine oN (EvN.call rfl rfl rfl (F_spec_DrawNumberOfTest_P code cv2) rfl) ?_
    refine oN (EvN.asg (eL (cL Ximpl_Instr.c) v2) rfl) ?_
    refine TO.nil ?_
    refine T.seq ?_
    refine T.clean (H0 := []) (e0 := envOf [(3, eL (cL Ximpl_Instr.c) v2)]) rfl (weak_cons rfl weak_nil) ?_
    refine T.region ?_
    refine oN (EvN.mv (eL (cL Ximpl_Instr.c) v2) rfl) ?_
    obtain ⟨v3, cv3, h⟩ := bindL h
    refine oN (EvN.call rfl rfl rfl (F_impl_NumberOfTest_P v2 cv3) rfl) ?_
    refine oN (EvN.mv (.tup [I v3.1, Bo v3.2]) rfl) ?_
    refine oN (EvN.ext (I v3.1) rfl rfl) ?_
    refine oN (EvN.ext (Bo v3.2) rfl rfl) ?_
    refine oN (EvN.asg (I v3.1) rfl) ?_
    refine oN (EvN.asg (Bo v3.2) rfl) ?_
    refine TO.nil ?_
    refine T.seq ?_
    refine T.region ?_
    refine oN (EvN.mv (eL (cL Ximpl_Instr.c) v2) rfl) ?_
    obtain ⟨v4, cv4, h⟩ := bindL h
    refine oN (EvN.call rfl rfl rfl (F_spec_NumberOfTest_P v2 cv4) rfl) ?_
    refine oN (EvN.mv (.tup [I v4.1, Bo v4.2]) rfl) ?_
    refine oN (EvN.ext (I v4.1) rfl rfl) ?_
    refine oN (EvN.ext (Bo v4.2) rfl rfl) ?_
    refine oN (EvN.asg (I v4.1) rfl) ?_
    refine oN (EvN.asg (Bo v4.2) rfl) ?_
    refine TO.nil ?_
    refine T.seq ?_
    refine T.seq ?_
    refine T.clean (H0 := []) (e0 := envOf [(7, Bo v4.2), (6, I v4.1), (5, Bo v3.2), (4, I v3.1), (3, eL (cL Ximpl_Instr.c) v2)]) rfl (weak_cons rfl (weak_cons rfl (weak_cons rfl (weak_cons rfl (weak_cons rfl weak_nil))))) ?_
    refine T.region ?_
    refine oN (EvN.mv (Bo v3.2) rfl) ?_
    refine oN (EvN.mv (Bo v4.2) rfl) ?_
    refine oN (EvN.bne bt4 rfl rfl) ?_
    refine oN (EvN.mv (Bo (!(v3.2 == v4.2))) rfl) ?_
    obtain ⟨s5, h, ks5⟩ := bindL h
    refine TO.joinF (G := Unit) 4 (fun _ => True) (fun _ => [(32, Bo s5), (7, Bo v4.2), (6, I v4.1), (5, Bo v3.2), (4, I v3.1), (3, eL (cL Ximpl_Instr.c) v2)]) (fun _ => []) ?_ (fun js5 => ?_)
    rotate_left
    · clear ks5
      rcases bifL h with ⟨q6, h⟩ | ⟨q6, h⟩
      · refine gS rfl q6 ?_
        refine gS rfl q6 ?_
        refine gS rfl q6 ?_
        refine oN (EvN.pickT rfl q6 (Bo true) rfl) ?_
        obtain rfl := Option.some.inj h
        exact js5 _ _ ⟨(), trivial, cutW rfl (weak_cons rfl (weak_cons rfl (weak_cons rfl (weak_cons rfl (weak_cons rfl (weak_cons rfl weak_nil))))))⟩
      · refine gN rfl q6 (EvN.mv (I v3.1) rfl) ?_
        refine gN rfl q6 (EvN.mv (I v4.1) rfl) ?_
        refine gN rfl q6 (EvN.ine rfl rfl) ?_
        refine oN (EvN.pickF rfl q6 (Bo (v3.1 != v4.1)) rfl) ?_
        obtain rfl := Option.some.inj h
        exact js5 _ _ ⟨(), trivial, cutW rfl (weak_cons rfl (weak_cons rfl (weak_cons rfl (weak_cons rfl (weak_cons rfl (weak_cons rfl weak_nil))))))⟩
    · intro _ _
      replace h := ks5
      clear ks5
      refine oN (EvN.mv (Bo s5) rfl) ?_
      obtain ⟨s7, h, ks7⟩ := bindL h
      refine TO.joinF (G := Unit) 3 (fun _ => True) (fun _ => [(36, Bo s7), (7, Bo v4.2), (6, I v4.1), (5, Bo v3.2), (4, I v3.1), (3, eL (cL Ximpl_Instr.c) v2)]) (fun _ => []) ?_ (fun js7 => ?_)
      rotate_left
      · clear ks7
        rcases bifL h with ⟨q8, h⟩ | ⟨q8, h⟩
        · refine gS rfl q8 ?_
          refine gS rfl q8 ?_
          refine oN (EvN.pickT rfl q8 (Bo true) rfl) ?_
          obtain rfl := Option.some.inj h
          exact js7 _ _ ⟨(), trivial, cutW rfl (weak_cons rfl (weak_cons rfl (weak_cons rfl (weak_cons rfl (weak_cons rfl (weak_cons rfl weak_nil))))))⟩
        · refine gN rfl q8 (EvN.mv (Bo v3.2) rfl) ?_
          refine gN rfl q8 (EvN.not rfl) ?_
          refine oN (EvN.pickF rfl q8 (Bo (!v3.2)) rfl) ?_
          obtain rfl := Option.some.inj h
          exact js7 _ _ ⟨(), trivial, cutW rfl (weak_cons rfl (weak_cons rfl (weak_cons rfl (weak_cons rfl (weak_cons rfl (weak_cons rfl weak_nil))))))⟩
      · intro _ _
        replace h := ks7
        clear ks7
        refine TO.nil ?_
        refine T.cond rfl (fun q9 => ?_) (fun q9 => ?_)
        · replace h := condT q9 h
          refine T.seq ?_
          refine T.region ?_
          refine oN (EvN.mv (Bo v3.2) rfl) ?_
          refine oN (EvN.mv (Bo v4.2) rfl) ?_
          refine oN (EvN.beq bt4 rfl rfl) ?_
          refine oN (EvN.mv (Bo (v3.2 == v4.2)) rfl) ?_
          obtain ⟨s10, h, ks10⟩ := bindL h
          refine TO.joinF (G := Unit) 4 (fun _ => True) (fun _ => [(44, Bo s10)]) (fun _ => []) ?_ (fun js10 => ?_)
          rotate_left
          · clear ks10
            rcases bifL h with ⟨q11, h⟩ | ⟨q11, h⟩
            · refine gN rfl q11 (EvN.mv (I v3.1) rfl) ?_
              refine gN rfl q11 (EvN.mv (I v4.1) rfl) ?_
              refine gN rfl q11 (EvN.ieq rfl rfl) ?_
              refine oN (EvN.pickT rfl q11 (Bo (v3.1 == v4.1)) rfl) ?_
              obtain rfl := Option.some.inj h
              exact js10 _ _ ⟨(), trivial, cutW rfl (weak_cons rfl weak_nil)⟩
            · refine gS rfl q11 ?_
              refine gS rfl q11 ?_
              refine gS rfl q11 ?_
              refine oN (EvN.pickF rfl q11 (Bo false) rfl) ?_
              obtain rfl := Option.some.inj h
              exact js10 _ _ ⟨(), trivial, cutW rfl (weak_cons rfl weak_nil)⟩
          · intro _ _
            replace h := ks10
            clear ks10
            refine oN (EvN.asg (Bo s10) rfl) ?_
            refine TO.nil ?_
            refine T.ret ?_
            obtain rfl := Option.some.inj h
            repeat first | refine retS ?_ | refine retB ?_
            exact Fin.ret (vs := [Bo s10]) (.cons (.tmp rfl) .nil) (.of_isF 9 _ rfl)
        · replace h := condF q9 h
          refine T.skip ?_
          refine T.seq ?_
          refine T.region ?_
          refine oN (EvN.mv (I v3.1) rfl) ?_
          obtain ⟨v12, cv12, h⟩ := bindL h
          refine oN (EvN.call rfl rfl rfl (F_impl_SmallTest_P v3.1 cv12) rfl) ?_
          refine oN (EvN.mv (.tup [eL (cL Ximpl_Instr.c) v12.1, Bo v12.2]) rfl) ?_
          refine oN (EvN.ext (eL (cL Ximpl_Instr.c) v12.1) rfl rfl) ?_
          refine oN (EvN.ext (Bo v12.2) rfl rfl) ?_
          refine oN (EvN.asg (eL (cL Ximpl_Instr.c) v12.1) rfl) ?_
          refine oN (EvN.asg (Bo v12.2) rfl) ?_
          refine TO.nil ?_
          refine T.seq ?_
          refine T.clean (H0 := []) (e0 := envOf [(9, Bo v12.2), (8, eL (cL Ximpl_Instr.c) v12.1), (3, eL (cL Ximpl_Instr.c) v2)]) rfl (weak_cons rfl (weak_cons rfl (weak_cons rfl weak_nil))) ?_
          refine T.region ?_
          refine oN (EvN.mv (Bo v12.2) rfl) ?_
          refine oN (EvN.mv (Bo v12.2) rfl) ?_
          obtain ⟨s13, h, ks13⟩ := bindL h
          refine TO.joinF (G := Unit) 4 (fun _ => True) (fun _ => [(55, Bo s13)]) (fun _ => []) ?_ (fun js13 => ?_)
          rotate_left
          · clear ks13
            rcases bifL h with ⟨q14, h⟩ | ⟨q14, h⟩
            · refine gN rfl q14 (EvN.mv (eL (cL Ximpl_Instr.c) v12.1) rfl) ?_
              refine gN rfl q14 (EvN.mv (eL (cL Ximpl_Instr.c) v2) rfl) ?_
              obtain ⟨v15, cv15, h⟩ := bindL h
              refine gN rfl q14 (EvN.call rfl rfl rfl (F_impl_ProgramSame_P v12.1 v2 cv15) rfl) ?_
              refine oN (EvN.pickT rfl q14 (Bo v15) rfl) ?_
              obtain rfl := Option.some.inj h
              exact js13 _ _ ⟨(), trivial, cutW rfl (weak_cons rfl weak_nil)⟩
            · refine gS rfl q14 ?_
              refine gS rfl q14 ?_
              refine gS rfl q14 ?_
              refine oN (EvN.pickF rfl q14 (Bo false) rfl) ?_
              obtain rfl := Option.some.inj h
              exact js13 _ _ ⟨(), trivial, cutW rfl (weak_cons rfl weak_nil)⟩
          · intro _ _
            replace h := ks13
            clear ks13
            refine oN (EvN.asg (Bo s13) rfl) ?_
            refine TO.nil ?_
            refine T.ret ?_
            obtain rfl := Option.some.inj h
            repeat first | refine retS ?_ | refine retB ?_
            exact Fin.ret (vs := [Bo s13]) (.cons (.tmp rfl) .nil) (.of_isF 9 _ rfl)
end Go.Proofs.Ytjogdblionfmiaa
