/-
  The program's code computes the functions over plain values; printed by lift.py. No conditions.
-/
import Derived.Test.YtjogdblionfmiaaS21d
import Derived.Test.YtjogdblionfmiaaSf
import Derived.Test.YtjogdblionfmiaaL15
import Derived.Test.YtjogdblionfmiaaBrDi
import Derived.Test.YtjogdblionfmiaaBrV
import Derived.Test.YtjogdblionfmiaaMu2
import Derived.Test.YtjogdblionfmiaaSQ1
import Derived.Test.YtjogdblionfmiaaSR1
namespace Go.Proofs.Ytjogdblionfmiaa
open Go.RowKit
set_option maxRecDepth 100000
theorem F_spec_l9Gaps_P (p : List (List Ximpl_Instr)) {q : (List Ximpl_Gap)} (h : F_spec_l9Gaps p = some q) : PCall Try.prog 195 [eL (cL Ximpl_Instr.c) p] (eL Ximpl_Gap.c q) := by
  refine PCall.mkT Try.func195 rfl (by kernel_rfl) rfl (by kernel_rfl) (e0 := envOf [(0, eL (cL Ximpl_Instr.c) p)]) (weak_cons rfl weak_nil) ?_
  refine T.seq ?_
  refine T.region ?_
  refine oN (EvN.asg (.nil) rfl) ?_
  refine TO.nil ?_
  refine T.seq ?_
  refine T.region ?_
  refine oA (EvA.mkO (c := Ximpl_Gap.c) ([] : List Ximpl_Gap) [] sl93 rfl rfl rfl (fun _ => rfl) rfl rfl) ?_
  refine oN (EvN.asg (hS false 0 0 2 (([] : List Ximpl_Gap).length)) rfl) ?_
  refine TO.nil ?_
  obtain ⟨s1, h, ks1⟩ := bindL h
  refine T.joinF (G := Nat) (fun gh => True) (fun gh => [(3, hS false 0 gh 2 s1.length)]) (fun gh => [bE false gh 2 96 (s1.map Ximpl_Gap.c)]) (fun u26 hg => ?_) ?_
  · clear h
    have h := ks1
    clear ks1
    refine T.seq ?_
    refine T.region ?_
    refine oN (EvN.mv (hS false 0 u26 2 s1.length) rfl) ?_
    refine oN (EvN.asg (hS false 0 u26 2 s1.length) rfl) ?_
    refine TO.nil ?_
    refine T.ret ?_
    obtain rfl := Option.some.inj h
    repeat first | refine retS ?_ | refine retB ?_
    exact Fin.ret (vs := [hS false 0 u26 2 s1.length]) (.cons (.tmp rfl) .nil) (Fz.own (g := false) (ver := u26) (l := s1) rfl rfl rfl nofun Ximpl_Gap.isF)
  · clear ks1
    refine T.seq ?_
    refine T.region ?_
    refine oN (EvN.asg (I (0 : Int)) rfl) ?_
    refine TO.nil ?_
    refine T.block ?_
    refine T.loop (S := (List Ximpl_Gap) × Int) (G := Nat) (F_spec_l9Gaps_L4 p) (fun s3 gh => True) (fun s3 gh => [(4, I s3.2), (3, hS false 0 gh 2 s3.1.length), (0, eL (cL Ximpl_Instr.c) p)]) (fun s3 gh => [bE false gh 2 96 (s3.1.map Ximpl_Gap.c)]) (s0 := (([] : List Ximpl_Gap), (0 : Int))) 0 h trivial (cutW rfl (weak_cons rfl (weak_cons rfl (weak_cons rfl weak_nil)))) (fun s3 u5 ws3 h hg => ?_)
    refine T.seq ?_
    refine T.seq ?_
    refine T.region ?_
    refine oN (EvN.mv (I s3.2) rfl) ?_
    refine oN (EvN.mv (eL (cL Ximpl_Instr.c) p) rfl) ?_
    refine oN (EvN.lenL sl23 rfl) ?_
    refine oN (EvN.ilt rfl rfl) ?_
    refine TO.nil ?_
    refine T.cond rfl (fun q6 => ?_) (fun q6 => ?_)
    · replace h := condT q6 h
      refine T.skip ?_
      obtain ⟨s7, h, ks7⟩ := bindL h
      refine T.joinF (G := Nat) (fun gh => True) (fun gh => [(4, I s3.2), (3, hS false 0 gh 2 s7.length), (0, eL (cL Ximpl_Instr.c) p)]) (fun gh => [bE false gh 2 96 (s7.map Ximpl_Gap.c)]) (fun u24 hg => ?_) ?_
      · clear h
        have h := ks7
        clear ks7
        refine T.region ?_
        refine oN (EvN.mv (I s3.2) rfl) ?_
        obtain ⟨g25, h⟩ := gdW h
        refine oN (EvN.add rfl rfl g25) ?_
        refine oN (EvN.asg (I (s3.2 + (1 : Int))) rfl) ?_
        refine TO.nil ?_
        obtain rfl := Option.some.inj h
        exact ⟨(s7, (s3.2 + (1 : Int))), u24, rfl, trivial, cutW rfl (weak_cons rfl (weak_cons rfl (weak_cons rfl weak_nil)))⟩
      · clear ks7
        refine T.block ?_
        refine T.seq ?_
        refine T.region ?_
        refine oN (EvN.asg (I (1 : Int)) rfl) ?_
        refine TO.nil ?_
        refine T.block ?_
        refine T.loop (S := (List Ximpl_Gap) × Int) (G := Nat) (F_spec_l9Gaps_L10 p s3) (fun s9 gh => True) (fun s9 gh => [(5, I s9.2), (4, I s3.2), (3, hS false 0 gh 2 s9.1.length), (0, eL (cL Ximpl_Instr.c) p)]) (fun s9 gh => [bE false gh 2 96 (s9.1.map Ximpl_Gap.c)]) (s0 := (s3.1, (1 : Int))) u5 h trivial (cutW rfl (weak_cons rfl (weak_cons rfl (weak_cons rfl (weak_cons rfl weak_nil))))) (fun s9 u11 ws9 h hg => ?_)
        refine T.seq ?_
        refine T.seq ?_
        refine T.region ?_
        refine oN (EvN.mv (I s9.2) rfl) ?_
        refine oN (EvN.mv (eL (cL Ximpl_Instr.c) p) rfl) ?_
        refine oN (EvN.mv (I s3.2) rfl) ?_
        obtain ⟨g12, h⟩ := gdD h
        refine oN (EvN.ixL sl23 rfl rfl g12 (fun _ => rfl)) ?_
        refine oN (EvN.loadfp (eL Ximpl_Instr.c (p.getD s3.2.toNat default)) ty78 rfl rfl) ?_
        refine oN (EvN.lenL sl78 rfl) ?_
        refine oN (EvN.ilt rfl rfl) ?_
        refine TO.nil ?_
        refine T.cond rfl (fun q13 => ?_) (fun q13 => ?_)
        · replace h := condT q13 h
          refine T.skip ?_
          obtain ⟨s14, h, ks14⟩ := bindL h
          refine T.joinF (G := Nat) (fun gh => True) (fun gh => [(3, hS false 0 gh 2 s14.length), (5, I s9.2), (4, I s3.2), (0, eL (cL Ximpl_Instr.c) p)]) (fun gh => [bE false gh 2 96 (s14.map Ximpl_Gap.c)]) (fun u22 hg => ?_) ?_
          · clear h
            have h := ks14
            clear ks14
            refine T.region ?_
            refine oN (EvN.mv (I s9.2) rfl) ?_
            obtain ⟨g23, h⟩ := gdW h
            refine oN (EvN.add rfl rfl g23) ?_
            refine oN (EvN.asg (I (s9.2 + (1 : Int))) rfl) ?_
            refine TO.nil ?_
            obtain rfl := Option.some.inj h
            exact ⟨(s14, (s9.2 + (1 : Int))), u22, rfl, trivial, cutW rfl (weak_cons rfl (weak_cons rfl (weak_cons rfl (weak_cons rfl weak_nil))))⟩
          · clear ks14
            refine T.block ?_
            refine T.seq ?_
            refine T.clean (H0 := [bE false u11 2 96 (s9.1.map Ximpl_Gap.c)]) (e0 := envOf [(5, I s9.2), (4, I s3.2), (3, hS false 0 u11 2 s9.1.length), (0, eL (cL Ximpl_Instr.c) p)]) rfl (weak_cons rfl (weak_cons rfl (weak_cons rfl (weak_cons rfl weak_nil)))) ?_
            refine T.region ?_
            refine oN (EvN.mv (eL (cL Ximpl_Instr.c) p) rfl) ?_
            refine oN (EvN.mv (I s3.2) rfl) ?_
            refine oN (EvN.ixL sl23 rfl rfl g12 (fun _ => rfl)) ?_
            refine oN (EvN.loadfp (eL Ximpl_Instr.c (p.getD s3.2.toNat default)) ty78 rfl rfl) ?_
            refine oN (EvN.mv (I s9.2) rfl) ?_
            obtain ⟨g15, h⟩ := gdW h
            refine oN (EvN.sub rfl rfl g15) ?_
            obtain ⟨g16, h⟩ := gdD h
            refine oN (EvN.ixL sl78 rfl rfl g16 (fun _ => rfl)) ?_
            refine oN (EvN.fafp Try.underlying81 rfl (by kernel_rfl) rfl) ?_
            refine oN (EvN.loadfp (I (((p.getD s3.2.toNat default).getD (s9.2 - (1 : Int)).toNat default).Op)) ty3 rfl rfl) ?_
            refine oN (EvN.ine rfl rfl) ?_
            refine oN (EvN.mv (Bo ((((p.getD s3.2.toNat default).getD (s9.2 - (1 : Int)).toNat default).Op) != (4 : Int))) rfl) ?_
            obtain ⟨s17, h, ks17⟩ := bindL h
            refine TO.joinF (G := Unit) 10 (fun _ => True) (fun _ => [(42, Bo s17), (5, I s9.2), (4, I s3.2), (3, hS false 0 u11 2 s9.1.length), (0, eL (cL Ximpl_Instr.c) p)]) (fun _ => [bE false u11 2 96 (s9.1.map Ximpl_Gap.c)]) ?_ (fun js17 => ?_)
            rotate_left
            · clear ks17
              rcases bifL h with ⟨q18, h⟩ | ⟨q18, h⟩
              · refine gN rfl q18 (EvN.mv (eL (cL Ximpl_Instr.c) p) rfl) ?_
                refine gN rfl q18 (EvN.mv (I s3.2) rfl) ?_
                refine gN rfl q18 (EvN.ixL sl23 rfl rfl g12 (fun _ => rfl)) ?_
                refine gN rfl q18 (EvN.loadfp (eL Ximpl_Instr.c (p.getD s3.2.toNat default)) ty78 rfl rfl) ?_
                refine gN rfl q18 (EvN.mv (I s9.2) rfl) ?_
                obtain ⟨g19, h⟩ := gdD h
                refine gN rfl q18 (EvN.ixL sl78 rfl rfl g19 (fun _ => rfl)) ?_
                refine gN rfl q18 (EvN.fafp Try.underlying81 rfl (by kernel_rfl) rfl) ?_
                refine gN rfl q18 (EvN.loadfp (I (((p.getD s3.2.toNat default).getD s9.2.toNat default).Op)) ty3 rfl rfl) ?_
                refine gN rfl q18 (EvN.ine rfl rfl) ?_
                refine oN (EvN.pickT rfl q18 (Bo ((((p.getD s3.2.toNat default).getD s9.2.toNat default).Op) != (4 : Int))) rfl) ?_
                obtain rfl := Option.some.inj h
                exact js17 _ _ ⟨(), trivial, cutW rfl (weak_cons rfl (weak_cons rfl (weak_cons rfl (weak_cons rfl (weak_cons rfl weak_nil)))))⟩
              · refine gS rfl q18 ?_
                refine gS rfl q18 ?_
                refine gS rfl q18 ?_
                refine gS rfl q18 ?_
                refine gS rfl q18 ?_
                refine gS rfl q18 ?_
                refine gS rfl q18 ?_
                refine gS rfl q18 ?_
                refine gS rfl q18 ?_
                refine oN (EvN.pickF rfl q18 (Bo false) rfl) ?_
                obtain rfl := Option.some.inj h
                exact js17 _ _ ⟨(), trivial, cutW rfl (weak_cons rfl (weak_cons rfl (weak_cons rfl (weak_cons rfl (weak_cons rfl weak_nil)))))⟩
            · intro _ _
              replace h := ks17
              clear ks17
              refine TO.nil ?_
              refine T.cond rfl (fun q20 => ?_) (fun q20 => ?_)
              · replace h := condT q20 h
                refine T.region ?_
                refine oN (EvN.mv (hS false 0 u11 2 s9.1.length) rfl) ?_
                refine oN (EvN.mv (I s3.2) rfl) ?_
                refine oN (EvN.mv (I s9.2) rfl) ?_
                refine oN (EvN.build [I s3.2, I s9.2] Try.underlying96 zs96 fs96 rfl rfl) ?_
                refine oN (EvN.mkF (c := Ximpl_Gap.c) ([(⟨s3.2, s9.2⟩ : Ximpl_Gap)] : List Ximpl_Gap) [[I s3.2, I s9.2]] sl93 rfl rfl rfl (fun _ => rfl) Ximpl_Gap.isF rfl) ?_
                obtain ⟨g21, h⟩ := gdL h
                refine oA (EvA.app1 (g := false) (l := s9.1) (⟨s3.2, s9.2⟩ : Ximpl_Gap) sl93 (by kernel_rfl) rfl rfl rfl nofun (SrcOk.fz (l := ([(⟨s3.2, s9.2⟩ : Ximpl_Gap)] : List Ximpl_Gap)) rfl (fun _ => rfl)) g21) ?_
                refine oN (EvN.asg (hS false 0 (u11 + 1) 2 ((s9.1 ++ [(⟨s3.2, s9.2⟩ : Ximpl_Gap)]).length)) rfl) ?_
                refine TO.nil ?_
                obtain rfl := Option.some.inj h
                exact ⟨u11 + 1, trivial, cutW rfl (weak_cons rfl (weak_cons rfl (weak_cons rfl (weak_cons rfl weak_nil))))⟩
              · replace h := condF q20 h
                refine T.skip ?_
                obtain rfl := Option.some.inj h
                exact ⟨u11, trivial, cutW rfl (weak_cons rfl (weak_cons rfl (weak_cons rfl (weak_cons rfl weak_nil))))⟩
        · replace h := condF q13 h
          refine T.exit ?_
          refine ⟨_, (Option.some.inj h).symm, fun h => ?_⟩
          replace h := congrArg some h
          obtain rfl := Option.some.inj h
          exact ⟨u11, trivial, cutW rfl (weak_cons rfl (weak_cons rfl (weak_cons rfl weak_nil)))⟩
    · replace h := condF q6 h
      refine T.exit ?_
      refine ⟨_, (Option.some.inj h).symm, fun h => ?_⟩
      replace h := congrArg some h
      obtain rfl := Option.some.inj h
      exact ⟨u5, trivial, cutW rfl (weak_cons rfl weak_nil)⟩

theorem F_spec_l9Draw_P (r_ : Xspec_l17Rd) (ver0 : Nat) {q : Xspec_l17Rd × (List (List Ximpl_Instr))} (h : F_spec_l9Draw r_ = some q) : ACall Try.prog 137 [.hp 0 ver0 2 0 0] [some ⟨ver0, 2, 126, [[eL cY r_.b, I r_.p]]⟩] (eL (cL Ximpl_Instr.c) q.2) [some ⟨ver0, 2, 126, [[eL cY q.1.b, I q.1.p]]⟩] := by
  refine ACall.mkT Try.func137 rfl (by kernel_rfl) rfl (by kernel_rfl) (e0 := envOf [(0, .hp 0 ver0 2 0 0)]) (weak_cons rfl weak_nil) ?_
  refine T.seq ?_
  refine T.region ?_
  refine oN (EvN.asg (.nil) rfl) ?_
  refine TO.nil ?_
  refine T.seq ?_
  refine T.region ?_
  refine oN (EvN.mv (.hp 0 ver0 2 0 0) rfl) ?_
  obtain ⟨v1, cv1, h⟩ := bindL h
  refine oA (EvA.call rfl rfl rfl ((F_spec_l8Small_P (⟨r_.b, r_.p⟩ : Xspec_l17Rd) ver0 cv1).one 0 rfl (.cons (.hp rfl) .nil) (rowsF_row rfl) (rowsF_row rfl) rfl)) ?_
  refine oN (EvN.asg (eL (cL Ximpl_Instr.c) v1.2) rfl) ?_
  refine TO.nil ?_
  refine T.seq ?_
  refine T.seq ?_
  refine T.region ?_
  refine oN (EvN.mv (eL (cL Ximpl_Instr.c) v1.2) rfl) ?_
  obtain ⟨v2, cv2, h⟩ := bindL h
  refine oN (EvN.call rfl rfl rfl (F_spec_l9Gaps_P v1.2 cv2) rfl) ?_
  refine oN (EvN.lenL sl93 rfl) ?_
  refine oN (EvN.igt rfl rfl) ?_
  refine TO.nil ?_
  refine T.cond rfl (fun q3 => ?_) (fun q3 => ?_)
  · replace h := condT q3 h
    refine T.seq ?_
    refine T.clean (H0 := [some ⟨ver0, 2, 126, [[eL cY v1.1.b, I v1.1.p]]⟩]) (e0 := envOf [(0, .hp 0 ver0 2 0 0)]) rfl (weak_cons rfl weak_nil) ?_
    refine T.region ?_
    refine oN (EvN.mv (.hp 0 ver0 2 0 0) rfl) ?_
    refine oN (EvN.mkF (c := cS) ([(⟨#[120, 61, 49, 59, 97, 61, 121, 124, 121, 61, 49, 59, 97, 61, 120]⟩ : ByteArray), (⟨#[120, 61, 49, 59, 121, 61, 49, 124, 97, 61, 121, 59, 98, 61, 120]⟩ : ByteArray), (⟨#[120, 61, 49, 59, 102, 101, 110, 99, 101, 59, 97, 61, 121, 124, 121, 61, 49, 59, 102, 101, 110, 99, 101, 59, 97, 61, 120]⟩ : ByteArray)] : List ByteArray) [[St (⟨#[120, 61, 49, 59, 97, 61, 121, 124, 121, 61, 49, 59, 97, 61, 120]⟩ : ByteArray)], [St (⟨#[120, 61, 49, 59, 121, 61, 49, 124, 97, 61, 121, 59, 98, 61, 120]⟩ : ByteArray)], [St (⟨#[120, 61, 49, 59, 102, 101, 110, 99, 101, 59, 97, 61, 121, 124, 121, 61, 49, 59, 102, 101, 110, 99, 101, 59, 97, 61, 120]⟩ : ByteArray)]] sl127 rfl rfl rfl (fun _ => rfl) (fun _ => rfl) rfl) ?_
    obtain ⟨v4, cv4, h⟩ := bindL h
    refine oA (EvA.call rfl rfl rfl ((F_spec_l17Rd_of_P (⟨v1.1.b, v1.1.p⟩ : Xspec_l17Rd) ([(⟨#[120, 61, 49, 59, 97, 61, 121, 124, 121, 61, 49, 59, 97, 61, 120]⟩ : ByteArray), (⟨#[120, 61, 49, 59, 121, 61, 49, 124, 97, 61, 121, 59, 98, 61, 120]⟩ : ByteArray), (⟨#[120, 61, 49, 59, 102, 101, 110, 99, 101, 59, 97, 61, 121, 124, 121, 61, 49, 59, 102, 101, 110, 99, 101, 59, 97, 61, 120]⟩ : ByteArray)] : List ByteArray) ver0 cv4).one 0 rfl (.cons (.hp rfl) (.cons (.pF rfl) .nil)) (rowsF_row rfl) (rowsF_row rfl) rfl)) ?_
    obtain ⟨v5, cv5, h⟩ := bindL h
    refine oN (EvN.call rfl rfl rfl (F_spec_ParseProgram_P v4.2 cv5) rfl) ?_
    refine oN (EvN.mv (.tup [eL (cL Ximpl_Instr.c) v5.1, Bo v5.2]) rfl) ?_
    refine oN (EvN.ext (eL (cL Ximpl_Instr.c) v5.1) rfl rfl) ?_
    refine oN (EvN.ext (Bo v5.2) rfl rfl) ?_
    refine oN (EvN.asg (eL (cL Ximpl_Instr.c) v5.1) rfl) ?_
    refine oN (EvN.asg (Bo v5.2) rfl) ?_
    refine TO.nil ?_
    refine T.seq ?_
    refine T.clean (H0 := [some ⟨ver0, 2, 126, [[eL cY v4.1.b, I v4.1.p]]⟩]) (e0 := envOf [(4, eL (cL Ximpl_Instr.c) v5.1)]) rfl (weak_cons rfl weak_nil) ?_
    refine T.region ?_
    refine oN (EvN.mv (eL (cL Ximpl_Instr.c) v5.1) rfl) ?_
    refine oN (EvN.asg (eL (cL Ximpl_Instr.c) v5.1) rfl) ?_
    refine TO.nil ?_
    refine T.ret ?_
    obtain rfl := Option.some.inj h
    repeat first | refine retS ?_ | refine retB ?_
    exact ⟨envOf [(2, eL (cL Ximpl_Instr.c) v5.1)], [some ⟨ver0, 2, 126, [[eL cY ((⟨v4.1.b, v4.1.p⟩ : Xspec_l17Rd).b), I ((⟨v4.1.b, v4.1.p⟩ : Xspec_l17Rd).p)]]⟩], cutW rfl (weak_cons rfl weak_nil), Fin.ret (vs := [eL (cL Ximpl_Instr.c) v5.1]) (.cons (.tmp rfl) .nil) ⟨rfl, rfl⟩⟩
  · replace h := condF q3 h
    refine T.skip ?_
    refine T.seq ?_
    refine T.clean (H0 := [some ⟨ver0, 2, 126, [[eL cY v1.1.b, I v1.1.p]]⟩]) (e0 := envOf [(3, eL (cL Ximpl_Instr.c) v1.2)]) rfl (weak_cons rfl weak_nil) ?_
    refine T.region ?_
    refine oN (EvN.mv (eL (cL Ximpl_Instr.c) v1.2) rfl) ?_
    refine oN (EvN.asg (eL (cL Ximpl_Instr.c) v1.2) rfl) ?_
    refine TO.nil ?_
    refine T.ret ?_
    obtain rfl := Option.some.inj h
    repeat first | refine retS ?_ | refine retB ?_
    exact ⟨envOf [(2, eL (cL Ximpl_Instr.c) v1.2)], [some ⟨ver0, 2, 126, [[eL cY ((⟨v1.1.b, v1.1.p⟩ : Xspec_l17Rd).b), I ((⟨v1.1.b, v1.1.p⟩ : Xspec_l17Rd).p)]]⟩], cutW rfl (weak_cons rfl weak_nil), Fin.ret (vs := [eL (cL Ximpl_Instr.c) v1.2]) (.cons (.tmp rfl) .nil) ⟨rfl, rfl⟩⟩

theorem F_spec_l10Draw_P (r_ : Xspec_l17Rd) (ver0 : Nat) {q : Xspec_l17Rd × (List (List Ximpl_Instr))} (h : F_spec_l10Draw r_ = some q) : ACall Try.prog 92 [.hp 0 ver0 2 0 0] [some ⟨ver0, 2, 126, [[eL cY r_.b, I r_.p]]⟩] (eL (cL Ximpl_Instr.c) q.2) [some ⟨ver0, 2, 126, [[eL cY q.1.b, I q.1.p]]⟩] := by
  refine ACall.mkT Try.func92 rfl (by kernel_rfl) rfl (by kernel_rfl) (e0 := envOf [(0, .hp 0 ver0 2 0 0)]) (weak_cons rfl weak_nil) ?_
  refine T.seq ?_
  refine T.region ?_
  refine oN (EvN.asg (.nil) rfl) ?_
  refine TO.nil ?_
  refine T.seq ?_
  refine T.region ?_
  refine oN (EvN.mkF (c := cS) ([(⟨#[97, 61, 120, 58, 49, 59, 121, 61, 49, 124, 98, 61, 120, 58, 50]⟩ : ByteArray), (⟨#[120, 61, 49, 59, 120, 61, 50, 124, 121, 61, 49, 59, 97, 61, 121]⟩ : ByteArray), (⟨#[97, 61, 122, 58, 49, 124, 98, 61, 122, 58, 50, 124, 99, 61, 122, 58, 51]⟩ : ByteArray), (⟨#[97, 61, 120, 124, 98, 61, 120]⟩ : ByteArray), (⟨#[120, 61, 49, 59, 97, 61, 120, 58, 50, 124, 98, 61, 121, 59, 121, 61, 51]⟩ : ByteArray), (⟨#[97, 61, 120, 58, 49, 59, 98, 61, 121, 58, 49, 124, 97, 61, 121, 58, 50, 59, 98, 61, 120, 58, 50]⟩ : ByteArray)] : List ByteArray) [[St (⟨#[97, 61, 120, 58, 49, 59, 121, 61, 49, 124, 98, 61, 120, 58, 50]⟩ : ByteArray)], [St (⟨#[120, 61, 49, 59, 120, 61, 50, 124, 121, 61, 49, 59, 97, 61, 121]⟩ : ByteArray)], [St (⟨#[97, 61, 122, 58, 49, 124, 98, 61, 122, 58, 50, 124, 99, 61, 122, 58, 51]⟩ : ByteArray)], [St (⟨#[97, 61, 120, 124, 98, 61, 120]⟩ : ByteArray)], [St (⟨#[120, 61, 49, 59, 97, 61, 120, 58, 50, 124, 98, 61, 121, 59, 121, 61, 51]⟩ : ByteArray)], [St (⟨#[97, 61, 120, 58, 49, 59, 98, 61, 121, 58, 49, 124, 97, 61, 121, 58, 50, 59, 98, 61, 120, 58, 50]⟩ : ByteArray)]] sl127 rfl rfl rfl (fun _ => rfl) (fun _ => rfl) rfl) ?_
  refine oN (EvN.asg (eL cS ([(⟨#[97, 61, 120, 58, 49, 59, 121, 61, 49, 124, 98, 61, 120, 58, 50]⟩ : ByteArray), (⟨#[120, 61, 49, 59, 120, 61, 50, 124, 121, 61, 49, 59, 97, 61, 121]⟩ : ByteArray), (⟨#[97, 61, 122, 58, 49, 124, 98, 61, 122, 58, 50, 124, 99, 61, 122, 58, 51]⟩ : ByteArray), (⟨#[97, 61, 120, 124, 98, 61, 120]⟩ : ByteArray), (⟨#[120, 61, 49, 59, 97, 61, 120, 58, 50, 124, 98, 61, 121, 59, 121, 61, 51]⟩ : ByteArray), (⟨#[97, 61, 120, 58, 49, 59, 98, 61, 121, 58, 49, 124, 97, 61, 121, 58, 50, 59, 98, 61, 120, 58, 50]⟩ : ByteArray)] : List ByteArray)) rfl) ?_
  refine TO.nil ?_
  refine T.seq ?_
  refine T.seq ?_
  refine T.region ?_
  refine oN (EvN.mv (.hp 0 ver0 2 0 0) rfl) ?_
  obtain ⟨v1, cv1, h⟩ := bindL h
  refine oA (EvA.call rfl rfl rfl ((F_spec_l17Rd_pick_P (⟨r_.b, r_.p⟩ : Xspec_l17Rd) (2 : Int) ver0 cv1).one 0 rfl (.cons (.hp rfl) (.cons (.pF rfl) .nil)) (rowsF_row rfl) (rowsF_row rfl) rfl)) ?_
  refine oN (EvN.ieq rfl rfl) ?_
  refine TO.nil ?_
  refine T.cond rfl (fun q2 => ?_) (fun q2 => ?_)
  · replace h := condT q2 h
    refine T.seq ?_
    refine T.region ?_
    refine oN (EvN.mv (eL cS ([(⟨#[97, 61, 120, 58, 49, 59, 121, 61, 49, 124, 98, 61, 120, 58, 50]⟩ : ByteArray), (⟨#[120, 61, 49, 59, 120, 61, 50, 124, 121, 61, 49, 59, 97, 61, 121]⟩ : ByteArray), (⟨#[97, 61, 122, 58, 49, 124, 98, 61, 122, 58, 50, 124, 99, 61, 122, 58, 51]⟩ : ByteArray), (⟨#[97, 61, 120, 124, 98, 61, 120]⟩ : ByteArray), (⟨#[120, 61, 49, 59, 97, 61, 120, 58, 50, 124, 98, 61, 121, 59, 121, 61, 51]⟩ : ByteArray), (⟨#[97, 61, 120, 58, 49, 59, 98, 61, 121, 58, 49, 124, 97, 61, 121, 58, 50, 59, 98, 61, 120, 58, 50]⟩ : ByteArray)] : List ByteArray)) rfl) ?_
    refine oN (EvN.mv (.hp 0 ver0 2 0 0) rfl) ?_
    refine oN (EvN.mv (eL cS ([(⟨#[97, 61, 120, 58, 49, 59, 121, 61, 49, 124, 98, 61, 120, 58, 50]⟩ : ByteArray), (⟨#[120, 61, 49, 59, 120, 61, 50, 124, 121, 61, 49, 59, 97, 61, 121]⟩ : ByteArray), (⟨#[97, 61, 122, 58, 49, 124, 98, 61, 122, 58, 50, 124, 99, 61, 122, 58, 51]⟩ : ByteArray), (⟨#[97, 61, 120, 124, 98, 61, 120]⟩ : ByteArray), (⟨#[120, 61, 49, 59, 97, 61, 120, 58, 50, 124, 98, 61, 121, 59, 121, 61, 51]⟩ : ByteArray), (⟨#[97, 61, 120, 58, 49, 59, 98, 61, 121, 58, 49, 124, 97, 61, 121, 58, 50, 59, 98, 61, 120, 58, 50]⟩ : ByteArray)] : List ByteArray)) rfl) ?_
    refine oN (EvN.lenL sl127 rfl) ?_
    obtain ⟨v3, cv3, h⟩ := bindL h
    refine oA (EvA.call rfl rfl rfl ((F_spec_l17Rd_pick_P (⟨v1.1.b, v1.1.p⟩ : Xspec_l17Rd) (([(⟨#[97, 61, 120, 58, 49, 59, 121, 61, 49, 124, 98, 61, 120, 58, 50]⟩ : ByteArray), (⟨#[120, 61, 49, 59, 120, 61, 50, 124, 121, 61, 49, 59, 97, 61, 121]⟩ : ByteArray), (⟨#[97, 61, 122, 58, 49, 124, 98, 61, 122, 58, 50, 124, 99, 61, 122, 58, 51]⟩ : ByteArray), (⟨#[97, 61, 120, 124, 98, 61, 120]⟩ : ByteArray), (⟨#[120, 61, 49, 59, 97, 61, 120, 58, 50, 124, 98, 61, 121, 59, 121, 61, 51]⟩ : ByteArray), (⟨#[97, 61, 120, 58, 49, 59, 98, 61, 121, 58, 49, 124, 97, 61, 121, 58, 50, 59, 98, 61, 120, 58, 50]⟩ : ByteArray)] : List ByteArray).length : Int) ver0 cv3).one 0 rfl (.cons (.hp rfl) (.cons (.pF rfl) .nil)) (rowsF_row rfl) (rowsF_row rfl) rfl)) ?_
    obtain ⟨g4, h⟩ := gdD h
    refine oN (EvN.ixL sl127 rfl rfl g4 (fun _ => rfl)) ?_
    refine oN (EvN.loadfp (St (([(⟨#[97, 61, 120, 58, 49, 59, 121, 61, 49, 124, 98, 61, 120, 58, 50]⟩ : ByteArray), (⟨#[120, 61, 49, 59, 120, 61, 50, 124, 121, 61, 49, 59, 97, 61, 121]⟩ : ByteArray), (⟨#[97, 61, 122, 58, 49, 124, 98, 61, 122, 58, 50, 124, 99, 61, 122, 58, 51]⟩ : ByteArray), (⟨#[97, 61, 120, 124, 98, 61, 120]⟩ : ByteArray), (⟨#[120, 61, 49, 59, 97, 61, 120, 58, 50, 124, 98, 61, 121, 59, 121, 61, 51]⟩ : ByteArray), (⟨#[97, 61, 120, 58, 49, 59, 98, 61, 121, 58, 49, 124, 97, 61, 121, 58, 50, 59, 98, 61, 120, 58, 50]⟩ : ByteArray)] : List ByteArray).getD v3.2.toNat default)) ty9 rfl rfl) ?_
    obtain ⟨v5, cv5, h⟩ := bindL h
    refine oN (EvN.call rfl rfl rfl (F_spec_ParseProgram_P (([(⟨#[97, 61, 120, 58, 49, 59, 121, 61, 49, 124, 98, 61, 120, 58, 50]⟩ : ByteArray), (⟨#[120, 61, 49, 59, 120, 61, 50, 124, 121, 61, 49, 59, 97, 61, 121]⟩ : ByteArray), (⟨#[97, 61, 122, 58, 49, 124, 98, 61, 122, 58, 50, 124, 99, 61, 122, 58, 51]⟩ : ByteArray), (⟨#[97, 61, 120, 124, 98, 61, 120]⟩ : ByteArray), (⟨#[120, 61, 49, 59, 97, 61, 120, 58, 50, 124, 98, 61, 121, 59, 121, 61, 51]⟩ : ByteArray), (⟨#[97, 61, 120, 58, 49, 59, 98, 61, 121, 58, 49, 124, 97, 61, 121, 58, 50, 59, 98, 61, 120, 58, 50]⟩ : ByteArray)] : List ByteArray).getD v3.2.toNat default) cv5) rfl) ?_
    refine oN (EvN.mv (.tup [eL (cL Ximpl_Instr.c) v5.1, Bo v5.2]) rfl) ?_
    refine oN (EvN.ext (eL (cL Ximpl_Instr.c) v5.1) rfl rfl) ?_
    refine oN (EvN.ext (Bo v5.2) rfl rfl) ?_
    refine oN (EvN.asg (eL (cL Ximpl_Instr.c) v5.1) rfl) ?_
    refine oN (EvN.asg (Bo v5.2) rfl) ?_
    refine TO.nil ?_
    refine T.seq ?_
    refine T.clean (H0 := [some ⟨ver0, 2, 126, [[eL cY v3.1.b, I v3.1.p]]⟩]) (e0 := envOf [(4, eL (cL Ximpl_Instr.c) v5.1)]) rfl (weak_cons rfl weak_nil) ?_
    refine T.region ?_
    refine oN (EvN.mv (eL (cL Ximpl_Instr.c) v5.1) rfl) ?_
    refine oN (EvN.asg (eL (cL Ximpl_Instr.c) v5.1) rfl) ?_
    refine TO.nil ?_
    refine T.ret ?_
    obtain rfl := Option.some.inj h
    repeat first | refine retS ?_ | refine retB ?_
    exact ⟨envOf [(2, eL (cL Ximpl_Instr.c) v5.1)], [some ⟨ver0, 2, 126, [[eL cY ((⟨v3.1.b, v3.1.p⟩ : Xspec_l17Rd).b), I ((⟨v3.1.b, v3.1.p⟩ : Xspec_l17Rd).p)]]⟩], cutW rfl (weak_cons rfl weak_nil), Fin.ret (vs := [eL (cL Ximpl_Instr.c) v5.1]) (.cons (.tmp rfl) .nil) ⟨rfl, rfl⟩⟩
  · replace h := condF q2 h
    refine T.skip ?_
    refine T.seq ?_
    refine T.clean (H0 := [some ⟨ver0, 2, 126, [[eL cY v1.1.b, I v1.1.p]]⟩]) (e0 := envOf [(0, .hp 0 ver0 2 0 0)]) rfl (weak_cons rfl weak_nil) ?_
    refine T.region ?_
    refine oN (EvN.mv (.hp 0 ver0 2 0 0) rfl) ?_
    obtain ⟨v6, cv6, h⟩ := bindL h
    refine oA (EvA.call rfl rfl rfl ((F_spec_l9Draw_P (⟨v1.1.b, v1.1.p⟩ : Xspec_l17Rd) ver0 cv6).one 0 rfl (.cons (.hp rfl) .nil) (rowsF_row rfl) (rowsF_row rfl) rfl)) ?_
    refine oN (EvN.asg (eL (cL Ximpl_Instr.c) v6.2) rfl) ?_
    refine TO.nil ?_
    refine T.ret ?_
    obtain rfl := Option.some.inj h
    repeat first | refine retS ?_ | refine retB ?_
    exact ⟨envOf [(2, eL (cL Ximpl_Instr.c) v6.2)], [some ⟨ver0, 2, 126, [[eL cY ((⟨v6.1.b, v6.1.p⟩ : Xspec_l17Rd).b), I ((⟨v6.1.b, v6.1.p⟩ : Xspec_l17Rd).p)]]⟩], cutW rfl (weak_cons rfl weak_nil), Fin.ret (vs := [eL (cL Ximpl_Instr.c) v6.2]) (.cons (.tmp rfl) .nil) ⟨rfl, rfl⟩⟩

theorem F_spec_DrawRacesOf_P (code : List Int) {q : (List (List Ximpl_Instr))} (h : F_spec_DrawRacesOf code = some q) : PCall Try.prog 31 [eL cY code] (eL (cL Ximpl_Instr.c) q) := by
  refine PCall.mkT Try.func31 rfl (by kernel_rfl) rfl (by kernel_rfl) (e0 := envOf [(0, eL cY code)]) (weak_cons rfl weak_nil) ?_
  refine T.seq ?_
  refine T.region ?_
  refine oN (EvN.asg (.nil) rfl) ?_
  refine TO.nil ?_
  refine T.seq ?_
  refine T.region ?_
  refine oN (EvN.mv (eL cY code) rfl) ?_
  obtain ⟨v1, cv1, h⟩ := bindL h
  refine oA (EvA.call rfl rfl rfl ((F_spec_l17Open_P code cv1).fresh rfl (rowsF_row rfl) 0 rfl)) ?_
  refine oN (EvN.asg (.hp 0 0 2 0 0) rfl) ?_
  refine TO.nil ?_
  refine T.seq ?_
  refine T.region ?_
  refine oN (EvN.mv (.hp 0 0 2 0 0) rfl) ?_
  refine oN (EvN.mv (.hp 0 0 2 0 0) rfl) ?_
  obtain ⟨v2, cv2, h⟩ := bindL h
  refine oA (EvA.call rfl rfl rfl ((F_spec_l10Draw_P (⟨v1.b, v1.p⟩ : Xspec_l17Rd) 0 cv2).one 0 rfl (.cons (.hp rfl) .nil) (rowsF_row rfl) (rowsF_row rfl) rfl)) ?_
  obtain ⟨v3, cv3, h⟩ := bindL h
  refine oA (EvA.call rfl rfl rfl ((F_spec_l1Mutate_P (⟨v2.1.b, v2.1.p⟩ : Xspec_l17Rd) v2.2 0 cv3).one 0 rfl (.cons (.hp rfl) (.cons (.pF rfl) .nil)) (rowsF_row rfl) (rowsF_row rfl) rfl)) ?_
  refine oN (EvN.asg (eL (cL Ximpl_Instr.c) v3.2) rfl) ?_
  refine TO.nil ?_
  refine T.ret ?_
  obtain rfl := Option.some.inj h
  repeat first | refine retS ?_ | refine retB ?_
  exact Fin.ret (vs := [eL (cL Ximpl_Instr.c) v3.2]) (.cons (.tmp rfl) .nil) (.of_isF 9 _ rfl)

theorem F_impl_instrs_P (p : List (List Ximpl_Instr)) {q : (List Ximpl_Gap)} (h : F_impl_instrs p = some q) : PCall Try.prog 81 [eL (cL Ximpl_Instr.c) p] (eL Ximpl_Gap.c q) := by
  refine PCall.mkT Try.func81 rfl (by kernel_rfl) rfl (by kernel_rfl) (e0 := envOf [(0, eL (cL Ximpl_Instr.c) p)]) (weak_cons rfl weak_nil) ?_
  refine T.seq ?_
  refine T.region ?_
  refine oN (EvN.asg (.nil) rfl) ?_
  refine TO.nil ?_
  refine T.seq ?_
  refine T.reserve ?_
  refine T.region ?_
  refine oN (EvN.asg (hS true 0 0 2 (([] : List Ximpl_Gap).length)) rfl) ?_
  refine TO.nil ?_
  obtain ⟨s1, h, ks1⟩ := bindL h
  refine T.joinF (G := (Bool × Nat)) (fun gh => (gh.1 = true → s1 = [])) (fun gh => [(3, hS gh.1 0 gh.2 2 s1.length)]) (fun gh => [bE gh.1 gh.2 2 96 (s1.map Ximpl_Gap.c)]) (fun gh n30 => ?_) ?_
  · clear h
    have h := ks1
    clear ks1
    obtain ⟨b29, u28⟩ := gh
    refine T.seq ?_
    refine T.region ?_
    refine oN (EvN.mv (hS b29 0 u28 2 s1.length) rfl) ?_
    refine oN (EvN.asg (hS b29 0 u28 2 s1.length) rfl) ?_
    refine TO.nil ?_
    refine T.ret ?_
    obtain rfl := Option.some.inj h
    repeat first | refine retS ?_ | refine retB ?_
    exact Fin.ret (vs := [hS b29 0 u28 2 s1.length]) (.cons (.tmp rfl) .nil) (Fz.own (g := b29) (ver := u28) (l := s1) rfl rfl rfl n30 Ximpl_Gap.isF)
  · clear ks1
    refine T.seq ?_
    refine T.region ?_
    refine oN (EvN.mv (eL (cL Ximpl_Instr.c) p) rfl) ?_
    refine oN (EvN.lenL sl23 rfl) ?_
    refine oN (EvN.mv (I (0 : Int)) rfl) ?_
    refine TO.nil ?_
    refine T.block ?_
    refine T.loop (S := (List Ximpl_Gap) × Int) (G := (Bool × Nat)) (F_impl_instrs_L6 p) (fun s5 gh => (gh.1 = true → s5.1 = [])) (fun s5 gh => [(9, I s5.2), (8, I (p.length : Int)), (7, eL (cL Ximpl_Instr.c) p), (3, hS gh.1 0 gh.2 2 s5.1.length)]) (fun s5 gh => [bE gh.1 gh.2 2 96 (s5.1.map Ximpl_Gap.c)]) (s0 := (([] : List Ximpl_Gap), (0 : Int))) (true, 0) h (fun _ => rfl) (cutW rfl (weak_cons rfl (weak_cons rfl (weak_cons rfl (weak_cons rfl weak_nil))))) (fun s5 gh ws5 h n9 => ?_)
    obtain ⟨b8, u7⟩ := gh
    refine T.seq ?_
    refine T.region ?_
    refine oN (EvN.ilt rfl rfl) ?_
    refine TO.nil ?_
    refine T.seq ?_
    refine T.cond rfl (fun q10 => ?_) (fun q10 => ?_)
    · replace h := condT q10 h
      refine T.skip ?_
      obtain ⟨s11, h, ks11⟩ := bindL h
      refine T.joinF (G := (Bool × Nat)) (fun gh => (gh.1 = true → s11 = [])) (fun gh => [(9, I s5.2), (8, I (p.length : Int)), (7, eL (cL Ximpl_Instr.c) p), (3, hS gh.1 0 gh.2 2 s11.length)]) (fun gh => [bE gh.1 gh.2 2 96 (s11.map Ximpl_Gap.c)]) (fun gh n26 => ?_) ?_
      · clear h
        have h := ks11
        clear ks11
        obtain ⟨b25, u24⟩ := gh
        refine T.region ?_
        obtain ⟨g27, h⟩ := gdW h
        refine oN (EvN.add rfl rfl g27) ?_
        refine oN (EvN.mv (I (s5.2 + (1 : Int))) rfl) ?_
        refine TO.nil ?_
        obtain rfl := Option.some.inj h
        exact ⟨(s11, (s5.2 + (1 : Int))), (b25, u24), rfl, n26, cutW rfl (weak_cons rfl (weak_cons rfl (weak_cons rfl (weak_cons rfl weak_nil))))⟩
      · clear ks11
        refine T.block ?_
        refine T.seq ?_
        refine T.region ?_
        refine oN (EvN.mv (I s5.2) rfl) ?_
        obtain ⟨g12, h⟩ := gdD h
        refine oN (EvN.ixL sl23 rfl rfl g12 (fun _ => rfl)) ?_
        refine oN (EvN.loadfp (eL Ximpl_Instr.c (p.getD s5.2.toNat default)) ty78 rfl rfl) ?_
        refine oN (EvN.asg (I s5.2) rfl) ?_
        refine oN (EvN.asg (eL Ximpl_Instr.c (p.getD s5.2.toNat default)) rfl) ?_
        refine TO.nil ?_
        refine T.seq ?_
        refine T.region ?_
        refine oN (EvN.mv (eL Ximpl_Instr.c (p.getD s5.2.toNat default)) rfl) ?_
        refine oN (EvN.lenL sl78 rfl) ?_
        refine oN (EvN.mv (I (0 : Int)) rfl) ?_
        refine TO.nil ?_
        refine T.block ?_
        refine T.loop (S := (List Ximpl_Gap) × Int) (G := (Bool × Nat)) (F_impl_instrs_L17 p s5) (fun s16 gh => (gh.1 = true → s16.1 = [])) (fun s16 gh => [(16, I s16.2), (15, I ((p.getD s5.2.toNat default).length : Int)), (4, I s5.2), (9, I s5.2), (8, I (p.length : Int)), (7, eL (cL Ximpl_Instr.c) p), (3, hS gh.1 0 gh.2 2 s16.1.length)]) (fun s16 gh => [bE gh.1 gh.2 2 96 (s16.1.map Ximpl_Gap.c)]) (s0 := (s5.1, (0 : Int))) (b8, u7) h n9 (cutW rfl (weak_cons rfl (weak_cons rfl (weak_cons rfl (weak_cons rfl (weak_cons rfl (weak_cons rfl (weak_cons rfl weak_nil)))))))) (fun s16 gh ws16 h n20 => ?_)
        obtain ⟨b19, u18⟩ := gh
        refine T.seq ?_
        refine T.region ?_
        refine oN (EvN.ilt rfl rfl) ?_
        refine TO.nil ?_
        refine T.seq ?_
        refine T.cond rfl (fun q21 => ?_) (fun q21 => ?_)
        · replace h := condT q21 h
          refine T.skip ?_
          refine T.seq ?_
          refine T.block ?_
          refine T.seq ?_
          refine T.region ?_
          refine oN (EvN.mv (I s16.2) rfl) ?_
          refine oN (EvN.asg (I s16.2) rfl) ?_
          refine TO.nil ?_
          refine T.region ?_
          refine oN (EvN.mv (hS b19 0 u18 2 s16.1.length) rfl) ?_
          refine oN (EvN.mv (I s5.2) rfl) ?_
          refine oN (EvN.mv (I s16.2) rfl) ?_
          refine oN (EvN.build [I s5.2, I s16.2] Try.underlying96 zs96 fs96 rfl rfl) ?_
          refine oN (EvN.mkF (c := Ximpl_Gap.c) ([(⟨s5.2, s16.2⟩ : Ximpl_Gap)] : List Ximpl_Gap) [[I s5.2, I s16.2]] sl93 rfl rfl rfl (fun _ => rfl) Ximpl_Gap.isF rfl) ?_
          obtain ⟨g22, h⟩ := gdL h
          refine oA (EvA.app1 (g := b19) (l := s16.1) (⟨s5.2, s16.2⟩ : Ximpl_Gap) sl93 (by kernel_rfl) rfl rfl rfl n20 (SrcOk.fz (l := ([(⟨s5.2, s16.2⟩ : Ximpl_Gap)] : List Ximpl_Gap)) rfl (fun _ => rfl)) g22) ?_
          refine oN (EvN.asg (hS false 0 (u18 + 1) 2 ((s16.1 ++ [(⟨s5.2, s16.2⟩ : Ximpl_Gap)]).length)) rfl) ?_
          refine TO.nil ?_
          refine T.clean (H0 := [bE false (u18 + 1) 2 96 ((s16.1 ++ [(⟨s5.2, s16.2⟩ : Ximpl_Gap)]).map Ximpl_Gap.c)]) (e0 := envOf [(3, hS false 0 (u18 + 1) 2 ((s16.1 ++ [(⟨s5.2, s16.2⟩ : Ximpl_Gap)]).length)), (16, I s16.2), (15, I ((p.getD s5.2.toNat default).length : Int)), (4, I s5.2), (9, I s5.2), (8, I (p.length : Int)), (7, eL (cL Ximpl_Instr.c) p)]) rfl (weak_cons rfl (weak_cons rfl (weak_cons rfl (weak_cons rfl (weak_cons rfl (weak_cons rfl (weak_cons rfl weak_nil))))))) ?_
          refine T.region ?_
          obtain ⟨g23, h⟩ := gdW h
          refine oN (EvN.add rfl rfl g23) ?_
          refine oN (EvN.mv (I (s16.2 + (1 : Int))) rfl) ?_
          refine TO.nil ?_
          obtain rfl := Option.some.inj h
          exact ⟨((s16.1 ++ [(⟨s5.2, s16.2⟩ : Ximpl_Gap)]), (s16.2 + (1 : Int))), (false, u18 + 1), rfl, nofun, cutW rfl (weak_cons rfl (weak_cons rfl (weak_cons rfl (weak_cons rfl (weak_cons rfl (weak_cons rfl (weak_cons rfl weak_nil)))))))⟩
        · replace h := condF q21 h
          refine T.exit ?_
          refine ⟨_, (Option.some.inj h).symm, fun h => ?_⟩
          replace h := congrArg some h
          obtain rfl := Option.some.inj h
          exact ⟨(b19, u18), n20, cutW rfl (weak_cons rfl (weak_cons rfl (weak_cons rfl (weak_cons rfl weak_nil))))⟩
    · replace h := condF q10 h
      refine T.exit ?_
      refine ⟨_, (Option.some.inj h).symm, fun h => ?_⟩
      replace h := congrArg some h
      obtain rfl := Option.some.inj h
      exact ⟨(b8, u7), n9, cutW rfl (weak_cons rfl weak_nil)⟩

theorem F_impl_Instr_writes_P (x : Ximpl_Instr) {q : Bool} (h : F_impl_Instr_writes x = some q) : PCall Try.prog 131 [.agg (Ximpl_Instr.c x)] (Bo q) := by
  refine PCall.mkT Try.func131 rfl (by kernel_rfl) rfl (by kernel_rfl) (e0 := envOf [(0, .agg (Ximpl_Instr.c x))]) (weak_cons rfl weak_nil) ?_
  refine T.seq ?_
  refine T.region ?_
  refine oN (EvN.bxF [I x.Op, I x.Loc, I x.Reg, I x.Val] rfl rfl rfl) ?_
  refine oN (EvN.asg (Bo false) rfl) ?_
  refine TO.nil ?_
  refine T.seq ?_
  refine T.region ?_
  refine oN (EvN.fafp Try.underlying81 rfl (by kernel_rfl) rfl) ?_
  refine oN (EvN.loadfp (I x.Op) ty3 rfl rfl) ?_
  refine oN (EvN.ieq rfl rfl) ?_
  refine oN (EvN.mv (Bo (x.Op == (2 : Int))) rfl) ?_
  obtain ⟨s1, h, ks1⟩ := bindL h
  refine TO.joinF (G := Unit) 4 (fun _ => True) (fun _ => [(10, Bo s1), (1, .fp (Ximpl_Instr.c x) 0)]) (fun _ => []) ?_ (fun js1 => ?_)
  rotate_left
  · clear ks1
    rcases bifL h with ⟨q2, h⟩ | ⟨q2, h⟩
    · refine gS rfl q2 ?_
      refine gS rfl q2 ?_
      refine gS rfl q2 ?_
      refine oN (EvN.pickT rfl q2 (Bo true) rfl) ?_
      obtain rfl := Option.some.inj h
      exact js1 _ _ ⟨(), trivial, cutW rfl (weak_cons rfl (weak_cons rfl weak_nil))⟩
    · refine gN rfl q2 (EvN.fafp Try.underlying81 rfl (by kernel_rfl) rfl) ?_
      refine gN rfl q2 (EvN.loadfp (I x.Op) ty3 rfl rfl) ?_
      refine gN rfl q2 (EvN.ieq rfl rfl) ?_
      refine oN (EvN.pickF rfl q2 (Bo (x.Op == (3 : Int))) rfl) ?_
      obtain rfl := Option.some.inj h
      exact js1 _ _ ⟨(), trivial, cutW rfl (weak_cons rfl (weak_cons rfl weak_nil))⟩
  · intro _ _
    replace h := ks1
    clear ks1
    refine oN (EvN.mv (Bo s1) rfl) ?_
    obtain ⟨s3, h, ks3⟩ := bindL h
    refine TO.joinF (G := Unit) 4 (fun _ => True) (fun _ => [(15, Bo s3)]) (fun _ => []) ?_ (fun js3 => ?_)
    rotate_left
    · clear ks3
      rcases bifL h with ⟨q4, h⟩ | ⟨q4, h⟩
      · refine gS rfl q4 ?_
        refine gS rfl q4 ?_
        refine gS rfl q4 ?_
        refine oN (EvN.pickT rfl q4 (Bo true) rfl) ?_
        obtain rfl := Option.some.inj h
        exact js3 _ _ ⟨(), trivial, cutW rfl (weak_cons rfl weak_nil)⟩
      · refine gN rfl q4 (EvN.fafp Try.underlying81 rfl (by kernel_rfl) rfl) ?_
        refine gN rfl q4 (EvN.loadfp (I x.Op) ty3 rfl rfl) ?_
        refine gN rfl q4 (EvN.ieq rfl rfl) ?_
        refine oN (EvN.pickF rfl q4 (Bo (x.Op == (5 : Int))) rfl) ?_
        obtain rfl := Option.some.inj h
        exact js3 _ _ ⟨(), trivial, cutW rfl (weak_cons rfl weak_nil)⟩
    · intro _ _
      replace h := ks3
      clear ks3
      refine oN (EvN.asg (Bo s3) rfl) ?_
      refine TO.nil ?_
      refine T.ret ?_
      obtain rfl := Option.some.inj h
      repeat first | refine retS ?_ | refine retB ?_
      exact Fin.ret (vs := [Bo s3]) (.cons (.tmp rfl) .nil) (.of_isF 9 _ rfl)

theorem F_impl_conflict_P (x : Ximpl_Instr) (y : Ximpl_Instr) {q : Bool} (h : F_impl_conflict x y = some q) : PCall Try.prog 82 [.agg (Ximpl_Instr.c x), .agg (Ximpl_Instr.c y)] (Bo q) := by
  refine PCall.mkT Try.func82 rfl (by kernel_rfl) rfl (by kernel_rfl) (e0 := envOf [(0, .agg (Ximpl_Instr.c x)), (1, .agg (Ximpl_Instr.c y))]) (weak_cons rfl (weak_cons rfl weak_nil)) ?_
  refine T.seq ?_
  refine T.region ?_
  refine oN (EvN.bxF [I x.Op, I x.Loc, I x.Reg, I x.Val] rfl rfl rfl) ?_
  refine oN (EvN.bxF [I y.Op, I y.Loc, I y.Reg, I y.Val] rfl rfl rfl) ?_
  refine oN (EvN.asg (Bo false) rfl) ?_
  refine TO.nil ?_
  refine T.seq ?_
  refine T.region ?_
  refine oN (EvN.fafp Try.underlying81 rfl (by kernel_rfl) rfl) ?_
  refine oN (EvN.loadfp (I x.Op) ty3 rfl rfl) ?_
  refine oN (EvN.ine rfl rfl) ?_
  refine oN (EvN.mv (Bo (x.Op != (4 : Int))) rfl) ?_
  obtain ⟨s1, h, ks1⟩ := bindL h
  refine TO.joinF (G := Unit) 4 (fun _ => True) (fun _ => [(12, Bo s1), (3, .fp (Ximpl_Instr.c y) 0), (2, .fp (Ximpl_Instr.c x) 0)]) (fun _ => []) ?_ (fun js1 => ?_)
  rotate_left
  · clear ks1
    rcases bifL h with ⟨q2, h⟩ | ⟨q2, h⟩
    · refine gN rfl q2 (EvN.fafp Try.underlying81 rfl (by kernel_rfl) rfl) ?_
      refine gN rfl q2 (EvN.loadfp (I y.Op) ty3 rfl rfl) ?_
      refine gN rfl q2 (EvN.ine rfl rfl) ?_
      refine oN (EvN.pickT rfl q2 (Bo (y.Op != (4 : Int))) rfl) ?_
      obtain rfl := Option.some.inj h
      exact js1 _ _ ⟨(), trivial, cutW rfl (weak_cons rfl (weak_cons rfl (weak_cons rfl weak_nil)))⟩
    · refine gS rfl q2 ?_
      refine gS rfl q2 ?_
      refine gS rfl q2 ?_
      refine oN (EvN.pickF rfl q2 (Bo false) rfl) ?_
      obtain rfl := Option.some.inj h
      exact js1 _ _ ⟨(), trivial, cutW rfl (weak_cons rfl (weak_cons rfl (weak_cons rfl weak_nil)))⟩
  · intro _ _
    replace h := ks1
    clear ks1
    refine oN (EvN.mv (Bo s1) rfl) ?_
    obtain ⟨s3, h, ks3⟩ := bindL h
    refine TO.joinF (G := Unit) 6 (fun _ => True) (fun _ => [(19, Bo s3), (3, .fp (Ximpl_Instr.c y) 0), (2, .fp (Ximpl_Instr.c x) 0)]) (fun _ => []) ?_ (fun js3 => ?_)
    rotate_left
    · clear ks3
      rcases bifL h with ⟨q4, h⟩ | ⟨q4, h⟩
      · refine gN rfl q4 (EvN.fafp Try.underlying81 rfl (by kernel_rfl) rfl) ?_
        refine gN rfl q4 (EvN.loadfp (I x.Loc) ty3 rfl rfl) ?_
        refine gN rfl q4 (EvN.fafp Try.underlying81 rfl (by kernel_rfl) rfl) ?_
        refine gN rfl q4 (EvN.loadfp (I y.Loc) ty3 rfl rfl) ?_
        refine gN rfl q4 (EvN.ieq rfl rfl) ?_
        refine oN (EvN.pickT rfl q4 (Bo (x.Loc == y.Loc)) rfl) ?_
        obtain rfl := Option.some.inj h
        exact js3 _ _ ⟨(), trivial, cutW rfl (weak_cons rfl (weak_cons rfl (weak_cons rfl weak_nil)))⟩
      · refine gS rfl q4 ?_
        refine gS rfl q4 ?_
        refine gS rfl q4 ?_
        refine gS rfl q4 ?_
        refine gS rfl q4 ?_
        refine oN (EvN.pickF rfl q4 (Bo false) rfl) ?_
        obtain rfl := Option.some.inj h
        exact js3 _ _ ⟨(), trivial, cutW rfl (weak_cons rfl (weak_cons rfl (weak_cons rfl weak_nil)))⟩
    · intro _ _
      replace h := ks3
      clear ks3
      refine oN (EvN.mv (Bo s3) rfl) ?_
      obtain ⟨s5, h, ks5⟩ := bindL h
      refine TO.joinF (G := Unit) 7 (fun _ => True) (fun _ => [(27, Bo s5)]) (fun _ => []) ?_ (fun js5 => ?_)
      rotate_left
      · clear ks5
        rcases bifL h with ⟨q6, h⟩ | ⟨q6, h⟩
        · refine gN rfl q6 (EvN.loadfp (.agg (Ximpl_Instr.c x)) ty81 rfl rfl) ?_
          obtain ⟨v7, cv7, h⟩ := bindL h
          refine gN rfl q6 (EvN.call rfl rfl rfl (F_impl_Instr_writes_P x cv7) rfl) ?_
          refine gN rfl q6 (EvN.mv (Bo v7) rfl) ?_
          obtain ⟨s8, h, ks8⟩ := bindL h
          refine TO.joinF (G := Unit) 3 (fun _ => True) (fun _ => [(26, Bo s8), (20, Bo s3)]) (fun _ => []) ?_ (fun js8 => ?_)
          rotate_left
          · clear ks8
            rcases bifL h with ⟨q9, h⟩ | ⟨q9, h⟩
            · refine gS rfl q9 ?_
              refine gS rfl q9 ?_
              refine gN rfl q6 (EvN.pickT rfl q9 (Bo true) rfl) ?_
              obtain rfl := Option.some.inj h
              exact js8 _ _ ⟨(), trivial, cutW rfl (weak_cons rfl (weak_cons rfl weak_nil))⟩
            · refine gN rfl q9 (EvN.loadfp (.agg (Ximpl_Instr.c y)) ty81 rfl rfl) ?_
              obtain ⟨v10, cv10, h⟩ := bindL h
              refine gN rfl q9 (EvN.call rfl rfl rfl (F_impl_Instr_writes_P y cv10) rfl) ?_
              refine gN rfl q6 (EvN.pickF rfl q9 (Bo v10) rfl) ?_
              obtain rfl := Option.some.inj h
              exact js8 _ _ ⟨(), trivial, cutW rfl (weak_cons rfl (weak_cons rfl weak_nil))⟩
          · intro _ _
            replace h := ks8
            clear ks8
            refine oN (EvN.pickT rfl q6 (Bo s8) rfl) ?_
            obtain rfl := Option.some.inj h
            exact js5 _ _ ⟨(), trivial, cutW rfl (weak_cons rfl weak_nil)⟩
        · refine gS rfl q6 ?_
          refine gS rfl q6 ?_
          refine gS rfl q6 ?_
          refine gU rfl ?_
          refine gU rfl ?_
          refine gS rfl q6 ?_
          refine oN (EvN.pickF rfl q6 (Bo false) rfl) ?_
          obtain rfl := Option.some.inj h
          exact js5 _ _ ⟨(), trivial, cutW rfl (weak_cons rfl weak_nil)⟩
      · intro _ _
        replace h := ks5
        clear ks5
        refine oN (EvN.asg (Bo s5) rfl) ?_
        refine TO.nil ?_
        refine T.ret ?_
        obtain rfl := Option.some.inj h
        repeat first | refine retS ?_ | refine retB ?_
        exact Fin.ret (vs := [Bo s5]) (.cons (.tmp rfl) .nil) (.of_isF 9 _ rfl)

theorem F_impl_RacesOf_P (p : List (List Ximpl_Instr)) {q : (List Ximpl_Race)} (h : F_impl_RacesOf p = some q) : PCall Try.prog 24 [eL (cL Ximpl_Instr.c) p] (eL Ximpl_Race.c q) := by
  refine PCall.mkT Try.func24 rfl (by kernel_rfl) rfl (by kernel_rfl) (e0 := envOf [(0, eL (cL Ximpl_Instr.c) p)]) (weak_cons rfl weak_nil) ?_
  refine T.seq ?_
  refine T.region ?_
  refine oN (EvN.asg (.nil) rfl) ?_
  refine TO.nil ?_
  refine T.seq ?_
  refine T.seq ?_
  refine T.region ?_
  refine oN (EvN.mv (eL (cL Ximpl_Instr.c) p) rfl) ?_
  obtain ⟨v1, cv1, h⟩ := bindL h
  refine oN (EvN.call rfl rfl rfl (F_impl_ProgramValid_P p cv1) rfl) ?_
  refine oN (EvN.not rfl) ?_
  refine TO.nil ?_
  refine T.cond rfl (fun q2 => ?_) (fun q2 => ?_)
  · replace h := condT q2 h
    refine T.seq ?_
    refine T.region ?_
    refine oN (EvN.asg (.nil) rfl) ?_
    refine TO.nil ?_
    refine T.ret ?_
    obtain rfl := Option.some.inj h
    repeat first | refine retS ?_ | refine retB ?_
    exact Fin.ret (vs := [.nil]) (.cons (.tmp rfl) .nil) .nil0
  · replace h := condF q2 h
    refine T.skip ?_
    refine T.seq ?_
    refine T.reserve ?_
    refine T.region ?_
    refine oN (EvN.asg (hS true 0 0 4 (([] : List Ximpl_Race).length)) rfl) ?_
    refine TO.nil ?_
    obtain ⟨s3, h, ks3⟩ := bindL h
    refine T.joinF (G := (Bool × Nat)) (fun gh => (gh.1 = true → s3 = [])) (fun gh => [(3, hS gh.1 0 gh.2 4 s3.length)]) (fun gh => [bE gh.1 gh.2 4 99 (s3.map Ximpl_Race.c)]) (fun gh n51 => ?_) ?_
    · clear h
      have h := ks3
      clear ks3
      obtain ⟨b50, u49⟩ := gh
      refine T.seq ?_
      refine T.region ?_
      refine oN (EvN.mv (hS b50 0 u49 4 s3.length) rfl) ?_
      refine oN (EvN.asg (hS b50 0 u49 4 s3.length) rfl) ?_
      refine TO.nil ?_
      refine T.ret ?_
      obtain rfl := Option.some.inj h
      repeat first | refine retS ?_ | refine retB ?_
      exact Fin.ret (vs := [hS b50 0 u49 4 s3.length]) (.cons (.tmp rfl) .nil) (Fz.own (g := b50) (ver := u49) (l := s3) rfl rfl rfl n51 Ximpl_Race.isF)
    · clear ks3
      refine T.seq ?_
      refine T.region ?_
      refine oN (EvN.mv (eL (cL Ximpl_Instr.c) p) rfl) ?_
      obtain ⟨v4, cv4, h⟩ := bindL h
      refine oN (EvN.call rfl rfl rfl (F_impl_instrs_P p cv4) rfl) ?_
      refine oN (EvN.lenL sl93 rfl) ?_
      refine oN (EvN.mv (I (0 : Int)) rfl) ?_
      refine TO.nil ?_
      refine T.block ?_
      refine T.loop (S := (List Ximpl_Race) × Int) (G := (Bool × Nat)) (F_impl_RacesOf_L9 p v4) (fun s8 gh => (gh.1 = true → s8.1 = [])) (fun s8 gh => [(16, I s8.2), (15, I (v4.length : Int)), (14, eL Ximpl_Gap.c v4), (3, hS gh.1 0 gh.2 4 s8.1.length), (0, eL (cL Ximpl_Instr.c) p)]) (fun s8 gh => [bE gh.1 gh.2 4 99 (s8.1.map Ximpl_Race.c)]) (s0 := (([] : List Ximpl_Race), (0 : Int))) (true, 0) h (fun _ => rfl) (cutW rfl (weak_cons rfl (weak_cons rfl (weak_cons rfl (weak_cons rfl (weak_cons rfl weak_nil)))))) (fun s8 gh ws8 h n12 => ?_)
      obtain ⟨b11, u10⟩ := gh
      refine T.seq ?_
      refine T.region ?_
      refine oN (EvN.ilt rfl rfl) ?_
      refine TO.nil ?_
      refine T.seq ?_
      refine T.cond rfl (fun q13 => ?_) (fun q13 => ?_)
      · replace h := condT q13 h
        refine T.skip ?_
        obtain ⟨s14, h, ks14⟩ := bindL h
        refine T.joinF (G := (Bool × Nat)) (fun gh => (gh.1 = true → s14 = [])) (fun gh => [(16, I s8.2), (15, I (v4.length : Int)), (14, eL Ximpl_Gap.c v4), (3, hS gh.1 0 gh.2 4 s14.length), (0, eL (cL Ximpl_Instr.c) p)]) (fun gh => [bE gh.1 gh.2 4 99 (s14.map Ximpl_Race.c)]) (fun gh n47 => ?_) ?_
        · clear h
          have h := ks14
          clear ks14
          obtain ⟨b46, u45⟩ := gh
          refine T.region ?_
          obtain ⟨g48, h⟩ := gdW h
          refine oN (EvN.add rfl rfl g48) ?_
          refine oN (EvN.mv (I (s8.2 + (1 : Int))) rfl) ?_
          refine TO.nil ?_
          obtain rfl := Option.some.inj h
          exact ⟨(s14, (s8.2 + (1 : Int))), (b46, u45), rfl, n47, cutW rfl (weak_cons rfl (weak_cons rfl (weak_cons rfl (weak_cons rfl (weak_cons rfl weak_nil)))))⟩
        · clear ks14
          refine T.block ?_
          refine T.seq ?_
          refine T.region ?_
          obtain ⟨g15, h⟩ := gdD h
          refine oN (EvN.ixL sl93 rfl rfl g15 (fun _ => rfl)) ?_
          refine oN (EvN.loadfp (.agg (Ximpl_Gap.c (v4.getD s8.2.toNat default))) ty96 rfl rfl) ?_
          refine oA (EvA.al zs96 rfl rfl) ?_
          refine oV (EvA.st (cs := [I ((v4.getD s8.2.toNat default).Thread), I ((v4.getD s8.2.toNat default).Index)]) ⟨0, 2, 96, [[I ((v4.getD s8.2.toNat default).Thread), I ((v4.getD s8.2.toNat default).Index)]]⟩ ty96 rfl rfl rfl rfl rfl rfl rfl rfl rfl) ?_
          refine TO.nil ?_
          refine T.seq ?_
          refine T.region ?_
          refine oN (EvN.mv (eL (cL Ximpl_Instr.c) p) rfl) ?_
          obtain ⟨v16, cv16, h⟩ := bindL h
          refine oN (EvN.call rfl rfl rfl (F_impl_instrs_P p cv16) rfl) ?_
          refine oN (EvN.lenL sl93 rfl) ?_
          refine oN (EvN.mv (I (0 : Int)) rfl) ?_
          refine TO.nil ?_
          refine T.block ?_
          refine T.loop (S := (List Ximpl_Race) × Int) (G := (Bool × Nat)) (F_impl_RacesOf_L21 p v4 s8 v16) (fun s20 gh => (gh.1 = true → s20.1 = [])) (fun s20 gh => [(23, I s20.2), (22, I (v16.length : Int)), (21, eL Ximpl_Gap.c v16), (5, .hp 1 0 2 0 0), (16, I s8.2), (15, I (v4.length : Int)), (14, eL Ximpl_Gap.c v4), (3, hS gh.1 0 gh.2 4 s20.1.length), (0, eL (cL Ximpl_Instr.c) p)]) (fun s20 gh => [bE gh.1 gh.2 4 99 (s20.1.map Ximpl_Race.c), some ⟨0, 2, 96, [[I ((v4.getD s8.2.toNat default).Thread), I ((v4.getD s8.2.toNat default).Index)]]⟩]) (s0 := (s8.1, (0 : Int))) (b11, u10) h n12 (cutW rfl (weak_cons rfl (weak_cons rfl (weak_cons rfl (weak_cons rfl (weak_cons rfl (weak_cons rfl (weak_cons rfl (weak_cons rfl (weak_cons rfl weak_nil)))))))))) (fun s20 gh ws20 h n24 => ?_)
          obtain ⟨b23, u22⟩ := gh
          refine T.seq ?_
          refine T.region ?_
          refine oN (EvN.ilt rfl rfl) ?_
          refine TO.nil ?_
          refine T.seq ?_
          refine T.cond rfl (fun q25 => ?_) (fun q25 => ?_)
          · replace h := condT q25 h
            refine T.skip ?_
            obtain ⟨s26, h, ks26⟩ := bindL h
            refine T.joinF (G := (Bool × Nat)) (fun gh => (gh.1 = true → s26 = [])) (fun gh => [(3, hS gh.1 0 gh.2 4 s26.length), (23, I s20.2), (22, I (v16.length : Int)), (21, eL Ximpl_Gap.c v16), (5, .hp 1 0 2 0 0), (16, I s8.2), (15, I (v4.length : Int)), (14, eL Ximpl_Gap.c v4), (0, eL (cL Ximpl_Instr.c) p)]) (fun gh => [bE gh.1 gh.2 4 99 (s26.map Ximpl_Race.c), some ⟨0, 2, 96, [[I ((v4.getD s8.2.toNat default).Thread), I ((v4.getD s8.2.toNat default).Index)]]⟩]) (fun gh n43 => ?_) ?_
            · clear h
              have h := ks26
              clear ks26
              obtain ⟨b42, u41⟩ := gh
              refine T.region ?_
              obtain ⟨g44, h⟩ := gdW h
              refine oN (EvN.add rfl rfl g44) ?_
              refine oN (EvN.mv (I (s20.2 + (1 : Int))) rfl) ?_
              refine TO.nil ?_
              obtain rfl := Option.some.inj h
              exact ⟨(s26, (s20.2 + (1 : Int))), (b42, u41), rfl, n43, cutW rfl (weak_cons rfl (weak_cons rfl (weak_cons rfl (weak_cons rfl (weak_cons rfl (weak_cons rfl (weak_cons rfl (weak_cons rfl (weak_cons rfl weak_nil)))))))))⟩
            · clear ks26
              refine T.block ?_
              refine T.seq ?_
              refine T.region ?_
              obtain ⟨g27, h⟩ := gdD h
              refine oN (EvN.ixL sl93 rfl rfl g27 (fun _ => rfl)) ?_
              refine oN (EvN.loadfp (.agg (Ximpl_Gap.c (v16.getD s20.2.toNat default))) ty96 rfl rfl) ?_
              refine oA (EvA.al zs96 rfl rfl) ?_
              refine oV (EvA.st (cs := [I ((v16.getD s20.2.toNat default).Thread), I ((v16.getD s20.2.toNat default).Index)]) ⟨0, 2, 96, [[I ((v16.getD s20.2.toNat default).Thread), I ((v16.getD s20.2.toNat default).Index)]]⟩ ty96 rfl rfl rfl rfl rfl rfl rfl rfl rfl) ?_
              refine TO.nil ?_
              refine T.seq ?_
              refine T.reserve ?_
              refine T.reserve ?_
              refine T.drawF (fun i => [([], false), ([], false), ([1], false), ([], false), ([], false), ([], false), ([1], false), ([], false), ([], false), ([], false), ([], false), ([2], false), ([], false), ([], false), ([], false), ([2], false), ([], false), ([], false), ([3], true), ([4], true), ([3], true), ([4], true)].getD i ([], false)) (by kernel_rfl) (by kernel_rfl) ?_
              refine fN rfl (EvN.mv (eL (cL Ximpl_Instr.c) p) rfl) ?_
              refine fN rfl (EvN.fahp Try.underlying96 rfl (by kernel_rfl) rfl) ?_
              refine fR [1] rfl (fun G hG => EvA.loadhp (I ((v4.getD s8.2.toNat default).Thread)) ty3 rfl (hG.a0 rfl) rfl rfl rfl rfl) ?_
              obtain ⟨g28, h⟩ := gdD h
              refine fN rfl (EvN.ixL sl23 rfl rfl g28 (fun _ => rfl)) ?_
              refine fN rfl (EvN.loadfp (eL Ximpl_Instr.c (p.getD ((v4.getD s8.2.toNat default).Thread).toNat default)) ty78 rfl rfl) ?_
              refine fN rfl (EvN.fahp Try.underlying96 rfl (by kernel_rfl) rfl) ?_
              refine fR [1] rfl (fun G hG => EvA.loadhp (I ((v4.getD s8.2.toNat default).Index)) ty3 rfl (hG.a0 rfl) rfl rfl rfl rfl) ?_
              obtain ⟨g29, h⟩ := gdD h
              refine fN rfl (EvN.ixL sl78 rfl rfl g29 (fun _ => rfl)) ?_
              refine fN rfl (EvN.loadfp (.agg (Ximpl_Instr.c ((p.getD ((v4.getD s8.2.toNat default).Thread).toNat default).getD ((v4.getD s8.2.toNat default).Index).toNat default))) ty81 rfl rfl) ?_
              refine fN rfl (EvN.mv (eL (cL Ximpl_Instr.c) p) rfl) ?_
              refine fN rfl (EvN.fahp Try.underlying96 rfl (by kernel_rfl) rfl) ?_
              refine fR [2] rfl (fun G hG => EvA.loadhp (I ((v16.getD s20.2.toNat default).Thread)) ty3 rfl (hG.a0 rfl) rfl rfl rfl rfl) ?_
              obtain ⟨g30, h⟩ := gdD h
              refine fN rfl (EvN.ixL sl23 rfl rfl g30 (fun _ => rfl)) ?_
              refine fN rfl (EvN.loadfp (eL Ximpl_Instr.c (p.getD ((v16.getD s20.2.toNat default).Thread).toNat default)) ty78 rfl rfl) ?_
              refine fN rfl (EvN.fahp Try.underlying96 rfl (by kernel_rfl) rfl) ?_
              refine fR [2] rfl (fun G hG => EvA.loadhp (I ((v16.getD s20.2.toNat default).Index)) ty3 rfl (hG.a0 rfl) rfl rfl rfl rfl) ?_
              obtain ⟨g31, h⟩ := gdD h
              refine fN rfl (EvN.ixL sl78 rfl rfl g31 (fun _ => rfl)) ?_
              refine fN rfl (EvN.loadfp (.agg (Ximpl_Instr.c ((p.getD ((v16.getD s20.2.toNat default).Thread).toNat default).getD ((v16.getD s20.2.toNat default).Index).toNat default))) ty81 rfl rfl) ?_
              refine fW 3 [] rfl rfl (fun G hG => EvA.alR 3 zs81 rfl rfl (hG.a0 rfl)) ?_
              refine fW 4 [] rfl rfl (fun G hG => EvA.alR 4 zs81 rfl rfl (hG.a0 rfl)) ?_
              refine fV 3 [] rfl rfl (fun G hG => EvA.st (cs := [I (((p.getD ((v4.getD s8.2.toNat default).Thread).toNat default).getD ((v4.getD s8.2.toNat default).Index).toNat default).Op), I (((p.getD ((v4.getD s8.2.toNat default).Thread).toNat default).getD ((v4.getD s8.2.toNat default).Index).toNat default).Loc), I (((p.getD ((v4.getD s8.2.toNat default).Thread).toNat default).getD ((v4.getD s8.2.toNat default).Index).toNat default).Reg), I (((p.getD ((v4.getD s8.2.toNat default).Thread).toNat default).getD ((v4.getD s8.2.toNat default).Index).toNat default).Val)]) ⟨0, 4, 81, [[I (((p.getD ((v4.getD s8.2.toNat default).Thread).toNat default).getD ((v4.getD s8.2.toNat default).Index).toNat default).Op), I (((p.getD ((v4.getD s8.2.toNat default).Thread).toNat default).getD ((v4.getD s8.2.toNat default).Index).toNat default).Loc), I (((p.getD ((v4.getD s8.2.toNat default).Thread).toNat default).getD ((v4.getD s8.2.toNat default).Index).toNat default).Reg), I (((p.getD ((v4.getD s8.2.toNat default).Thread).toNat default).getD ((v4.getD s8.2.toNat default).Index).toNat default).Val)]]⟩ ty81 rfl rfl (hG.a0 rfl) rfl rfl rfl rfl rfl rfl) ?_
              refine fV 4 [] rfl rfl (fun G hG => EvA.st (cs := [I (((p.getD ((v16.getD s20.2.toNat default).Thread).toNat default).getD ((v16.getD s20.2.toNat default).Index).toNat default).Op), I (((p.getD ((v16.getD s20.2.toNat default).Thread).toNat default).getD ((v16.getD s20.2.toNat default).Index).toNat default).Loc), I (((p.getD ((v16.getD s20.2.toNat default).Thread).toNat default).getD ((v16.getD s20.2.toNat default).Index).toNat default).Reg), I (((p.getD ((v16.getD s20.2.toNat default).Thread).toNat default).getD ((v16.getD s20.2.toNat default).Index).toNat default).Val)]) ⟨0, 4, 81, [[I (((p.getD ((v16.getD s20.2.toNat default).Thread).toNat default).getD ((v16.getD s20.2.toNat default).Index).toNat default).Op), I (((p.getD ((v16.getD s20.2.toNat default).Thread).toNat default).getD ((v16.getD s20.2.toNat default).Index).toNat default).Loc), I (((p.getD ((v16.getD s20.2.toNat default).Thread).toNat default).getD ((v16.getD s20.2.toNat default).Index).toNat default).Reg), I (((p.getD ((v16.getD s20.2.toNat default).Thread).toNat default).getD ((v16.getD s20.2.toNat default).Index).toNat default).Val)]]⟩ ty81 rfl rfl (hG.a0 rfl) rfl rfl rfl rfl rfl rfl) ?_
              refine TF.nil ?_
              refine T.seq ?_
              refine T.clean (H0 := [bE b23 u22 4 99 (s20.1.map Ximpl_Race.c), some ⟨0, 2, 96, [[I ((v4.getD s8.2.toNat default).Thread), I ((v4.getD s8.2.toNat default).Index)]]⟩, some ⟨0, 2, 96, [[I ((v16.getD s20.2.toNat default).Thread), I ((v16.getD s20.2.toNat default).Index)]]⟩, some ⟨0, 4, 81, [[I (((p.getD ((v4.getD s8.2.toNat default).Thread).toNat default).getD ((v4.getD s8.2.toNat default).Index).toNat default).Op), I (((p.getD ((v4.getD s8.2.toNat default).Thread).toNat default).getD ((v4.getD s8.2.toNat default).Index).toNat default).Loc), I (((p.getD ((v4.getD s8.2.toNat default).Thread).toNat default).getD ((v4.getD s8.2.toNat default).Index).toNat default).Reg), I (((p.getD ((v4.getD s8.2.toNat default).Thread).toNat default).getD ((v4.getD s8.2.toNat default).Index).toNat default).Val)]]⟩, some ⟨0, 4, 81, [[I (((p.getD ((v16.getD s20.2.toNat default).Thread).toNat default).getD ((v16.getD s20.2.toNat default).Index).toNat default).Op), I (((p.getD ((v16.getD s20.2.toNat default).Thread).toNat default).getD ((v16.getD s20.2.toNat default).Index).toNat default).Loc), I (((p.getD ((v16.getD s20.2.toNat default).Thread).toNat default).getD ((v16.getD s20.2.toNat default).Index).toNat default).Reg), I (((p.getD ((v16.getD s20.2.toNat default).Thread).toNat default).getD ((v16.getD s20.2.toNat default).Index).toNat default).Val)]]⟩]) (e0 := envOf [(9, .hp 4 0 4 0 0), (8, .hp 3 0 4 0 0), (7, .hp 2 0 2 0 0), (23, I s20.2), (22, I (v16.length : Int)), (21, eL Ximpl_Gap.c v16), (5, .hp 1 0 2 0 0), (16, I s8.2), (15, I (v4.length : Int)), (14, eL Ximpl_Gap.c v4), (3, hS b23 0 u22 4 s20.1.length), (0, eL (cL Ximpl_Instr.c) p)]) rfl (weak_cons rfl (weak_cons rfl (weak_cons rfl (weak_cons rfl (weak_cons rfl (weak_cons rfl (weak_cons rfl (weak_cons rfl (weak_cons rfl (weak_cons rfl (weak_cons rfl (weak_cons rfl weak_nil)))))))))))) ?_
              refine T.region ?_
              refine oN (EvN.fahp Try.underlying96 rfl (by kernel_rfl) rfl) ?_
              refine oA (EvA.loadhp (I ((v4.getD s8.2.toNat default).Thread)) ty3 rfl rfl rfl rfl rfl rfl) ?_
              refine oN (EvN.fahp Try.underlying96 rfl (by kernel_rfl) rfl) ?_
              refine oA (EvA.loadhp (I ((v16.getD s20.2.toNat default).Thread)) ty3 rfl rfl rfl rfl rfl rfl) ?_
              refine oN (EvN.ilt rfl rfl) ?_
              refine oN (EvN.mv (Bo (decide (((v4.getD s8.2.toNat default).Thread) < ((v16.getD s20.2.toNat default).Thread)))) rfl) ?_
              obtain ⟨s32, h, ks32⟩ := bindL h
              refine TO.joinF (G := Unit) 4 (fun _ => True) (fun _ => [(54, Bo s32), (9, .hp 4 0 4 0 0), (8, .hp 3 0 4 0 0), (7, .hp 2 0 2 0 0), (23, I s20.2), (22, I (v16.length : Int)), (21, eL Ximpl_Gap.c v16), (5, .hp 1 0 2 0 0), (16, I s8.2), (15, I (v4.length : Int)), (14, eL Ximpl_Gap.c v4), (3, hS b23 0 u22 4 s20.1.length), (0, eL (cL Ximpl_Instr.c) p)]) (fun _ => [bE b23 u22 4 99 (s20.1.map Ximpl_Race.c), some ⟨0, 2, 96, [[I ((v4.getD s8.2.toNat default).Thread), I ((v4.getD s8.2.toNat default).Index)]]⟩, some ⟨0, 2, 96, [[I ((v16.getD s20.2.toNat default).Thread), I ((v16.getD s20.2.toNat default).Index)]]⟩, some ⟨0, 4, 81, [[I (((p.getD ((v4.getD s8.2.toNat default).Thread).toNat default).getD ((v4.getD s8.2.toNat default).Index).toNat default).Op), I (((p.getD ((v4.getD s8.2.toNat default).Thread).toNat default).getD ((v4.getD s8.2.toNat default).Index).toNat default).Loc), I (((p.getD ((v4.getD s8.2.toNat default).Thread).toNat default).getD ((v4.getD s8.2.toNat default).Index).toNat default).Reg), I (((p.getD ((v4.getD s8.2.toNat default).Thread).toNat default).getD ((v4.getD s8.2.toNat default).Index).toNat default).Val)]]⟩, some ⟨0, 4, 81, [[I (((p.getD ((v16.getD s20.2.toNat default).Thread).toNat default).getD ((v16.getD s20.2.toNat default).Index).toNat default).Op), I (((p.getD ((v16.getD s20.2.toNat default).Thread).toNat default).getD ((v16.getD s20.2.toNat default).Index).toNat default).Loc), I (((p.getD ((v16.getD s20.2.toNat default).Thread).toNat default).getD ((v16.getD s20.2.toNat default).Index).toNat default).Reg), I (((p.getD ((v16.getD s20.2.toNat default).Thread).toNat default).getD ((v16.getD s20.2.toNat default).Index).toNat default).Val)]]⟩]) ?_ (fun js32 => ?_)
              rotate_left
              · clear ks32
                rcases bifL h with ⟨q33, h⟩ | ⟨q33, h⟩
                · refine gA rfl q33 (EvA.loadhp (.agg [I (((p.getD ((v4.getD s8.2.toNat default).Thread).toNat default).getD ((v4.getD s8.2.toNat default).Index).toNat default).Op), I (((p.getD ((v4.getD s8.2.toNat default).Thread).toNat default).getD ((v4.getD s8.2.toNat default).Index).toNat default).Loc), I (((p.getD ((v4.getD s8.2.toNat default).Thread).toNat default).getD ((v4.getD s8.2.toNat default).Index).toNat default).Reg), I (((p.getD ((v4.getD s8.2.toNat default).Thread).toNat default).getD ((v4.getD s8.2.toNat default).Index).toNat default).Val)]) ty81 rfl rfl rfl rfl rfl rfl) ?_
                  refine gA rfl q33 (EvA.loadhp (.agg [I (((p.getD ((v16.getD s20.2.toNat default).Thread).toNat default).getD ((v16.getD s20.2.toNat default).Index).toNat default).Op), I (((p.getD ((v16.getD s20.2.toNat default).Thread).toNat default).getD ((v16.getD s20.2.toNat default).Index).toNat default).Loc), I (((p.getD ((v16.getD s20.2.toNat default).Thread).toNat default).getD ((v16.getD s20.2.toNat default).Index).toNat default).Reg), I (((p.getD ((v16.getD s20.2.toNat default).Thread).toNat default).getD ((v16.getD s20.2.toNat default).Index).toNat default).Val)]) ty81 rfl rfl rfl rfl rfl rfl) ?_
                  obtain ⟨v34, cv34, h⟩ := bindL h
                  refine gN rfl q33 (EvN.call rfl rfl rfl (F_impl_conflict_P (⟨((p.getD ((v4.getD s8.2.toNat default).Thread).toNat default).getD ((v4.getD s8.2.toNat default).Index).toNat default).Op, ((p.getD ((v4.getD s8.2.toNat default).Thread).toNat default).getD ((v4.getD s8.2.toNat default).Index).toNat default).Loc, ((p.getD ((v4.getD s8.2.toNat default).Thread).toNat default).getD ((v4.getD s8.2.toNat default).Index).toNat default).Reg, ((p.getD ((v4.getD s8.2.toNat default).Thread).toNat default).getD ((v4.getD s8.2.toNat default).Index).toNat default).Val⟩ : Ximpl_Instr) (⟨((p.getD ((v16.getD s20.2.toNat default).Thread).toNat default).getD ((v16.getD s20.2.toNat default).Index).toNat default).Op, ((p.getD ((v16.getD s20.2.toNat default).Thread).toNat default).getD ((v16.getD s20.2.toNat default).Index).toNat default).Loc, ((p.getD ((v16.getD s20.2.toNat default).Thread).toNat default).getD ((v16.getD s20.2.toNat default).Index).toNat default).Reg, ((p.getD ((v16.getD s20.2.toNat default).Thread).toNat default).getD ((v16.getD s20.2.toNat default).Index).toNat default).Val⟩ : Ximpl_Instr) cv34) rfl) ?_
                  refine oN (EvN.pickT rfl q33 (Bo v34) rfl) ?_
                  obtain rfl := Option.some.inj h
                  exact js32 _ _ ⟨(), trivial, cutW rfl (weak_cons rfl (weak_cons rfl (weak_cons rfl (weak_cons rfl (weak_cons rfl (weak_cons rfl (weak_cons rfl (weak_cons rfl (weak_cons rfl (weak_cons rfl (weak_cons rfl (weak_cons rfl (weak_cons rfl weak_nil)))))))))))))⟩
                · refine gS rfl q33 ?_
                  refine gS rfl q33 ?_
                  refine gS rfl q33 ?_
                  refine oN (EvN.pickF rfl q33 (Bo false) rfl) ?_
                  obtain rfl := Option.some.inj h
                  exact js32 _ _ ⟨(), trivial, cutW rfl (weak_cons rfl (weak_cons rfl (weak_cons rfl (weak_cons rfl (weak_cons rfl (weak_cons rfl (weak_cons rfl (weak_cons rfl (weak_cons rfl (weak_cons rfl (weak_cons rfl (weak_cons rfl (weak_cons rfl weak_nil)))))))))))))⟩
              · intro _ _
                replace h := ks32
                clear ks32
                refine oN (EvN.mv (Bo s32) rfl) ?_
                obtain ⟨s35, h, ks35⟩ := bindL h
                refine TO.joinF (G := Unit) 9 (fun _ => True) (fun _ => [(64, Bo s35), (7, .hp 2 0 2 0 0), (23, I s20.2), (22, I (v16.length : Int)), (21, eL Ximpl_Gap.c v16), (5, .hp 1 0 2 0 0), (16, I s8.2), (15, I (v4.length : Int)), (14, eL Ximpl_Gap.c v4), (3, hS b23 0 u22 4 s20.1.length), (0, eL (cL Ximpl_Instr.c) p)]) (fun _ => [bE b23 u22 4 99 (s20.1.map Ximpl_Race.c), some ⟨0, 2, 96, [[I ((v4.getD s8.2.toNat default).Thread), I ((v4.getD s8.2.toNat default).Index)]]⟩, some ⟨0, 2, 96, [[I ((v16.getD s20.2.toNat default).Thread), I ((v16.getD s20.2.toNat default).Index)]]⟩, some ⟨0, 4, 81, [[I (((p.getD ((v4.getD s8.2.toNat default).Thread).toNat default).getD ((v4.getD s8.2.toNat default).Index).toNat default).Op), I (((p.getD ((v4.getD s8.2.toNat default).Thread).toNat default).getD ((v4.getD s8.2.toNat default).Index).toNat default).Loc), I (((p.getD ((v4.getD s8.2.toNat default).Thread).toNat default).getD ((v4.getD s8.2.toNat default).Index).toNat default).Reg), I (((p.getD ((v4.getD s8.2.toNat default).Thread).toNat default).getD ((v4.getD s8.2.toNat default).Index).toNat default).Val)]]⟩, some ⟨0, 4, 81, [[I (((p.getD ((v16.getD s20.2.toNat default).Thread).toNat default).getD ((v16.getD s20.2.toNat default).Index).toNat default).Op), I (((p.getD ((v16.getD s20.2.toNat default).Thread).toNat default).getD ((v16.getD s20.2.toNat default).Index).toNat default).Loc), I (((p.getD ((v16.getD s20.2.toNat default).Thread).toNat default).getD ((v16.getD s20.2.toNat default).Index).toNat default).Reg), I (((p.getD ((v16.getD s20.2.toNat default).Thread).toNat default).getD ((v16.getD s20.2.toNat default).Index).toNat default).Val)]]⟩]) ?_ (fun js35 => ?_)
                rotate_left
                · clear ks35
                  rcases bifL h with ⟨q36, h⟩ | ⟨q36, h⟩
                  · refine gN rfl q36 (EvN.fahp Try.underlying81 rfl (by kernel_rfl) rfl) ?_
                    refine gA rfl q36 (EvA.loadhp (I (((p.getD ((v4.getD s8.2.toNat default).Thread).toNat default).getD ((v4.getD s8.2.toNat default).Index).toNat default).Op)) ty3 rfl rfl rfl rfl rfl rfl) ?_
                    refine gN rfl q36 (EvN.ine rfl rfl) ?_
                    refine gN rfl q36 (EvN.mv (Bo ((((p.getD ((v4.getD s8.2.toNat default).Thread).toNat default).getD ((v4.getD s8.2.toNat default).Index).toNat default).Op) != (5 : Int))) rfl) ?_
                    obtain ⟨s37, h, ks37⟩ := bindL h
                    refine TO.joinF (G := Unit) 4 (fun _ => True) (fun _ => [(63, Bo s37), (59, Bo ((((p.getD ((v4.getD s8.2.toNat default).Thread).toNat default).getD ((v4.getD s8.2.toNat default).Index).toNat default).Op) != (5 : Int))), (58, Bo ((((p.getD ((v4.getD s8.2.toNat default).Thread).toNat default).getD ((v4.getD s8.2.toNat default).Index).toNat default).Op) != (5 : Int))), (57, I (((p.getD ((v4.getD s8.2.toNat default).Thread).toNat default).getD ((v4.getD s8.2.toNat default).Index).toNat default).Op)), (56, .hp 3 0 4 0 0), (55, Bo s32), (7, .hp 2 0 2 0 0), (23, I s20.2), (22, I (v16.length : Int)), (21, eL Ximpl_Gap.c v16), (5, .hp 1 0 2 0 0), (16, I s8.2), (15, I (v4.length : Int)), (14, eL Ximpl_Gap.c v4), (3, hS b23 0 u22 4 s20.1.length), (0, eL (cL Ximpl_Instr.c) p)]) (fun _ => [bE b23 u22 4 99 (s20.1.map Ximpl_Race.c), some ⟨0, 2, 96, [[I ((v4.getD s8.2.toNat default).Thread), I ((v4.getD s8.2.toNat default).Index)]]⟩, some ⟨0, 2, 96, [[I ((v16.getD s20.2.toNat default).Thread), I ((v16.getD s20.2.toNat default).Index)]]⟩, some ⟨0, 4, 81, [[I (((p.getD ((v4.getD s8.2.toNat default).Thread).toNat default).getD ((v4.getD s8.2.toNat default).Index).toNat default).Op), I (((p.getD ((v4.getD s8.2.toNat default).Thread).toNat default).getD ((v4.getD s8.2.toNat default).Index).toNat default).Loc), I (((p.getD ((v4.getD s8.2.toNat default).Thread).toNat default).getD ((v4.getD s8.2.toNat default).Index).toNat default).Reg), I (((p.getD ((v4.getD s8.2.toNat default).Thread).toNat default).getD ((v4.getD s8.2.toNat default).Index).toNat default).Val)]]⟩, some ⟨0, 4, 81, [[I (((p.getD ((v16.getD s20.2.toNat default).Thread).toNat default).getD ((v16.getD s20.2.toNat default).Index).toNat default).Op), I (((p.getD ((v16.getD s20.2.toNat default).Thread).toNat default).getD ((v16.getD s20.2.toNat default).Index).toNat default).Loc), I (((p.getD ((v16.getD s20.2.toNat default).Thread).toNat default).getD ((v16.getD s20.2.toNat default).Index).toNat default).Reg), I (((p.getD ((v16.getD s20.2.toNat default).Thread).toNat default).getD ((v16.getD s20.2.toNat default).Index).toNat default).Val)]]⟩]) ?_ (fun js37 => ?_)
                    rotate_left
                    · clear ks37
                      rcases bifL h with ⟨q38, h⟩ | ⟨q38, h⟩
                      · refine gS rfl q38 ?_
                        refine gS rfl q38 ?_
                        refine gS rfl q38 ?_
                        refine gN rfl q36 (EvN.pickT rfl q38 (Bo true) rfl) ?_
                        obtain rfl := Option.some.inj h
                        exact js37 _ _ ⟨(), trivial, cutW rfl (weak_cons rfl (weak_cons rfl (weak_cons rfl (weak_cons rfl (weak_cons rfl (weak_cons rfl (weak_cons rfl (weak_cons rfl (weak_cons rfl (weak_cons rfl (weak_cons rfl (weak_cons rfl (weak_cons rfl (weak_cons rfl (weak_cons rfl (weak_cons rfl weak_nil))))))))))))))))⟩
                      · refine gN rfl q38 (EvN.fahp Try.underlying81 rfl (by kernel_rfl) rfl) ?_
                        refine gA rfl q38 (EvA.loadhp (I (((p.getD ((v16.getD s20.2.toNat default).Thread).toNat default).getD ((v16.getD s20.2.toNat default).Index).toNat default).Op)) ty3 rfl rfl rfl rfl rfl rfl) ?_
                        refine gN rfl q38 (EvN.ine rfl rfl) ?_
                        refine gN rfl q36 (EvN.pickF rfl q38 (Bo ((((p.getD ((v16.getD s20.2.toNat default).Thread).toNat default).getD ((v16.getD s20.2.toNat default).Index).toNat default).Op) != (5 : Int))) rfl) ?_
                        obtain rfl := Option.some.inj h
                        exact js37 _ _ ⟨(), trivial, cutW rfl (weak_cons rfl (weak_cons rfl (weak_cons rfl (weak_cons rfl (weak_cons rfl (weak_cons rfl (weak_cons rfl (weak_cons rfl (weak_cons rfl (weak_cons rfl (weak_cons rfl (weak_cons rfl (weak_cons rfl (weak_cons rfl (weak_cons rfl (weak_cons rfl weak_nil))))))))))))))))⟩
                    · intro _ _
                      replace h := ks37
                      clear ks37
                      refine oN (EvN.pickT rfl q36 (Bo s37) rfl) ?_
                      obtain rfl := Option.some.inj h
                      exact js35 _ _ ⟨(), trivial, cutW rfl (weak_cons rfl (weak_cons rfl (weak_cons rfl (weak_cons rfl (weak_cons rfl (weak_cons rfl (weak_cons rfl (weak_cons rfl (weak_cons rfl (weak_cons rfl (weak_cons rfl weak_nil)))))))))))⟩
                  · refine gS rfl q36 ?_
                    refine gS rfl q36 ?_
                    refine gS rfl q36 ?_
                    refine gS rfl q36 ?_
                    refine gU rfl ?_
                    refine gU rfl ?_
                    refine gU rfl ?_
                    refine gS rfl q36 ?_
                    refine oN (EvN.pickF rfl q36 (Bo false) rfl) ?_
                    obtain rfl := Option.some.inj h
                    exact js35 _ _ ⟨(), trivial, cutW rfl (weak_cons rfl (weak_cons rfl (weak_cons rfl (weak_cons rfl (weak_cons rfl (weak_cons rfl (weak_cons rfl (weak_cons rfl (weak_cons rfl (weak_cons rfl (weak_cons rfl weak_nil)))))))))))⟩
                · intro _ _
                  replace h := ks35
                  clear ks35
                  refine TO.nil ?_
                  refine T.cond rfl (fun q39 => ?_) (fun q39 => ?_)
                  · replace h := condT q39 h
                    refine T.region ?_
                    refine oN (EvN.mv (hS b23 0 u22 4 s20.1.length) rfl) ?_
                    refine oA (EvA.loadhp (.agg [I ((v4.getD s8.2.toNat default).Thread), I ((v4.getD s8.2.toNat default).Index)]) ty96 rfl rfl rfl rfl rfl rfl) ?_
                    refine oA (EvA.loadhp (.agg [I ((v16.getD s20.2.toNat default).Thread), I ((v16.getD s20.2.toNat default).Index)]) ty96 rfl rfl rfl rfl rfl rfl) ?_
                    refine oN (EvN.build [I ((v4.getD s8.2.toNat default).Thread), I ((v4.getD s8.2.toNat default).Index), I ((v16.getD s20.2.toNat default).Thread), I ((v16.getD s20.2.toNat default).Index)] Try.underlying99 zs99 fs99 rfl rfl) ?_
                    refine oN (EvN.mkF (c := Ximpl_Race.c) ([(⟨(⟨(v4.getD s8.2.toNat default).Thread, (v4.getD s8.2.toNat default).Index⟩ : Ximpl_Gap), (⟨(v16.getD s20.2.toNat default).Thread, (v16.getD s20.2.toNat default).Index⟩ : Ximpl_Gap)⟩ : Ximpl_Race)] : List Ximpl_Race) [[I ((v4.getD s8.2.toNat default).Thread), I ((v4.getD s8.2.toNat default).Index), I ((v16.getD s20.2.toNat default).Thread), I ((v16.getD s20.2.toNat default).Index)]] sl35 rfl rfl rfl (fun _ => rfl) Ximpl_Race.isF rfl) ?_
                    obtain ⟨g40, h⟩ := gdL h
                    refine oA (EvA.app1 (g := b23) (l := s20.1) (⟨(⟨(v4.getD s8.2.toNat default).Thread, (v4.getD s8.2.toNat default).Index⟩ : Ximpl_Gap), (⟨(v16.getD s20.2.toNat default).Thread, (v16.getD s20.2.toNat default).Index⟩ : Ximpl_Gap)⟩ : Ximpl_Race) sl35 (by kernel_rfl) rfl rfl rfl n24 (SrcOk.fz (l := ([(⟨(⟨(v4.getD s8.2.toNat default).Thread, (v4.getD s8.2.toNat default).Index⟩ : Ximpl_Gap), (⟨(v16.getD s20.2.toNat default).Thread, (v16.getD s20.2.toNat default).Index⟩ : Ximpl_Gap)⟩ : Ximpl_Race)] : List Ximpl_Race)) rfl (fun _ => rfl)) g40) ?_
                    refine oN (EvN.asg (hS false 0 (u22 + 1) 4 ((s20.1 ++ [(⟨(⟨(v4.getD s8.2.toNat default).Thread, (v4.getD s8.2.toNat default).Index⟩ : Ximpl_Gap), (⟨(v16.getD s20.2.toNat default).Thread, (v16.getD s20.2.toNat default).Index⟩ : Ximpl_Gap)⟩ : Ximpl_Race)]).length)) rfl) ?_
                    refine TO.nil ?_
                    obtain rfl := Option.some.inj h
                    exact ⟨(false, u22 + 1), nofun, cutS rfl (.cons (.list (g := false) (ver := u22 + 1) (l := (s20.1 ++ [(⟨(⟨(v4.getD s8.2.toNat default).Thread, (v4.getD s8.2.toNat default).Index⟩ : Ximpl_Gap), (⟨(v16.getD s20.2.toNat default).Thread, (v16.getD s20.2.toNat default).Index⟩ : Ximpl_Gap)⟩ : Ximpl_Race)])) Ximpl_Race.isF) (.cons (.row (.cons (.fz (.of_isF 9 _ rfl)) (.cons (.fz (.of_isF 9 _ rfl)) .nil))) .nil)) (stl_cons (.hS (g := false) (b := 0) (ver := u22 + 1) (s := 4) (n := (s20.1 ++ [(⟨(⟨(v4.getD s8.2.toNat default).Thread, (v4.getD s8.2.toNat default).Index⟩ : Ximpl_Gap), (⟨(v16.getD s20.2.toNat default).Thread, (v16.getD s20.2.toNat default).Index⟩ : Ximpl_Gap)⟩ : Ximpl_Race)]).length) rfl) (stl_cons (.fz (.of_isF 9 _ rfl)) (stl_cons (.fz (.of_isF 9 _ rfl)) (stl_cons (.fz (.of_isF 9 _ rfl)) (stl_cons (.hp (Nat.le_of_ble_eq_true rfl)) (stl_cons (.fz (.of_isF 9 _ rfl)) (stl_cons (.fz (.of_isF 9 _ rfl)) (stl_cons (.fz (.of_isF 9 _ rfl)) (stl_cons (.fz (.of_isF 9 _ rfl)) stl_nil)))))))))⟩
                  · replace h := condF q39 h
                    refine T.skip ?_
                    obtain rfl := Option.some.inj h
                    exact ⟨(b23, u22), n24, cutS rfl (.cons (.list (g := b23) (ver := u22) (l := s20.1) Ximpl_Race.isF) (.cons (.row (.cons (.fz (.of_isF 9 _ rfl)) (.cons (.fz (.of_isF 9 _ rfl)) .nil))) .nil)) (stl_cons (.hS (g := b23) (b := 0) (ver := u22) (s := 4) (n := s20.1.length) rfl) (stl_cons (.fz (.of_isF 9 _ rfl)) (stl_cons (.fz (.of_isF 9 _ rfl)) (stl_cons (.fz (.of_isF 9 _ rfl)) (stl_cons (.hp (Nat.le_of_ble_eq_true rfl)) (stl_cons (.fz (.of_isF 9 _ rfl)) (stl_cons (.fz (.of_isF 9 _ rfl)) (stl_cons (.fz (.of_isF 9 _ rfl)) (stl_cons (.fz (.of_isF 9 _ rfl)) stl_nil)))))))))⟩
          · replace h := condF q25 h
            refine T.exit ?_
            refine ⟨_, (Option.some.inj h).symm, fun h => ?_⟩
            replace h := congrArg some h
            obtain rfl := Option.some.inj h
            exact ⟨(b23, u22), n24, cutS rfl (.cons (.list (g := b23) (ver := u22) (l := s20.1) Ximpl_Race.isF) .nil) (stl_cons (.fz (.of_isF 9 _ rfl)) (stl_cons (.fz (.of_isF 9 _ rfl)) (stl_cons (.fz (.of_isF 9 _ rfl)) (stl_cons (.hS (g := b23) (b := 0) (ver := u22) (s := 4) (n := s20.1.length) rfl) (stl_cons (.fz (.of_isF 9 _ rfl)) stl_nil)))))⟩
      · replace h := condF q13 h
        refine T.exit ?_
        refine ⟨_, (Option.some.inj h).symm, fun h => ?_⟩
        replace h := congrArg some h
        obtain rfl := Option.some.inj h
        exact ⟨(b11, u10), n12, cutW rfl (weak_cons rfl weak_nil)⟩

theorem F_spec_l10Conflict_P (a : Ximpl_Instr) (b : Ximpl_Instr) {q : Bool} (h : F_spec_l10Conflict a b = some q) : PCall Try.prog 93 [.agg (Ximpl_Instr.c a), .agg (Ximpl_Instr.c b)] (Bo q) := by
  refine PCall.mkT Try.func93 rfl (by kernel_rfl) rfl (by kernel_rfl) (e0 := envOf [(0, .agg (Ximpl_Instr.c a)), (1, .agg (Ximpl_Instr.c b))]) (weak_cons rfl (weak_cons rfl weak_nil)) ?_
  refine T.seq ?_
  refine T.region ?_
  refine oN (EvN.bxF [I a.Op, I a.Loc, I a.Reg, I a.Val] rfl rfl rfl) ?_
  refine oN (EvN.bxF [I b.Op, I b.Loc, I b.Reg, I b.Val] rfl rfl rfl) ?_
  refine oN (EvN.asg (Bo false) rfl) ?_
  refine TO.nil ?_
  refine T.seq ?_
  refine T.region ?_
  refine oN (EvN.fafp Try.underlying81 rfl (by kernel_rfl) rfl) ?_
  refine oN (EvN.loadfp (I a.Op) ty3 rfl rfl) ?_
  refine oN (EvN.ine rfl rfl) ?_
  refine oN (EvN.mv (Bo (a.Op != (4 : Int))) rfl) ?_
  obtain ⟨s1, h, ks1⟩ := bindL h
  refine TO.joinF (G := Unit) 4 (fun _ => True) (fun _ => [(12, Bo s1), (3, .fp (Ximpl_Instr.c b) 0), (2, .fp (Ximpl_Instr.c a) 0)]) (fun _ => []) ?_ (fun js1 => ?_)
  rotate_left
  · clear ks1
    rcases bifL h with ⟨q2, h⟩ | ⟨q2, h⟩
    · refine gN rfl q2 (EvN.fafp Try.underlying81 rfl (by kernel_rfl) rfl) ?_
      refine gN rfl q2 (EvN.loadfp (I b.Op) ty3 rfl rfl) ?_
      refine gN rfl q2 (EvN.ine rfl rfl) ?_
      refine oN (EvN.pickT rfl q2 (Bo (b.Op != (4 : Int))) rfl) ?_
      obtain rfl := Option.some.inj h
      exact js1 _ _ ⟨(), trivial, cutW rfl (weak_cons rfl (weak_cons rfl (weak_cons rfl weak_nil)))⟩
    · refine gS rfl q2 ?_
      refine gS rfl q2 ?_
      refine gS rfl q2 ?_
      refine oN (EvN.pickF rfl q2 (Bo false) rfl) ?_
      obtain rfl := Option.some.inj h
      exact js1 _ _ ⟨(), trivial, cutW rfl (weak_cons rfl (weak_cons rfl (weak_cons rfl weak_nil)))⟩
  · intro _ _
    replace h := ks1
    clear ks1
    refine oN (EvN.mv (Bo s1) rfl) ?_
    obtain ⟨s3, h, ks3⟩ := bindL h
    refine TO.joinF (G := Unit) 6 (fun _ => True) (fun _ => [(19, Bo s3), (3, .fp (Ximpl_Instr.c b) 0), (2, .fp (Ximpl_Instr.c a) 0)]) (fun _ => []) ?_ (fun js3 => ?_)
    rotate_left
    · clear ks3
      rcases bifL h with ⟨q4, h⟩ | ⟨q4, h⟩
      · refine gN rfl q4 (EvN.fafp Try.underlying81 rfl (by kernel_rfl) rfl) ?_
        refine gN rfl q4 (EvN.loadfp (I a.Loc) ty3 rfl rfl) ?_
        refine gN rfl q4 (EvN.fafp Try.underlying81 rfl (by kernel_rfl) rfl) ?_
        refine gN rfl q4 (EvN.loadfp (I b.Loc) ty3 rfl rfl) ?_
        refine gN rfl q4 (EvN.ieq rfl rfl) ?_
        refine oN (EvN.pickT rfl q4 (Bo (a.Loc == b.Loc)) rfl) ?_
        obtain rfl := Option.some.inj h
        exact js3 _ _ ⟨(), trivial, cutW rfl (weak_cons rfl (weak_cons rfl (weak_cons rfl weak_nil)))⟩
      · refine gS rfl q4 ?_
        refine gS rfl q4 ?_
        refine gS rfl q4 ?_
        refine gS rfl q4 ?_
        refine gS rfl q4 ?_
        refine oN (EvN.pickF rfl q4 (Bo false) rfl) ?_
        obtain rfl := Option.some.inj h
        exact js3 _ _ ⟨(), trivial, cutW rfl (weak_cons rfl (weak_cons rfl (weak_cons rfl weak_nil)))⟩
    · intro _ _
      replace h := ks3
      clear ks3
      refine oN (EvN.mv (Bo s3) rfl) ?_
      obtain ⟨s5, h, ks5⟩ := bindL h
      refine TO.joinF (G := Unit) 7 (fun _ => True) (fun _ => [(27, Bo s5)]) (fun _ => []) ?_ (fun js5 => ?_)
      rotate_left
      · clear ks5
        rcases bifL h with ⟨q6, h⟩ | ⟨q6, h⟩
        · refine gN rfl q6 (EvN.loadfp (.agg (Ximpl_Instr.c a)) ty81 rfl rfl) ?_
          obtain ⟨v7, cv7, h⟩ := bindL h
          refine gN rfl q6 (EvN.call rfl rfl rfl (F_spec_l1Writes_P a cv7) rfl) ?_
          refine gN rfl q6 (EvN.mv (Bo v7) rfl) ?_
          obtain ⟨s8, h, ks8⟩ := bindL h
          refine TO.joinF (G := Unit) 3 (fun _ => True) (fun _ => [(26, Bo s8), (20, Bo s3)]) (fun _ => []) ?_ (fun js8 => ?_)
          rotate_left
          · clear ks8
            rcases bifL h with ⟨q9, h⟩ | ⟨q9, h⟩
            · refine gS rfl q9 ?_
              refine gS rfl q9 ?_
              refine gN rfl q6 (EvN.pickT rfl q9 (Bo true) rfl) ?_
              obtain rfl := Option.some.inj h
              exact js8 _ _ ⟨(), trivial, cutW rfl (weak_cons rfl (weak_cons rfl weak_nil))⟩
            · refine gN rfl q9 (EvN.loadfp (.agg (Ximpl_Instr.c b)) ty81 rfl rfl) ?_
              obtain ⟨v10, cv10, h⟩ := bindL h
              refine gN rfl q9 (EvN.call rfl rfl rfl (F_spec_l1Writes_P b cv10) rfl) ?_
              refine gN rfl q6 (EvN.pickF rfl q9 (Bo v10) rfl) ?_
              obtain rfl := Option.some.inj h
              exact js8 _ _ ⟨(), trivial, cutW rfl (weak_cons rfl (weak_cons rfl weak_nil))⟩
          · intro _ _
            replace h := ks8
            clear ks8
            refine oN (EvN.pickT rfl q6 (Bo s8) rfl) ?_
            obtain rfl := Option.some.inj h
            exact js5 _ _ ⟨(), trivial, cutW rfl (weak_cons rfl weak_nil)⟩
        · refine gS rfl q6 ?_
          refine gS rfl q6 ?_
          refine gS rfl q6 ?_
          refine gU rfl ?_
          refine gU rfl ?_
          refine gS rfl q6 ?_
          refine oN (EvN.pickF rfl q6 (Bo false) rfl) ?_
          obtain rfl := Option.some.inj h
          exact js5 _ _ ⟨(), trivial, cutW rfl (weak_cons rfl weak_nil)⟩
      · intro _ _
        replace h := ks5
        clear ks5
        refine oN (EvN.asg (Bo s5) rfl) ?_
        refine TO.nil ?_
        refine T.ret ?_
        obtain rfl := Option.some.inj h
        repeat first | refine retS ?_ | refine retB ?_
        exact Fin.ret (vs := [Bo s5]) (.cons (.tmp rfl) .nil) (.of_isF 9 _ rfl)

theorem F_spec_l10Plain_P (x : Ximpl_Instr) {q : Bool} (h : F_spec_l10Plain x = some q) : PCall Try.prog 94 [.agg (Ximpl_Instr.c x)] (Bo q) := by
  refine PCall.mkT Try.func94 rfl (by kernel_rfl) rfl (by kernel_rfl) (e0 := envOf [(0, .agg (Ximpl_Instr.c x))]) (weak_cons rfl weak_nil) ?_
  refine T.seq ?_
  refine T.region ?_
  refine oN (EvN.bxF [I x.Op, I x.Loc, I x.Reg, I x.Val] rfl rfl rfl) ?_
  refine oN (EvN.asg (Bo false) rfl) ?_
  refine TO.nil ?_
  refine T.seq ?_
  refine T.region ?_
  refine oN (EvN.fafp Try.underlying81 rfl (by kernel_rfl) rfl) ?_
  refine oN (EvN.loadfp (I x.Op) ty3 rfl rfl) ?_
  refine oN (EvN.ine rfl rfl) ?_
  refine oN (EvN.asg (Bo (x.Op != (5 : Int))) rfl) ?_
  refine TO.nil ?_
  refine T.ret ?_
  obtain rfl := Option.some.inj h
  repeat first | refine retS ?_ | refine retB ?_
  exact Fin.ret (vs := [Bo (x.Op != (5 : Int))]) (.cons (.tmp rfl) .nil) (.of_isF 9 _ rfl)

theorem F_spec_RacesOf_P (p : List (List Ximpl_Instr)) {q : (List Ximpl_Race)} (h : F_spec_RacesOf p = some q) : PCall Try.prog 32 [eL (cL Ximpl_Instr.c) p] (eL Ximpl_Race.c q) := by
  refine PCall.mkT Try.func32 rfl (by kernel_rfl) rfl (by kernel_rfl) (e0 := envOf [(0, eL (cL Ximpl_Instr.c) p)]) (weak_cons rfl weak_nil) ?_
  refine T.seq ?_
  refine T.region ?_
  refine oN (EvN.asg (.nil) rfl) ?_
  refine TO.nil ?_
  refine T.seq ?_
  refine T.region ?_
  refine oA (EvA.mkO (c := Ximpl_Race.c) ([] : List Ximpl_Race) [] sl35 rfl rfl rfl (fun _ => rfl) rfl rfl) ?_
  refine oN (EvN.asg (hS false 0 0 4 (([] : List Ximpl_Race).length)) rfl) ?_
  refine TO.nil ?_
  obtain ⟨s1, h, ks1⟩ := bindL h
  refine T.joinF (G := Nat) (fun gh => True) (fun gh => [(3, hS false 0 gh 4 s1.length)]) (fun gh => [bE false gh 4 99 (s1.map Ximpl_Race.c)]) (fun u50 hg => ?_) ?_
  · clear h
    have h := ks1
    clear ks1
    refine T.seq ?_
    refine T.region ?_
    refine oN (EvN.mv (hS false 0 u50 4 s1.length) rfl) ?_
    refine oN (EvN.asg (hS false 0 u50 4 s1.length) rfl) ?_
    refine TO.nil ?_
    refine T.ret ?_
    obtain rfl := Option.some.inj h
    repeat first | refine retS ?_ | refine retB ?_
    exact Fin.ret (vs := [hS false 0 u50 4 s1.length]) (.cons (.tmp rfl) .nil) (Fz.own (g := false) (ver := u50) (l := s1) rfl rfl rfl nofun Ximpl_Race.isF)
  · clear ks1
    refine T.seq ?_
    refine T.region ?_
    refine oN (EvN.asg (I (0 : Int)) rfl) ?_
    refine TO.nil ?_
    refine T.block ?_
    refine T.loop (S := (List Ximpl_Race) × Int) (G := Nat) (F_spec_RacesOf_L4 p) (fun s3 gh => True) (fun s3 gh => [(4, I s3.2), (3, hS false 0 gh 4 s3.1.length), (0, eL (cL Ximpl_Instr.c) p)]) (fun s3 gh => [bE false gh 4 99 (s3.1.map Ximpl_Race.c)]) (s0 := (([] : List Ximpl_Race), (0 : Int))) 0 h trivial (cutW rfl (weak_cons rfl (weak_cons rfl (weak_cons rfl weak_nil)))) (fun s3 u5 ws3 h hg => ?_)
    refine T.seq ?_
    refine T.seq ?_
    refine T.region ?_
    refine oN (EvN.mv (I s3.2) rfl) ?_
    refine oN (EvN.mv (eL (cL Ximpl_Instr.c) p) rfl) ?_
    refine oN (EvN.lenL sl23 rfl) ?_
    refine oN (EvN.ilt rfl rfl) ?_
    refine oN (EvN.mv (Bo (decide (s3.2 < (p.length : Int)))) rfl) ?_
    obtain ⟨s6, h, ks6⟩ := bindL h
    refine TO.joinF (G := Unit) 3 (fun _ => True) (fun _ => [(16, Bo s6), (4, I s3.2), (3, hS false 0 u5 4 s3.1.length), (0, eL (cL Ximpl_Instr.c) p)]) (fun _ => [bE false u5 4 99 (s3.1.map Ximpl_Race.c)]) ?_ (fun js6 => ?_)
    rotate_left
    · clear ks6
      rcases bifL h with ⟨q7, h⟩ | ⟨q7, h⟩
      · refine gN rfl q7 (EvN.mv (eL (cL Ximpl_Instr.c) p) rfl) ?_
        obtain ⟨v8, cv8, h⟩ := bindL h
        refine gN rfl q7 (EvN.call rfl rfl rfl (F_spec_ProgramValid_P p cv8) rfl) ?_
        refine oN (EvN.pickT rfl q7 (Bo v8) rfl) ?_
        obtain rfl := Option.some.inj h
        exact js6 _ _ ⟨(), trivial, cutW rfl (weak_cons rfl (weak_cons rfl (weak_cons rfl (weak_cons rfl weak_nil))))⟩
      · refine gS rfl q7 ?_
        refine gS rfl q7 ?_
        refine oN (EvN.pickF rfl q7 (Bo false) rfl) ?_
        obtain rfl := Option.some.inj h
        exact js6 _ _ ⟨(), trivial, cutW rfl (weak_cons rfl (weak_cons rfl (weak_cons rfl (weak_cons rfl weak_nil))))⟩
    · intro _ _
      replace h := ks6
      clear ks6
      refine TO.nil ?_
      refine T.cond rfl (fun q9 => ?_) (fun q9 => ?_)
      · replace h := condT q9 h
        refine T.skip ?_
        obtain ⟨s10, h, ks10⟩ := bindL h
        refine T.joinF (G := Nat) (fun gh => True) (fun gh => [(4, I s3.2), (3, hS false 0 gh 4 s10.length), (0, eL (cL Ximpl_Instr.c) p)]) (fun gh => [bE false gh 4 99 (s10.map Ximpl_Race.c)]) (fun u48 hg => ?_) ?_
        · clear h
          have h := ks10
          clear ks10
          refine T.region ?_
          refine oN (EvN.mv (I s3.2) rfl) ?_
          obtain ⟨g49, h⟩ := gdW h
          refine oN (EvN.add rfl rfl g49) ?_
          refine oN (EvN.asg (I (s3.2 + (1 : Int))) rfl) ?_
          refine TO.nil ?_
          obtain rfl := Option.some.inj h
          exact ⟨(s10, (s3.2 + (1 : Int))), u48, rfl, trivial, cutW rfl (weak_cons rfl (weak_cons rfl (weak_cons rfl weak_nil)))⟩
        · clear ks10
          refine T.block ?_
          refine T.seq ?_
          refine T.region ?_
          refine oN (EvN.asg (I (0 : Int)) rfl) ?_
          refine TO.nil ?_
          refine T.block ?_
          refine T.loop (S := (List Ximpl_Race) × Int) (G := Nat) (F_spec_RacesOf_L13 p s3) (fun s12 gh => True) (fun s12 gh => [(5, I s12.2), (4, I s3.2), (3, hS false 0 gh 4 s12.1.length), (0, eL (cL Ximpl_Instr.c) p)]) (fun s12 gh => [bE false gh 4 99 (s12.1.map Ximpl_Race.c)]) (s0 := (s3.1, (0 : Int))) u5 h trivial (cutW rfl (weak_cons rfl (weak_cons rfl (weak_cons rfl (weak_cons rfl weak_nil))))) (fun s12 u14 ws12 h hg => ?_)
          refine T.seq ?_
          refine T.seq ?_
          refine T.region ?_
          refine oN (EvN.mv (I s12.2) rfl) ?_
          refine oN (EvN.mv (eL (cL Ximpl_Instr.c) p) rfl) ?_
          refine oN (EvN.mv (I s3.2) rfl) ?_
          obtain ⟨g15, h⟩ := gdD h
          refine oN (EvN.ixL sl23 rfl rfl g15 (fun _ => rfl)) ?_
          refine oN (EvN.loadfp (eL Ximpl_Instr.c (p.getD s3.2.toNat default)) ty78 rfl rfl) ?_
          refine oN (EvN.lenL sl78 rfl) ?_
          refine oN (EvN.ilt rfl rfl) ?_
          refine TO.nil ?_
          refine T.cond rfl (fun q16 => ?_) (fun q16 => ?_)
          · replace h := condT q16 h
            refine T.skip ?_
            obtain ⟨s17, h, ks17⟩ := bindL h
            refine T.joinF (G := Nat) (fun gh => True) (fun gh => [(5, I s12.2), (4, I s3.2), (3, hS false 0 gh 4 s17.length), (0, eL (cL Ximpl_Instr.c) p)]) (fun gh => [bE false gh 4 99 (s17.map Ximpl_Race.c)]) (fun u46 hg => ?_) ?_
            · clear h
              have h := ks17
              clear ks17
              refine T.region ?_
              refine oN (EvN.mv (I s12.2) rfl) ?_
              obtain ⟨g47, h⟩ := gdW h
              refine oN (EvN.add rfl rfl g47) ?_
              refine oN (EvN.asg (I (s12.2 + (1 : Int))) rfl) ?_
              refine TO.nil ?_
              obtain rfl := Option.some.inj h
              exact ⟨(s17, (s12.2 + (1 : Int))), u46, rfl, trivial, cutW rfl (weak_cons rfl (weak_cons rfl (weak_cons rfl (weak_cons rfl weak_nil))))⟩
            · clear ks17
              refine T.block ?_
              refine T.seq ?_
              refine T.clean (H0 := [bE false u14 4 99 (s12.1.map Ximpl_Race.c)]) (e0 := envOf [(5, I s12.2), (4, I s3.2), (3, hS false 0 u14 4 s12.1.length), (0, eL (cL Ximpl_Instr.c) p)]) rfl (weak_cons rfl (weak_cons rfl (weak_cons rfl (weak_cons rfl weak_nil)))) ?_
              refine T.region ?_
              refine oN (EvN.mv (I s3.2) rfl) ?_
              obtain ⟨g18, h⟩ := gdW h
              refine oN (EvN.add rfl rfl g18) ?_
              refine oN (EvN.asg (I (s3.2 + (1 : Int))) rfl) ?_
              refine TO.nil ?_
              refine T.block ?_
              refine T.loop (S := (List Ximpl_Race) × Int) (G := Nat) (F_spec_RacesOf_L21 p s3 s12) (fun s20 gh => True) (fun s20 gh => [(6, I s20.2), (5, I s12.2), (4, I s3.2), (3, hS false 0 gh 4 s20.1.length), (0, eL (cL Ximpl_Instr.c) p)]) (fun s20 gh => [bE false gh 4 99 (s20.1.map Ximpl_Race.c)]) (s0 := (s12.1, (s3.2 + (1 : Int)))) u14 h trivial (cutW rfl (weak_cons rfl (weak_cons rfl (weak_cons rfl (weak_cons rfl (weak_cons rfl weak_nil)))))) (fun s20 u22 ws20 h hg => ?_)
              refine T.seq ?_
              refine T.seq ?_
              refine T.region ?_
              refine oN (EvN.mv (I s20.2) rfl) ?_
              refine oN (EvN.mv (eL (cL Ximpl_Instr.c) p) rfl) ?_
              refine oN (EvN.lenL sl23 rfl) ?_
              refine oN (EvN.ilt rfl rfl) ?_
              refine TO.nil ?_
              refine T.cond rfl (fun q23 => ?_) (fun q23 => ?_)
              · replace h := condT q23 h
                refine T.skip ?_
                obtain ⟨s24, h, ks24⟩ := bindL h
                refine T.joinF (G := Nat) (fun gh => True) (fun gh => [(6, I s20.2), (5, I s12.2), (4, I s3.2), (3, hS false 0 gh 4 s24.length), (0, eL (cL Ximpl_Instr.c) p)]) (fun gh => [bE false gh 4 99 (s24.map Ximpl_Race.c)]) (fun u44 hg => ?_) ?_
                · clear h
                  have h := ks24
                  clear ks24
                  refine T.region ?_
                  refine oN (EvN.mv (I s20.2) rfl) ?_
                  obtain ⟨g45, h⟩ := gdW h
                  refine oN (EvN.add rfl rfl g45) ?_
                  refine oN (EvN.asg (I (s20.2 + (1 : Int))) rfl) ?_
                  refine TO.nil ?_
                  obtain rfl := Option.some.inj h
                  exact ⟨(s24, (s20.2 + (1 : Int))), u44, rfl, trivial, cutW rfl (weak_cons rfl (weak_cons rfl (weak_cons rfl (weak_cons rfl (weak_cons rfl weak_nil)))))⟩
                · clear ks24
                  refine T.block ?_
                  refine T.seq ?_
                  refine T.region ?_
                  refine oN (EvN.asg (I (0 : Int)) rfl) ?_
                  refine TO.nil ?_
                  refine T.block ?_
                  refine T.loop (S := (List Ximpl_Race) × Int) (G := Nat) (F_spec_RacesOf_L27 p s3 s12 s20) (fun s26 gh => True) (fun s26 gh => [(7, I s26.2), (6, I s20.2), (5, I s12.2), (4, I s3.2), (3, hS false 0 gh 4 s26.1.length), (0, eL (cL Ximpl_Instr.c) p)]) (fun s26 gh => [bE false gh 4 99 (s26.1.map Ximpl_Race.c)]) (s0 := (s20.1, (0 : Int))) u22 h trivial (cutW rfl (weak_cons rfl (weak_cons rfl (weak_cons rfl (weak_cons rfl (weak_cons rfl (weak_cons rfl weak_nil))))))) (fun s26 u28 ws26 h hg => ?_)
                  refine T.seq ?_
                  refine T.seq ?_
                  refine T.region ?_
                  refine oN (EvN.mv (I s26.2) rfl) ?_
                  refine oN (EvN.mv (eL (cL Ximpl_Instr.c) p) rfl) ?_
                  refine oN (EvN.mv (I s20.2) rfl) ?_
                  obtain ⟨g29, h⟩ := gdD h
                  refine oN (EvN.ixL sl23 rfl rfl g29 (fun _ => rfl)) ?_
                  refine oN (EvN.loadfp (eL Ximpl_Instr.c (p.getD s20.2.toNat default)) ty78 rfl rfl) ?_
                  refine oN (EvN.lenL sl78 rfl) ?_
                  refine oN (EvN.ilt rfl rfl) ?_
                  refine TO.nil ?_
                  refine T.cond rfl (fun q30 => ?_) (fun q30 => ?_)
                  · replace h := condT q30 h
                    refine T.skip ?_
                    obtain ⟨s31, h, ks31⟩ := bindL h
                    refine T.joinF (G := Nat) (fun gh => True) (fun gh => [(3, hS false 0 gh 4 s31.length), (7, I s26.2), (6, I s20.2), (5, I s12.2), (4, I s3.2), (0, eL (cL Ximpl_Instr.c) p)]) (fun gh => [bE false gh 4 99 (s31.map Ximpl_Race.c)]) (fun u42 hg => ?_) ?_
                    · clear h
                      have h := ks31
                      clear ks31
                      refine T.region ?_
                      refine oN (EvN.mv (I s26.2) rfl) ?_
                      obtain ⟨g43, h⟩ := gdW h
                      refine oN (EvN.add rfl rfl g43) ?_
                      refine oN (EvN.asg (I (s26.2 + (1 : Int))) rfl) ?_
                      refine TO.nil ?_
                      obtain rfl := Option.some.inj h
                      exact ⟨(s31, (s26.2 + (1 : Int))), u42, rfl, trivial, cutW rfl (weak_cons rfl (weak_cons rfl (weak_cons rfl (weak_cons rfl (weak_cons rfl (weak_cons rfl weak_nil))))))⟩
                    · clear ks31
                      refine T.block ?_
                      obtain ⟨s32, h, ks32⟩ := bindL h
                      refine T.joinF (G := Unit) (fun gh => True) (fun gh => [(79, Bo s32), (7, I s26.2), (6, I s20.2), (5, I s12.2), (4, I s3.2), (3, hS false 0 u28 4 s26.1.length), (0, eL (cL Ximpl_Instr.c) p)]) (fun gh => [bE false u28 4 99 (s26.1.map Ximpl_Race.c)]) (fun gh hg => ?_) ?_
                      · clear h
                        have h := ks32
                        clear ks32
                        refine T.cond rfl (fun q40 => ?_) (fun q40 => ?_)
                        · replace h := condT q40 h
                          refine T.region ?_
                          refine oN (EvN.mv (hS false 0 u28 4 s26.1.length) rfl) ?_
                          refine oN (EvN.mv (I s3.2) rfl) ?_
                          refine oN (EvN.mv (I s12.2) rfl) ?_
                          refine oN (EvN.build [I s3.2, I s12.2] Try.underlying96 zs96 fs96 rfl rfl) ?_
                          refine oN (EvN.mv (I s20.2) rfl) ?_
                          refine oN (EvN.mv (I s26.2) rfl) ?_
                          refine oN (EvN.build [I s20.2, I s26.2] Try.underlying96 zs96 fs96 rfl rfl) ?_
                          refine oN (EvN.build [I s3.2, I s12.2, I s20.2, I s26.2] Try.underlying99 zs99 fs99 rfl rfl) ?_
                          refine oN (EvN.mkF (c := Ximpl_Race.c) ([(⟨(⟨s3.2, s12.2⟩ : Ximpl_Gap), (⟨s20.2, s26.2⟩ : Ximpl_Gap)⟩ : Ximpl_Race)] : List Ximpl_Race) [[I s3.2, I s12.2, I s20.2, I s26.2]] sl35 rfl rfl rfl (fun _ => rfl) Ximpl_Race.isF rfl) ?_
                          obtain ⟨g41, h⟩ := gdL h
                          refine oA (EvA.app1 (g := false) (l := s26.1) (⟨(⟨s3.2, s12.2⟩ : Ximpl_Gap), (⟨s20.2, s26.2⟩ : Ximpl_Gap)⟩ : Ximpl_Race) sl35 (by kernel_rfl) rfl rfl rfl nofun (SrcOk.fz (l := ([(⟨(⟨s3.2, s12.2⟩ : Ximpl_Gap), (⟨s20.2, s26.2⟩ : Ximpl_Gap)⟩ : Ximpl_Race)] : List Ximpl_Race)) rfl (fun _ => rfl)) g41) ?_
                          refine oN (EvN.asg (hS false 0 (u28 + 1) 4 ((s26.1 ++ [(⟨(⟨s3.2, s12.2⟩ : Ximpl_Gap), (⟨s20.2, s26.2⟩ : Ximpl_Gap)⟩ : Ximpl_Race)]).length)) rfl) ?_
                          refine TO.nil ?_
                          obtain rfl := Option.some.inj h
                          exact ⟨u28 + 1, trivial, cutW rfl (weak_cons rfl (weak_cons rfl (weak_cons rfl (weak_cons rfl (weak_cons rfl (weak_cons rfl weak_nil))))))⟩
                        · replace h := condF q40 h
                          refine T.skip ?_
                          obtain rfl := Option.some.inj h
                          exact ⟨u28, trivial, cutW rfl (weak_cons rfl (weak_cons rfl (weak_cons rfl (weak_cons rfl (weak_cons rfl (weak_cons rfl weak_nil))))))⟩
                      · clear ks32
                        refine T.clean (H0 := [bE false u28 4 99 (s26.1.map Ximpl_Race.c)]) (e0 := envOf [(7, I s26.2), (6, I s20.2), (5, I s12.2), (4, I s3.2), (3, hS false 0 u28 4 s26.1.length), (0, eL (cL Ximpl_Instr.c) p)]) rfl (weak_cons rfl (weak_cons rfl (weak_cons rfl (weak_cons rfl (weak_cons rfl (weak_cons rfl weak_nil)))))) ?_
                        refine T.drawG (fun _ => ([], false)) (by kernel_rfl) (by kernel_rfl) ?_
                        refine tN rfl (EvN.mv (eL (cL Ximpl_Instr.c) p) rfl) ?_
                        refine tN rfl (EvN.mv (I s3.2) rfl) ?_
                        refine tN rfl (EvN.ixL sl23 rfl rfl g15 (fun _ => rfl)) ?_
                        refine tN rfl (EvN.loadfp (eL Ximpl_Instr.c (p.getD s3.2.toNat default)) ty78 rfl rfl) ?_
                        refine tN rfl (EvN.mv (I s12.2) rfl) ?_
                        obtain ⟨g33, h⟩ := gdD h
                        refine tN rfl (EvN.ixL sl78 rfl rfl g33 (fun _ => rfl)) ?_
                        refine tN rfl (EvN.loadfp (.agg (Ximpl_Instr.c ((p.getD s3.2.toNat default).getD s12.2.toNat default))) ty81 rfl rfl) ?_
                        refine tN rfl (EvN.mv (eL (cL Ximpl_Instr.c) p) rfl) ?_
                        refine tN rfl (EvN.mv (I s20.2) rfl) ?_
                        refine tN rfl (EvN.ixL sl23 rfl rfl g29 (fun _ => rfl)) ?_
                        refine tN rfl (EvN.loadfp (eL Ximpl_Instr.c (p.getD s20.2.toNat default)) ty78 rfl rfl) ?_
                        refine tN rfl (EvN.mv (I s26.2) rfl) ?_
                        obtain ⟨g34, h⟩ := gdD h
                        refine tN rfl (EvN.ixL sl78 rfl rfl g34 (fun _ => rfl)) ?_
                        refine tN rfl (EvN.loadfp (.agg (Ximpl_Instr.c ((p.getD s20.2.toNat default).getD s26.2.toNat default))) ty81 rfl rfl) ?_
                        obtain ⟨v35, cv35, h⟩ := bindL h
                        refine tN rfl (EvN.call rfl rfl rfl (F_spec_l10Conflict_P ((p.getD s3.2.toNat default).getD s12.2.toNat default) ((p.getD s20.2.toNat default).getD s26.2.toNat default) cv35) rfl) ?_
                        refine tN rfl (EvN.mv (Bo v35) rfl) ?_
                        rcases bifL h with ⟨q36, h⟩ | ⟨q36, h⟩
                        · refine tgN rfl q36 rfl (EvN.mv (eL (cL Ximpl_Instr.c) p) rfl) ?_
                          refine tgN rfl q36 rfl (EvN.mv (I s3.2) rfl) ?_
                          refine tgN rfl q36 rfl (EvN.ixL sl23 rfl rfl g15 (fun _ => rfl)) ?_
                          refine tgN rfl q36 rfl (EvN.loadfp (eL Ximpl_Instr.c (p.getD s3.2.toNat default)) ty78 rfl rfl) ?_
                          refine tgN rfl q36 rfl (EvN.mv (I s12.2) rfl) ?_
                          refine tgN rfl q36 rfl (EvN.ixL sl78 rfl rfl g33 (fun _ => rfl)) ?_
                          refine tgN rfl q36 rfl (EvN.loadfp (.agg (Ximpl_Instr.c ((p.getD s3.2.toNat default).getD s12.2.toNat default))) ty81 rfl rfl) ?_
                          obtain ⟨v37, cv37, h⟩ := bindL h
                          refine tgN rfl q36 rfl (EvN.call rfl rfl rfl (F_spec_l10Plain_P ((p.getD s3.2.toNat default).getD s12.2.toNat default) cv37) rfl) ?_
                          refine tgN rfl q36 rfl (EvN.mv (Bo v37) rfl) ?_
                          rcases bifL h with ⟨q38, h⟩ | ⟨q38, h⟩
                          · refine tgS rfl q38 ?_
                            refine tgS rfl q38 ?_
                            refine tgS rfl q38 ?_
                            refine tgS rfl q38 ?_
                            refine tgS rfl q38 ?_
                            refine tgS rfl q38 ?_
                            refine tgS rfl q38 ?_
                            refine tgS rfl q38 ?_
                            refine tgN rfl q36 rfl (EvN.pickT rfl q38 (Bo true) rfl) ?_
                            refine tN rfl (EvN.pickT rfl q36 (Bo true) rfl) ?_
                            refine TG.nil ?_
                            obtain rfl := Option.some.inj h
                            exact ⟨(), trivial, cutW rfl (weak_cons rfl (weak_cons rfl (weak_cons rfl (weak_cons rfl (weak_cons rfl (weak_cons rfl (weak_cons rfl weak_nil)))))))⟩
                          · refine tgN rfl q38 rfl (EvN.mv (eL (cL Ximpl_Instr.c) p) rfl) ?_
                            refine tgN rfl q38 rfl (EvN.mv (I s20.2) rfl) ?_
                            refine tgN rfl q38 rfl (EvN.ixL sl23 rfl rfl g29 (fun _ => rfl)) ?_
                            refine tgN rfl q38 rfl (EvN.loadfp (eL Ximpl_Instr.c (p.getD s20.2.toNat default)) ty78 rfl rfl) ?_
                            refine tgN rfl q38 rfl (EvN.mv (I s26.2) rfl) ?_
                            refine tgN rfl q38 rfl (EvN.ixL sl78 rfl rfl g34 (fun _ => rfl)) ?_
                            refine tgN rfl q38 rfl (EvN.loadfp (.agg (Ximpl_Instr.c ((p.getD s20.2.toNat default).getD s26.2.toNat default))) ty81 rfl rfl) ?_
                            obtain ⟨v39, cv39, h⟩ := bindL h
                            refine tgN rfl q38 rfl (EvN.call rfl rfl rfl (F_spec_l10Plain_P ((p.getD s20.2.toNat default).getD s26.2.toNat default) cv39) rfl) ?_
                            refine tgN rfl q36 rfl (EvN.pickF rfl q38 (Bo v39) rfl) ?_
                            refine tN rfl (EvN.pickT rfl q36 (Bo v39) rfl) ?_
                            refine TG.nil ?_
                            obtain rfl := Option.some.inj h
                            exact ⟨(), trivial, cutW rfl (weak_cons rfl (weak_cons rfl (weak_cons rfl (weak_cons rfl (weak_cons rfl (weak_cons rfl (weak_cons rfl weak_nil)))))))⟩
                        · refine tgS rfl q36 ?_
                          refine tgS rfl q36 ?_
                          refine tgS rfl q36 ?_
                          refine tgS rfl q36 ?_
                          refine tgS rfl q36 ?_
                          refine tgS rfl q36 ?_
                          refine tgS rfl q36 ?_
                          refine tgS rfl q36 ?_
                          refine tgS rfl q36 ?_
                          refine tgU rfl ?_
                          refine tgU rfl ?_
                          refine tgU rfl ?_
                          refine tgU rfl ?_
                          refine tgU rfl ?_
                          refine tgU rfl ?_
                          refine tgU rfl ?_
                          refine tgU rfl ?_
                          refine tgS rfl q36 ?_
                          refine tN rfl (EvN.pickF rfl q36 (Bo false) rfl) ?_
                          refine TG.nil ?_
                          obtain rfl := Option.some.inj h
                          exact ⟨(), trivial, cutW rfl (weak_cons rfl (weak_cons rfl (weak_cons rfl (weak_cons rfl (weak_cons rfl (weak_cons rfl (weak_cons rfl weak_nil)))))))⟩
                  · replace h := condF q30 h
                    refine T.exit ?_
                    refine ⟨_, (Option.some.inj h).symm, fun h => ?_⟩
                    replace h := congrArg some h
                    obtain rfl := Option.some.inj h
                    exact ⟨u28, trivial, cutW rfl (weak_cons rfl (weak_cons rfl (weak_cons rfl (weak_cons rfl (weak_cons rfl weak_nil)))))⟩
              · replace h := condF q23 h
                refine T.exit ?_
                refine ⟨_, (Option.some.inj h).symm, fun h => ?_⟩
                replace h := congrArg some h
                obtain rfl := Option.some.inj h
                exact ⟨u22, trivial, cutW rfl (weak_cons rfl (weak_cons rfl (weak_cons rfl (weak_cons rfl weak_nil))))⟩
          · replace h := condF q16 h
            refine T.exit ?_
            refine ⟨_, (Option.some.inj h).symm, fun h => ?_⟩
            replace h := congrArg some h
            obtain rfl := Option.some.inj h
            exact ⟨u14, trivial, cutW rfl (weak_cons rfl (weak_cons rfl (weak_cons rfl weak_nil)))⟩
      · replace h := condF q9 h
        refine T.exit ?_
        refine ⟨_, (Option.some.inj h).symm, fun h => ?_⟩
        replace h := congrArg some h
        obtain rfl := Option.some.inj h
        exact ⟨u5, trivial, cutW rfl (weak_cons rfl weak_nil)⟩

theorem F_impl_Instr_reads_P (x : Ximpl_Instr) {q : Bool} (h : F_impl_Instr_reads x = some q) : PCall Try.prog 130 [.agg (Ximpl_Instr.c x)] (Bo q) := by
  refine PCall.mkT Try.func130 rfl (by kernel_rfl) rfl (by kernel_rfl) (e0 := envOf [(0, .agg (Ximpl_Instr.c x))]) (weak_cons rfl weak_nil) ?_
  refine T.seq ?_
  refine T.region ?_
  refine oN (EvN.bxF [I x.Op, I x.Loc, I x.Reg, I x.Val] rfl rfl rfl) ?_
  refine oN (EvN.asg (Bo false) rfl) ?_
  refine TO.nil ?_
  refine T.seq ?_
  refine T.region ?_
  refine oN (EvN.fafp Try.underlying81 rfl (by kernel_rfl) rfl) ?_
  refine oN (EvN.loadfp (I x.Op) ty3 rfl rfl) ?_
  refine oN (EvN.ieq rfl rfl) ?_
  refine oN (EvN.mv (Bo (x.Op == (1 : Int))) rfl) ?_
  obtain ⟨s1, h, ks1⟩ := bindL h
  refine TO.joinF (G := Unit) 4 (fun _ => True) (fun _ => [(10, Bo s1)]) (fun _ => []) ?_ (fun js1 => ?_)
  rotate_left
  · clear ks1
    rcases bifL h with ⟨q2, h⟩ | ⟨q2, h⟩
    · refine gS rfl q2 ?_
      refine gS rfl q2 ?_
      refine gS rfl q2 ?_
      refine oN (EvN.pickT rfl q2 (Bo true) rfl) ?_
      obtain rfl := Option.some.inj h
      exact js1 _ _ ⟨(), trivial, cutW rfl (weak_cons rfl weak_nil)⟩
    · refine gN rfl q2 (EvN.fafp Try.underlying81 rfl (by kernel_rfl) rfl) ?_
      refine gN rfl q2 (EvN.loadfp (I x.Op) ty3 rfl rfl) ?_
      refine gN rfl q2 (EvN.ieq rfl rfl) ?_
      refine oN (EvN.pickF rfl q2 (Bo (x.Op == (5 : Int))) rfl) ?_
      obtain rfl := Option.some.inj h
      exact js1 _ _ ⟨(), trivial, cutW rfl (weak_cons rfl weak_nil)⟩
  · intro _ _
    replace h := ks1
    clear ks1
    refine oN (EvN.asg (Bo s1) rfl) ?_
    refine TO.nil ?_
    refine T.ret ?_
    obtain rfl := Option.some.inj h
    repeat first | refine retS ?_ | refine retB ?_
    exact Fin.ret (vs := [Bo s1]) (.cons (.tmp rfl) .nil) (.of_isF 9 _ rfl)

theorem F_impl_events_P (p : List (List Ximpl_Instr)) {q : (List Ximpl_Event)} (h : F_impl_events p = some q) : PCall Try.prog 142 [eL (cL Ximpl_Instr.c) p] (eL Ximpl_Event.c q) := by
  refine PCall.mkT Try.func142 rfl (by kernel_rfl) rfl (by kernel_rfl) (e0 := envOf [(0, eL (cL Ximpl_Instr.c) p)]) (weak_cons rfl weak_nil) ?_
  refine T.seq ?_
  refine T.region ?_
  refine oN (EvN.asg (.nil) rfl) ?_
  refine TO.nil ?_
  refine T.seq ?_
  refine T.reserve ?_
  refine T.region ?_
  refine oN (EvN.asg (hS true 0 0 5 (([] : List Ximpl_Event).length)) rfl) ?_
  refine TO.nil ?_
  obtain ⟨s1, h, ks1⟩ := bindL h
  refine T.joinF (G := (Bool × Nat)) (fun gh => (gh.1 = true → s1 = [])) (fun gh => [(3, hS gh.1 0 gh.2 5 s1.length), (0, eL (cL Ximpl_Instr.c) p)]) (fun gh => [bE gh.1 gh.2 5 148 (s1.map Ximpl_Event.c)]) (fun gh n15 => ?_) ?_
  · clear h
    have h := ks1
    clear ks1
    obtain ⟨b14, u13⟩ := gh
    obtain ⟨s16, h, ks16⟩ := bindL h
    refine T.joinF (G := (Bool × Nat)) (fun gh => (gh.1 = true → s16 = [])) (fun gh => [(3, hS gh.1 0 gh.2 5 s16.length)]) (fun gh => [bE gh.1 gh.2 5 148 (s16.map Ximpl_Event.c)]) (fun gh n53 => ?_) ?_
    · clear h
      have h := ks16
      clear ks16
      obtain ⟨b52, u51⟩ := gh
      refine T.seq ?_
      refine T.region ?_
      refine oN (EvN.mv (hS b52 0 u51 5 s16.length) rfl) ?_
      refine oN (EvN.asg (hS b52 0 u51 5 s16.length) rfl) ?_
      refine TO.nil ?_
      refine T.ret ?_
      obtain rfl := Option.some.inj h
      repeat first | refine retS ?_ | refine retB ?_
      exact Fin.ret (vs := [hS b52 0 u51 5 s16.length]) (.cons (.tmp rfl) .nil) (Fz.own (g := b52) (ver := u51) (l := s16) rfl rfl rfl n53 Ximpl_Event.isF)
    · clear ks16
      refine T.seq ?_
      refine T.region ?_
      refine oN (EvN.mv (eL (cL Ximpl_Instr.c) p) rfl) ?_
      refine oN (EvN.lenL sl23 rfl) ?_
      refine oN (EvN.mv (I (0 : Int)) rfl) ?_
      refine TO.nil ?_
      refine T.block ?_
      refine T.loop (S := (List Ximpl_Event) × Int) (G := (Bool × Nat)) (F_impl_events_L21 p) (fun s20 gh => (gh.1 = true → s20.1 = [])) (fun s20 gh => [(21, I s20.2), (20, I (p.length : Int)), (19, eL (cL Ximpl_Instr.c) p), (3, hS gh.1 0 gh.2 5 s20.1.length)]) (fun s20 gh => [bE gh.1 gh.2 5 148 (s20.1.map Ximpl_Event.c)]) (s0 := (s1, (0 : Int))) (b14, u13) h n15 (cutW rfl (weak_cons rfl (weak_cons rfl (weak_cons rfl (weak_cons rfl weak_nil))))) (fun s20 gh ws20 h n24 => ?_)
      obtain ⟨b23, u22⟩ := gh
      refine T.seq ?_
      refine T.region ?_
      refine oN (EvN.ilt rfl rfl) ?_
      refine TO.nil ?_
      refine T.seq ?_
      refine T.cond rfl (fun q25 => ?_) (fun q25 => ?_)
      · replace h := condT q25 h
        refine T.skip ?_
        obtain ⟨s26, h, ks26⟩ := bindL h
        refine T.joinF (G := (Bool × Nat)) (fun gh => (gh.1 = true → s26 = [])) (fun gh => [(21, I s20.2), (20, I (p.length : Int)), (19, eL (cL Ximpl_Instr.c) p), (3, hS gh.1 0 gh.2 5 s26.length)]) (fun gh => [bE gh.1 gh.2 5 148 (s26.map Ximpl_Event.c)]) (fun gh n49 => ?_) ?_
        · clear h
          have h := ks26
          clear ks26
          obtain ⟨b48, u47⟩ := gh
          refine T.region ?_
          obtain ⟨g50, h⟩ := gdW h
          refine oN (EvN.add rfl rfl g50) ?_
          refine oN (EvN.mv (I (s20.2 + (1 : Int))) rfl) ?_
          refine TO.nil ?_
          obtain rfl := Option.some.inj h
          exact ⟨(s26, (s20.2 + (1 : Int))), (b48, u47), rfl, n49, cutW rfl (weak_cons rfl (weak_cons rfl (weak_cons rfl (weak_cons rfl weak_nil))))⟩
        · clear ks26
          refine T.block ?_
          refine T.seq ?_
          refine T.region ?_
          refine oN (EvN.mv (I s20.2) rfl) ?_
          obtain ⟨g27, h⟩ := gdD h
          refine oN (EvN.ixL sl23 rfl rfl g27 (fun _ => rfl)) ?_
          refine oN (EvN.loadfp (eL Ximpl_Instr.c (p.getD s20.2.toNat default)) ty78 rfl rfl) ?_
          refine oN (EvN.asg (I s20.2) rfl) ?_
          refine oN (EvN.asg (eL Ximpl_Instr.c (p.getD s20.2.toNat default)) rfl) ?_
          refine TO.nil ?_
          refine T.seq ?_
          refine T.region ?_
          refine oN (EvN.mv (eL Ximpl_Instr.c (p.getD s20.2.toNat default)) rfl) ?_
          refine oN (EvN.lenL sl78 rfl) ?_
          refine oN (EvN.mv (I (0 : Int)) rfl) ?_
          refine TO.nil ?_
          refine T.block ?_
          refine T.loop (S := (List Ximpl_Event) × Int) (G := (Bool × Nat)) (F_impl_events_L32 p s20) (fun s31 gh => (gh.1 = true → s31.1 = [])) (fun s31 gh => [(28, I s31.2), (27, I ((p.getD s20.2.toNat default).length : Int)), (26, eL Ximpl_Instr.c (p.getD s20.2.toNat default)), (5, I s20.2), (21, I s20.2), (20, I (p.length : Int)), (19, eL (cL Ximpl_Instr.c) p), (3, hS gh.1 0 gh.2 5 s31.1.length)]) (fun s31 gh => [bE gh.1 gh.2 5 148 (s31.1.map Ximpl_Event.c)]) (s0 := (s20.1, (0 : Int))) (b23, u22) h n24 (cutW rfl (weak_cons rfl (weak_cons rfl (weak_cons rfl (weak_cons rfl (weak_cons rfl (weak_cons rfl (weak_cons rfl (weak_cons rfl weak_nil))))))))) (fun s31 gh ws31 h n35 => ?_)
          obtain ⟨b34, u33⟩ := gh
          refine T.seq ?_
          refine T.region ?_
          refine oN (EvN.ilt rfl rfl) ?_
          refine TO.nil ?_
          refine T.seq ?_
          refine T.cond rfl (fun q36 => ?_) (fun q36 => ?_)
          · replace h := condT q36 h
            refine T.skip ?_
            obtain ⟨s37, h, ks37⟩ := bindL h
            refine T.joinF (G := (Bool × Nat)) (fun gh => (gh.1 = true → s37 = [])) (fun gh => [(3, hS gh.1 0 gh.2 5 s37.length), (28, I s31.2), (27, I ((p.getD s20.2.toNat default).length : Int)), (26, eL Ximpl_Instr.c (p.getD s20.2.toNat default)), (5, I s20.2), (21, I s20.2), (20, I (p.length : Int)), (19, eL (cL Ximpl_Instr.c) p)]) (fun gh => [bE gh.1 gh.2 5 148 (s37.map Ximpl_Event.c)]) (fun gh n45 => ?_) ?_
            · clear h
              have h := ks37
              clear ks37
              obtain ⟨b44, u43⟩ := gh
              refine T.region ?_
              obtain ⟨g46, h⟩ := gdW h
              refine oN (EvN.add rfl rfl g46) ?_
              refine oN (EvN.mv (I (s31.2 + (1 : Int))) rfl) ?_
              refine TO.nil ?_
              obtain rfl := Option.some.inj h
              exact ⟨(s37, (s31.2 + (1 : Int))), (b44, u43), rfl, n45, cutW rfl (weak_cons rfl (weak_cons rfl (weak_cons rfl (weak_cons rfl (weak_cons rfl (weak_cons rfl (weak_cons rfl (weak_cons rfl weak_nil))))))))⟩
            · clear ks37
              refine T.block ?_
              refine T.seq ?_
              refine T.region ?_
              refine oN (EvN.mv (I s31.2) rfl) ?_
              obtain ⟨g38, h⟩ := gdD h
              refine oN (EvN.ixL sl78 rfl rfl g38 (fun _ => rfl)) ?_
              refine oN (EvN.loadfp (.agg (Ximpl_Instr.c ((p.getD s20.2.toNat default).getD s31.2.toNat default))) ty81 rfl rfl) ?_
              refine oA (EvA.al zs81 rfl rfl) ?_
              refine oN (EvN.asg (I s31.2) rfl) ?_
              refine oV (EvA.st (cs := [I (((p.getD s20.2.toNat default).getD s31.2.toNat default).Op), I (((p.getD s20.2.toNat default).getD s31.2.toNat default).Loc), I (((p.getD s20.2.toNat default).getD s31.2.toNat default).Reg), I (((p.getD s20.2.toNat default).getD s31.2.toNat default).Val)]) ⟨0, 4, 81, [[I (((p.getD s20.2.toNat default).getD s31.2.toNat default).Op), I (((p.getD s20.2.toNat default).getD s31.2.toNat default).Loc), I (((p.getD s20.2.toNat default).getD s31.2.toNat default).Reg), I (((p.getD s20.2.toNat default).getD s31.2.toNat default).Val)]]⟩ ty81 rfl rfl rfl rfl rfl rfl rfl rfl rfl) ?_
              refine TO.nil ?_
              refine T.seq ?_
              refine T.region ?_
              refine oN (EvN.fahp Try.underlying81 rfl (by kernel_rfl) rfl) ?_
              refine oA (EvA.loadhp (I (((p.getD s20.2.toNat default).getD s31.2.toNat default).Op)) ty3 rfl rfl rfl rfl rfl rfl) ?_
              refine oN (EvN.ine rfl rfl) ?_
              refine TO.nil ?_
              refine T.cond rfl (fun q39 => ?_) (fun q39 => ?_)
              · replace h := condT q39 h
                refine T.clean (H0 := [bE b34 u33 5 148 (s31.1.map Ximpl_Event.c), some ⟨0, 4, 81, [[I (((p.getD s20.2.toNat default).getD s31.2.toNat default).Op), I (((p.getD s20.2.toNat default).getD s31.2.toNat default).Loc), I (((p.getD s20.2.toNat default).getD s31.2.toNat default).Reg), I (((p.getD s20.2.toNat default).getD s31.2.toNat default).Val)]]⟩]) (e0 := envOf [(7, I s31.2), (8, .hp 1 0 4 0 0), (28, I s31.2), (27, I ((p.getD s20.2.toNat default).length : Int)), (26, eL Ximpl_Instr.c (p.getD s20.2.toNat default)), (5, I s20.2), (21, I s20.2), (20, I (p.length : Int)), (19, eL (cL Ximpl_Instr.c) p), (3, hS b34 0 u33 5 s31.1.length)]) rfl (weak_cons rfl (weak_cons rfl (weak_cons rfl (weak_cons rfl (weak_cons rfl (weak_cons rfl (weak_cons rfl (weak_cons rfl (weak_cons rfl (weak_cons rfl weak_nil)))))))))) ?_
                refine T.drawF (fun i => [([], false), ([], false), ([], false), ([], false), ([1], false), ([1], false), ([], false), ([1], false), ([], false), ([], false), ([], false), ([0], true), ([], false)].getD i ([], false)) (by kernel_rfl) (by kernel_rfl) ?_
                refine fN rfl (EvN.mv (hS b34 0 u33 5 s31.1.length) rfl) ?_
                refine fN rfl (EvN.mv (I s20.2) rfl) ?_
                refine fN rfl (EvN.mv (I s31.2) rfl) ?_
                refine fN rfl (EvN.fahp Try.underlying81 rfl (by kernel_rfl) rfl) ?_
                refine fR [1] rfl (fun G hG => EvA.loadhp (I (((p.getD s20.2.toNat default).getD s31.2.toNat default).Loc)) ty3 rfl (hG.a0 rfl) rfl rfl rfl rfl) ?_
                refine fR [1] rfl (fun G hG => EvA.loadhp (.agg [I (((p.getD s20.2.toNat default).getD s31.2.toNat default).Op), I (((p.getD s20.2.toNat default).getD s31.2.toNat default).Loc), I (((p.getD s20.2.toNat default).getD s31.2.toNat default).Reg), I (((p.getD s20.2.toNat default).getD s31.2.toNat default).Val)]) ty81 rfl (hG.a0 rfl) rfl rfl rfl rfl) ?_
                obtain ⟨v40, cv40, h⟩ := bindL h
                refine fN rfl (EvN.call rfl rfl rfl (F_impl_Instr_reads_P (⟨((p.getD s20.2.toNat default).getD s31.2.toNat default).Op, ((p.getD s20.2.toNat default).getD s31.2.toNat default).Loc, ((p.getD s20.2.toNat default).getD s31.2.toNat default).Reg, ((p.getD s20.2.toNat default).getD s31.2.toNat default).Val⟩ : Ximpl_Instr) cv40) rfl) ?_
                refine fR [1] rfl (fun G hG => EvA.loadhp (.agg [I (((p.getD s20.2.toNat default).getD s31.2.toNat default).Op), I (((p.getD s20.2.toNat default).getD s31.2.toNat default).Loc), I (((p.getD s20.2.toNat default).getD s31.2.toNat default).Reg), I (((p.getD s20.2.toNat default).getD s31.2.toNat default).Val)]) ty81 rfl (hG.a0 rfl) rfl rfl rfl rfl) ?_
                obtain ⟨v41, cv41, h⟩ := bindL h
                refine fN rfl (EvN.call rfl rfl rfl (F_impl_Instr_writes_P (⟨((p.getD s20.2.toNat default).getD s31.2.toNat default).Op, ((p.getD s20.2.toNat default).getD s31.2.toNat default).Loc, ((p.getD s20.2.toNat default).getD s31.2.toNat default).Reg, ((p.getD s20.2.toNat default).getD s31.2.toNat default).Val⟩ : Ximpl_Instr) cv41) rfl) ?_
                refine fN rfl (EvN.build [I s20.2, I s31.2, I (((p.getD s20.2.toNat default).getD s31.2.toNat default).Loc), Bo v40, Bo v41] Try.underlying148 zs148 fs148 rfl rfl) ?_
                refine fN rfl (EvN.mkF (c := Ximpl_Event.c) ([(⟨s20.2, s31.2, ((p.getD s20.2.toNat default).getD s31.2.toNat default).Loc, v40, v41⟩ : Ximpl_Event)] : List Ximpl_Event) [[I s20.2, I s31.2, I (((p.getD s20.2.toNat default).getD s31.2.toNat default).Loc), Bo v40, Bo v41]] sl144 rfl rfl rfl (fun _ => rfl) Ximpl_Event.isF rfl) ?_
                obtain ⟨g42, h⟩ := gdL h
                refine fW 0 [] rfl rfl (fun G hG => EvA.app1 (g := b34) (l := s31.1) (⟨s20.2, s31.2, ((p.getD s20.2.toNat default).getD s31.2.toNat default).Loc, v40, v41⟩ : Ximpl_Event) sl144 (by kernel_rfl) rfl rfl (hG.a0 rfl) n35 (SrcOk.fz (l := ([(⟨s20.2, s31.2, ((p.getD s20.2.toNat default).getD s31.2.toNat default).Loc, v40, v41⟩ : Ximpl_Event)] : List Ximpl_Event)) rfl (fun _ => rfl)) g42) ?_
                refine fN rfl (EvN.asg (hS false 0 (u33 + 1) 5 ((s31.1 ++ [(⟨s20.2, s31.2, ((p.getD s20.2.toNat default).getD s31.2.toNat default).Loc, v40, v41⟩ : Ximpl_Event)]).length)) rfl) ?_
                refine TF.nil ?_
                obtain rfl := Option.some.inj h
                exact ⟨(false, u33 + 1), nofun, cutS rfl (.cons (.list (g := false) (ver := u33 + 1) (l := (s31.1 ++ [(⟨s20.2, s31.2, ((p.getD s20.2.toNat default).getD s31.2.toNat default).Loc, v40, v41⟩ : Ximpl_Event)])) Ximpl_Event.isF) .nil) (stl_cons (.hS (g := false) (b := 0) (ver := u33 + 1) (s := 5) (n := (s31.1 ++ [(⟨s20.2, s31.2, ((p.getD s20.2.toNat default).getD s31.2.toNat default).Loc, v40, v41⟩ : Ximpl_Event)]).length) rfl) (stl_cons (.fz (.of_isF 9 _ rfl)) (stl_cons (.fz (.of_isF 9 _ rfl)) (stl_cons (.fz (.of_isF 9 _ rfl)) (stl_cons (.fz (.of_isF 9 _ rfl)) (stl_cons (.fz (.of_isF 9 _ rfl)) (stl_cons (.fz (.of_isF 9 _ rfl)) (stl_cons (.fz (.of_isF 9 _ rfl)) stl_nil))))))))⟩
              · replace h := condF q39 h
                refine T.skip ?_
                obtain rfl := Option.some.inj h
                exact ⟨(b34, u33), n35, cutS rfl (.cons (.list (g := b34) (ver := u33) (l := s31.1) Ximpl_Event.isF) .nil) (stl_cons (.hS (g := b34) (b := 0) (ver := u33) (s := 5) (n := s31.1.length) rfl) (stl_cons (.fz (.of_isF 9 _ rfl)) (stl_cons (.fz (.of_isF 9 _ rfl)) (stl_cons (.fz (.of_isF 9 _ rfl)) (stl_cons (.fz (.of_isF 9 _ rfl)) (stl_cons (.fz (.of_isF 9 _ rfl)) (stl_cons (.fz (.of_isF 9 _ rfl)) (stl_cons (.fz (.of_isF 9 _ rfl)) stl_nil))))))))⟩
          · replace h := condF q36 h
            refine T.exit ?_
            refine ⟨_, (Option.some.inj h).symm, fun h => ?_⟩
            replace h := congrArg some h
            obtain rfl := Option.some.inj h
            exact ⟨(b34, u33), n35, cutW rfl (weak_cons rfl (weak_cons rfl (weak_cons rfl (weak_cons rfl weak_nil))))⟩
      · replace h := condF q25 h
        refine T.exit ?_
        refine ⟨_, (Option.some.inj h).symm, fun h => ?_⟩
        replace h := congrArg some h
        obtain rfl := Option.some.inj h
        exact ⟨(b23, u22), n24, cutW rfl (weak_cons rfl weak_nil)⟩
  · clear ks1
    refine T.seq ?_
    refine T.region ?_
    refine oN (EvN.mv (I (0 : Int)) rfl) ?_
    refine TO.nil ?_
    refine T.block ?_
    refine T.loop (S := (List Ximpl_Event) × Int) (G := (Bool × Nat)) F_impl_events_L6 (fun s5 gh => (gh.1 = true → s5.1 = [])) (fun s5 gh => [(9, I s5.2), (3, hS gh.1 0 gh.2 5 s5.1.length), (0, eL (cL Ximpl_Instr.c) p)]) (fun s5 gh => [bE gh.1 gh.2 5 148 (s5.1.map Ximpl_Event.c)]) (s0 := (([] : List Ximpl_Event), (0 : Int))) (true, 0) h (fun _ => rfl) (cutW rfl (weak_cons rfl (weak_cons rfl (weak_cons rfl weak_nil)))) (fun s5 gh ws5 h n9 => ?_)
    obtain ⟨b8, u7⟩ := gh
    refine T.seq ?_
    refine T.region ?_
    refine oN (EvN.ilt rfl rfl) ?_
    refine TO.nil ?_
    refine T.seq ?_
    refine T.cond rfl (fun q10 => ?_) (fun q10 => ?_)
    · replace h := condT q10 h
      refine T.skip ?_
      refine T.seq ?_
      refine T.block ?_
      refine T.seq ?_
      refine T.region ?_
      refine oN (EvN.mv (I s5.2) rfl) ?_
      refine oN (EvN.asg (I s5.2) rfl) ?_
      refine TO.nil ?_
      refine T.region ?_
      refine oN (EvN.mv (hS b8 0 u7 5 s5.1.length) rfl) ?_
      refine oN (EvN.mv (I s5.2) rfl) ?_
      refine oN (EvN.mv (I s5.2) rfl) ?_
      refine oN (EvN.build [I (-1 : Int), I s5.2, I s5.2, Bo false, Bo true] Try.underlying148 zs148 fs148 rfl rfl) ?_
      refine oN (EvN.mkF (c := Ximpl_Event.c) ([(⟨(-1 : Int), s5.2, s5.2, false, true⟩ : Ximpl_Event)] : List Ximpl_Event) [[I (-1 : Int), I s5.2, I s5.2, Bo false, Bo true]] sl144 rfl rfl rfl (fun _ => rfl) Ximpl_Event.isF rfl) ?_
      obtain ⟨g11, h⟩ := gdL h
      refine oA (EvA.app1 (g := b8) (l := s5.1) (⟨(-1 : Int), s5.2, s5.2, false, true⟩ : Ximpl_Event) sl144 (by kernel_rfl) rfl rfl rfl n9 (SrcOk.fz (l := ([(⟨(-1 : Int), s5.2, s5.2, false, true⟩ : Ximpl_Event)] : List Ximpl_Event)) rfl (fun _ => rfl)) g11) ?_
      refine oN (EvN.asg (hS false 0 (u7 + 1) 5 ((s5.1 ++ [(⟨(-1 : Int), s5.2, s5.2, false, true⟩ : Ximpl_Event)]).length)) rfl) ?_
      refine TO.nil ?_
      refine T.clean (H0 := [bE false (u7 + 1) 5 148 ((s5.1 ++ [(⟨(-1 : Int), s5.2, s5.2, false, true⟩ : Ximpl_Event)]).map Ximpl_Event.c)]) (e0 := envOf [(3, hS false 0 (u7 + 1) 5 ((s5.1 ++ [(⟨(-1 : Int), s5.2, s5.2, false, true⟩ : Ximpl_Event)]).length)), (9, I s5.2), (0, eL (cL Ximpl_Instr.c) p)]) rfl (weak_cons rfl (weak_cons rfl (weak_cons rfl weak_nil))) ?_
      refine T.region ?_
      obtain ⟨g12, h⟩ := gdW h
      refine oN (EvN.add rfl rfl g12) ?_
      refine oN (EvN.mv (I (s5.2 + (1 : Int))) rfl) ?_
      refine TO.nil ?_
      obtain rfl := Option.some.inj h
      exact ⟨((s5.1 ++ [(⟨(-1 : Int), s5.2, s5.2, false, true⟩ : Ximpl_Event)]), (s5.2 + (1 : Int))), (false, u7 + 1), rfl, nofun, cutW rfl (weak_cons rfl (weak_cons rfl (weak_cons rfl weak_nil)))⟩
    · replace h := condF q10 h
      refine T.exit ?_
      refine ⟨_, (Option.some.inj h).symm, fun h => ?_⟩
      replace h := congrArg some h
      obtain rfl := Option.some.inj h
      exact ⟨(b8, u7), n9, cutW rfl (weak_cons rfl (weak_cons rfl weak_nil))⟩

theorem F_impl_delayRel_1_P (i : Int) (k_ : Int) (a2 : List Ximpl_Event) {q : Bool} (h : F_impl_delayRel_1 i k_ a2 = some q) : PCall Try.prog 144 [I i, I k_, .fp ((cL Ximpl_Event.c) a2) 0] (Bo q) := by
  refine PCall.mkT Try.func144 rfl (by kernel_rfl) rfl (by kernel_rfl) (e0 := envOf [(0, I i), (1, I k_), (2, .fp ((cL Ximpl_Event.c) a2) 0)]) (weak_cons rfl (weak_cons rfl (weak_cons rfl weak_nil))) ?_
  refine T.seq ?_
  refine T.region ?_
  refine oN (EvN.asg (Bo false) rfl) ?_
  refine TO.nil ?_
  obtain ⟨s1, h, ks1⟩ := bindL h
  refine T.joinF (G := Unit) (fun gh => True) (fun gh => [(5, Bo s1)]) (fun gh => []) (fun gh hg => ?_) ?_
  · clear h
    have h := ks1
    clear ks1
    refine T.ret ?_
    obtain rfl := Option.some.inj h
    repeat first | refine retS ?_ | refine retB ?_
    exact Fin.ret (vs := [Bo s1]) (.cons (.tmp rfl) .nil) (.of_isF 9 _ rfl)
  · clear ks1
    refine T.drawG (fun _ => ([], false)) (by kernel_rfl) (by kernel_rfl) ?_
    refine tN rfl (EvN.loadfp (eL Ximpl_Event.c a2) ty144 rfl rfl) ?_
    refine tN rfl (EvN.mv (I i) rfl) ?_
    obtain ⟨g2, h⟩ := gdD h
    refine tN rfl (EvN.ixL sl144 rfl rfl g2 (fun _ => rfl)) ?_
    refine tN rfl (EvN.fafp Try.underlying148 rfl (by kernel_rfl) rfl) ?_
    refine tN rfl (EvN.loadfp (I ((a2.getD i.toNat default).Thread)) ty3 rfl rfl) ?_
    refine tN rfl (EvN.ige rfl rfl) ?_
    refine tN rfl (EvN.mv (Bo (decide ((0 : Int) ≤ ((a2.getD i.toNat default).Thread)))) rfl) ?_
    rcases bifL h with ⟨q3, h⟩ | ⟨q3, h⟩
    · refine tgN rfl q3 rfl (EvN.loadfp (eL Ximpl_Event.c a2) ty144 rfl rfl) ?_
      refine tgN rfl q3 rfl (EvN.mv (I i) rfl) ?_
      refine tgN rfl q3 rfl (EvN.ixL sl144 rfl rfl g2 (fun _ => rfl)) ?_
      refine tgN rfl q3 rfl (EvN.fafp Try.underlying148 rfl (by kernel_rfl) rfl) ?_
      refine tgN rfl q3 rfl (EvN.loadfp (I ((a2.getD i.toNat default).Thread)) ty3 rfl rfl) ?_
      refine tgN rfl q3 rfl (EvN.loadfp (eL Ximpl_Event.c a2) ty144 rfl rfl) ?_
      refine tgN rfl q3 rfl (EvN.mv (I k_) rfl) ?_
      obtain ⟨g4, h⟩ := gdD h
      refine tgN rfl q3 rfl (EvN.ixL sl144 rfl rfl g4 (fun _ => rfl)) ?_
      refine tgN rfl q3 rfl (EvN.fafp Try.underlying148 rfl (by kernel_rfl) rfl) ?_
      refine tgN rfl q3 rfl (EvN.loadfp (I ((a2.getD k_.toNat default).Thread)) ty3 rfl rfl) ?_
      refine tgN rfl q3 rfl (EvN.ieq rfl rfl) ?_
      refine tN rfl (EvN.pickT rfl q3 (Bo (((a2.getD i.toNat default).Thread) == ((a2.getD k_.toNat default).Thread))) rfl) ?_
      refine tN rfl (EvN.mv (Bo (((a2.getD i.toNat default).Thread) == ((a2.getD k_.toNat default).Thread))) rfl) ?_
      rcases bifL h with ⟨q5, h⟩ | ⟨q5, h⟩
      · refine tgN rfl q5 rfl (EvN.loadfp (eL Ximpl_Event.c a2) ty144 rfl rfl) ?_
        refine tgN rfl q5 rfl (EvN.mv (I i) rfl) ?_
        refine tgN rfl q5 rfl (EvN.ixL sl144 rfl rfl g2 (fun _ => rfl)) ?_
        refine tgN rfl q5 rfl (EvN.fafp Try.underlying148 rfl (by kernel_rfl) rfl) ?_
        refine tgN rfl q5 rfl (EvN.loadfp (I ((a2.getD i.toNat default).Index)) ty3 rfl rfl) ?_
        refine tgN rfl q5 rfl (EvN.loadfp (eL Ximpl_Event.c a2) ty144 rfl rfl) ?_
        refine tgN rfl q5 rfl (EvN.mv (I k_) rfl) ?_
        refine tgN rfl q5 rfl (EvN.ixL sl144 rfl rfl g4 (fun _ => rfl)) ?_
        refine tgN rfl q5 rfl (EvN.fafp Try.underlying148 rfl (by kernel_rfl) rfl) ?_
        refine tgN rfl q5 rfl (EvN.loadfp (I ((a2.getD k_.toNat default).Index)) ty3 rfl rfl) ?_
        refine tgN rfl q5 rfl (EvN.ilt rfl rfl) ?_
        refine tN rfl (EvN.pickT rfl q5 (Bo (decide (((a2.getD i.toNat default).Index) < ((a2.getD k_.toNat default).Index)))) rfl) ?_
        refine tN rfl (EvN.asg (Bo (decide (((a2.getD i.toNat default).Index) < ((a2.getD k_.toNat default).Index)))) rfl) ?_
        refine TG.nil ?_
        obtain rfl := Option.some.inj h
        exact ⟨(), trivial, cutW rfl (weak_cons rfl weak_nil)⟩
      · refine tgS rfl q5 ?_
        refine tgS rfl q5 ?_
        refine tgS rfl q5 ?_
        refine tgS rfl q5 ?_
        refine tgS rfl q5 ?_
        refine tgS rfl q5 ?_
        refine tgS rfl q5 ?_
        refine tgS rfl q5 ?_
        refine tgS rfl q5 ?_
        refine tgS rfl q5 ?_
        refine tgS rfl q5 ?_
        refine tN rfl (EvN.pickF rfl q5 (Bo false) rfl) ?_
        refine tN rfl (EvN.asg (Bo false) rfl) ?_
        refine TG.nil ?_
        obtain rfl := Option.some.inj h
        exact ⟨(), trivial, cutW rfl (weak_cons rfl weak_nil)⟩
    · refine tgS rfl q3 ?_
      refine tgS rfl q3 ?_
      refine tgS rfl q3 ?_
      refine tgS rfl q3 ?_
      refine tgS rfl q3 ?_
      refine tgS rfl q3 ?_
      refine tgS rfl q3 ?_
      refine tgS rfl q3 ?_
      refine tgS rfl q3 ?_
      refine tgS rfl q3 ?_
      refine tgS rfl q3 ?_
      refine tN rfl (EvN.pickF rfl q3 (Bo false) rfl) ?_
      refine tN rfl (EvN.mv (Bo false) rfl) ?_
      refine tgS rfl rfl ?_
      refine tgS rfl rfl ?_
      refine tgS rfl rfl ?_
      refine tgS rfl rfl ?_
      refine tgS rfl rfl ?_
      refine tgS rfl rfl ?_
      refine tgS rfl rfl ?_
      refine tgS rfl rfl ?_
      refine tgS rfl rfl ?_
      refine tgS rfl rfl ?_
      refine tgS rfl rfl ?_
      refine tN rfl (EvN.pickF rfl rfl (Bo false) rfl) ?_
      refine tN rfl (EvN.asg (Bo false) rfl) ?_
      refine TG.nil ?_
      obtain rfl := Option.some.inj h
      exact ⟨(), trivial, cutW rfl (weak_cons rfl weak_nil)⟩

theorem F_impl_pairsOf__impl_delayRel_1_P (n : Int) (is0 : List Ximpl_Event) {q : (List Int)} (h : F_impl_pairsOf__impl_delayRel_1 n is0 = some q) : PCall Try.prog 143 [I n, .fn (.func 144) [.fp ((cL Ximpl_Event.c) is0) 0]] (eL cI q) := by
  refine PCall.mkT Try.func143 rfl (by kernel_rfl) rfl (by kernel_rfl) (e0 := envOf [(0, I n), (1, .fn (.func 144) [.fp ((cL Ximpl_Event.c) is0) 0])]) (weak_cons rfl (weak_cons rfl weak_nil)) ?_
  refine T.seq ?_
  refine T.region ?_
  refine oN (EvN.asg (.nil) rfl) ?_
  refine TO.nil ?_
  refine T.seq ?_
  refine T.region ?_
  refine oN (EvN.mv (I n) rfl) ?_
  obtain ⟨g1, h⟩ := gdD h
  refine oA (EvA.mkN (c := cI) (default : Int) sl37 rfl rfl g1 rfl rfl rfl) ?_
  refine oN (EvN.asg (hS false 0 0 1 ((List.replicate n.toNat (default : Int)).length)) rfl) ?_
  refine TO.nil ?_
  obtain ⟨s2, h, ks2⟩ := bindL h
  refine T.joinF (G := Nat) (fun gh => True) (fun gh => [(5, hS false 0 gh 1 s2.length)]) (fun gh => [bE false gh 1 3 (s2.map cI)]) (fun u23 hg => ?_) ?_
  · clear h
    have h := ks2
    clear ks2
    refine T.seq ?_
    refine T.region ?_
    refine oN (EvN.mv (hS false 0 u23 1 s2.length) rfl) ?_
    refine oN (EvN.asg (hS false 0 u23 1 s2.length) rfl) ?_
    refine TO.nil ?_
    refine T.ret ?_
    obtain rfl := Option.some.inj h
    repeat first | refine retS ?_ | refine retB ?_
    exact Fin.ret (vs := [hS false 0 u23 1 s2.length]) (.cons (.tmp rfl) .nil) (Fz.own (g := false) (ver := u23) (l := s2) rfl rfl rfl nofun (fun _ => rfl))
  · clear ks2
    refine T.seq ?_
    refine T.region ?_
    refine oN (EvN.mv (I n) rfl) ?_
    refine oN (EvN.mv (I (0 : Int)) rfl) ?_
    refine TO.nil ?_
    refine T.block ?_
    refine T.loop (S := (List Int) × Int) (G := Nat) (F_impl_pairsOf__impl_delayRel_1_L5 n is0) (fun s4 gh => True) (fun s4 gh => [(11, I s4.2), (10, I n), (5, hS false 0 gh 1 s4.1.length), (0, I n), (1, .fn (.func 144) [.fp ((cL Ximpl_Event.c) is0) 0])]) (fun s4 gh => [bE false gh 1 3 (s4.1.map cI)]) (s0 := ((List.replicate n.toNat (default : Int)), (0 : Int))) 0 h trivial (cutW rfl (weak_cons rfl (weak_cons rfl (weak_cons rfl (weak_cons rfl (weak_cons rfl weak_nil)))))) (fun s4 u6 ws4 h hg => ?_)
    refine T.seq ?_
    refine T.region ?_
    refine oN (EvN.ilt rfl rfl) ?_
    refine TO.nil ?_
    refine T.seq ?_
    refine T.cond rfl (fun q7 => ?_) (fun q7 => ?_)
    · replace h := condT q7 h
      refine T.skip ?_
      obtain ⟨s8, h, ks8⟩ := bindL h
      refine T.joinF (G := Nat) (fun gh => True) (fun gh => [(11, I s4.2), (10, I n), (5, hS false 0 gh 1 s8.length), (0, I n), (1, .fn (.func 144) [.fp ((cL Ximpl_Event.c) is0) 0])]) (fun gh => [bE false gh 1 3 (s8.map cI)]) (fun u21 hg => ?_) ?_
      · clear h
        have h := ks8
        clear ks8
        refine T.region ?_
        obtain ⟨g22, h⟩ := gdW h
        refine oN (EvN.add rfl rfl g22) ?_
        refine oN (EvN.mv (I (s4.2 + (1 : Int))) rfl) ?_
        refine TO.nil ?_
        obtain rfl := Option.some.inj h
        exact ⟨(s8, (s4.2 + (1 : Int))), u21, rfl, trivial, cutW rfl (weak_cons rfl (weak_cons rfl (weak_cons rfl (weak_cons rfl (weak_cons rfl weak_nil)))))⟩
      · clear ks8
        refine T.block ?_
        refine T.seq ?_
        refine T.region ?_
        refine oN (EvN.mv (I s4.2) rfl) ?_
        refine oN (EvN.asg (I s4.2) rfl) ?_
        refine TO.nil ?_
        refine T.seq ?_
        refine T.region ?_
        refine oN (EvN.mv (I n) rfl) ?_
        refine oN (EvN.mv (I (0 : Int)) rfl) ?_
        refine TO.nil ?_
        refine T.block ?_
        refine T.loop (S := (List Int) × Int) (G := Nat) (F_impl_pairsOf__impl_delayRel_1_L11 n is0 s4) (fun s10 gh => True) (fun s10 gh => [(15, I s10.2), (14, I n), (6, I s4.2), (11, I s4.2), (10, I n), (5, hS false 0 gh 1 s10.1.length), (0, I n), (1, .fn (.func 144) [.fp ((cL Ximpl_Event.c) is0) 0])]) (fun s10 gh => [bE false gh 1 3 (s10.1.map cI)]) (s0 := (s4.1, (0 : Int))) u6 h trivial (cutW rfl (weak_cons rfl (weak_cons rfl (weak_cons rfl (weak_cons rfl (weak_cons rfl (weak_cons rfl (weak_cons rfl (weak_cons rfl weak_nil))))))))) (fun s10 u12 ws10 h hg => ?_)
        refine T.seq ?_
        refine T.region ?_
        refine oN (EvN.ilt rfl rfl) ?_
        refine TO.nil ?_
        refine T.seq ?_
        refine T.cond rfl (fun q13 => ?_) (fun q13 => ?_)
        · replace h := condT q13 h
          refine T.skip ?_
          obtain ⟨s14, h, ks14⟩ := bindL h
          refine T.joinF (G := Nat) (fun gh => True) (fun gh => [(15, I s10.2), (14, I n), (6, I s4.2), (11, I s4.2), (10, I n), (5, hS false 0 gh 1 s14.length), (0, I n), (1, .fn (.func 144) [.fp ((cL Ximpl_Event.c) is0) 0])]) (fun gh => [bE false gh 1 3 (s14.map cI)]) (fun u19 hg => ?_) ?_
          · clear h
            have h := ks14
            clear ks14
            refine T.region ?_
            obtain ⟨g20, h⟩ := gdW h
            refine oN (EvN.add rfl rfl g20) ?_
            refine oN (EvN.mv (I (s10.2 + (1 : Int))) rfl) ?_
            refine TO.nil ?_
            obtain rfl := Option.some.inj h
            exact ⟨(s14, (s10.2 + (1 : Int))), u19, rfl, trivial, cutW rfl (weak_cons rfl (weak_cons rfl (weak_cons rfl (weak_cons rfl (weak_cons rfl (weak_cons rfl (weak_cons rfl (weak_cons rfl weak_nil))))))))⟩
          · clear ks14
            refine T.block ?_
            refine T.seq ?_
            refine T.region ?_
            refine oN (EvN.mv (I s10.2) rfl) ?_
            refine oN (EvN.asg (I s10.2) rfl) ?_
            refine TO.nil ?_
            refine T.seq ?_
            refine T.region ?_
            refine oN (EvN.mv (.fn (.func 144) [.fp ((cL Ximpl_Event.c) is0) 0]) rfl) ?_
            refine oN (EvN.mv (I s4.2) rfl) ?_
            refine oN (EvN.mv (I s10.2) rfl) ?_
            obtain ⟨v15, cv15, h⟩ := bindL h
            refine oN (EvN.call rfl rfl rfl (F_impl_delayRel_1_P s4.2 s10.2 is0 cv15) rfl) ?_
            refine TO.nil ?_
            refine T.cond rfl (fun q16 => ?_) (fun q16 => ?_)
            · replace h := condT q16 h
              refine T.clean (H0 := [bE false u12 1 3 (s10.1.map cI)]) (e0 := envOf [(7, I s10.2), (15, I s10.2), (14, I n), (6, I s4.2), (11, I s4.2), (10, I n), (5, hS false 0 u12 1 s10.1.length), (0, I n), (1, .fn (.func 144) [.fp ((cL Ximpl_Event.c) is0) 0])]) rfl (weak_cons rfl (weak_cons rfl (weak_cons rfl (weak_cons rfl (weak_cons rfl (weak_cons rfl (weak_cons rfl (weak_cons rfl (weak_cons rfl weak_nil))))))))) ?_
              refine T.drawF (fun i => [([], false), ([], false), ([], false), ([0], false), ([], false), ([], false), ([], false), ([], false), ([0], true)].getD i ([], false)) (by kernel_rfl) (by kernel_rfl) ?_
              refine fN rfl (EvN.mv (hS false 0 u12 1 s10.1.length) rfl) ?_
              refine fN rfl (EvN.mv (I s4.2) rfl) ?_
              obtain ⟨g17, h⟩ := gdD h
              refine fN rfl (EvN.ixO (g := false) sl37 rfl rfl nofun g17) ?_
              refine fR [0] rfl (fun G hG => EvA.ldO (g := false) (l := s10.1) (I (s10.1.getD s4.2.toNat default)) ty3 rfl (hG.a0 rfl) nofun (toNat_lt' rfl g17) rfl) ?_
              refine fN rfl (EvN.mv (I s10.2) rfl) ?_
              obtain ⟨g18, h⟩ := gdD h
              refine fN rfl (EvN.shl rfl rfl g18) ?_
              refine fN rfl (EvN.bor rfl rfl) ?_
              refine fN rfl (EvN.ixO (g := false) sl37 rfl rfl nofun g17) ?_
              refine fV 0 [] rfl rfl (fun G hG => EvA.stO (g := false) (l := s10.1) (cs := [I (bOr .i64 (s10.1.getD s4.2.toNat default) (bShl .i64 (1 : Int) s10.2))]) (bOr .i64 (s10.1.getD s4.2.toNat default) (bShl .i64 (1 : Int) s10.2)) ty3 rfl rfl (hG.a0 rfl) nofun (toNat_lt' rfl g17) rfl rfl rfl) ?_
              refine TF.nil ?_
              obtain rfl := Option.some.inj h
              exact ⟨u12, trivial, cutW rfl (weak_cons rfl (weak_cons rfl (weak_cons rfl (weak_cons rfl (weak_cons rfl (weak_cons (congrArg (hS false 0 u12 1) (by simp : s10.1.length = (s10.1.set s4.2.toNat (bOr .i64 (s10.1.getD s4.2.toNat default) (bShl .i64 (1 : Int) s10.2))).length)) (weak_cons rfl (weak_cons rfl weak_nil))))))))⟩
            · replace h := condF q16 h
              refine T.skip ?_
              obtain rfl := Option.some.inj h
              exact ⟨u12, trivial, cutW rfl (weak_cons rfl (weak_cons rfl (weak_cons rfl (weak_cons rfl (weak_cons rfl (weak_cons rfl (weak_cons rfl (weak_cons rfl weak_nil))))))))⟩
        · replace h := condF q13 h
          refine T.exit ?_
          refine ⟨_, (Option.some.inj h).symm, fun h => ?_⟩
          replace h := congrArg some h
          obtain rfl := Option.some.inj h
          exact ⟨u12, trivial, cutW rfl (weak_cons rfl (weak_cons rfl (weak_cons rfl (weak_cons rfl (weak_cons rfl weak_nil)))))⟩
    · replace h := condF q7 h
      refine T.exit ?_
      refine ⟨_, (Option.some.inj h).symm, fun h => ?_⟩
      replace h := congrArg some h
      obtain rfl := Option.some.inj h
      exact ⟨u6, trivial, cutW rfl (weak_cons rfl weak_nil)⟩

theorem F_impl_conflictRel_1_P (i : Int) (k_ : Int) (a2 : List Ximpl_Event) (a3 : List (List Ximpl_Instr)) {q : Bool} (h : F_impl_conflictRel_1 i k_ a2 a3 = some q) : PCall Try.prog 197 [I i, I k_, .fp ((cL Ximpl_Event.c) a2) 0, .fp ((cL (cL Ximpl_Instr.c)) a3) 0] (Bo q) := by
  refine PCall.mkT Try.func197 rfl (by kernel_rfl) rfl (by kernel_rfl) (e0 := envOf [(0, I i), (1, I k_), (2, .fp ((cL Ximpl_Event.c) a2) 0), (3, .fp ((cL (cL Ximpl_Instr.c)) a3) 0)]) (weak_cons rfl (weak_cons rfl (weak_cons rfl (weak_cons rfl weak_nil)))) ?_
  refine T.seq ?_
  refine T.region ?_
  refine oN (EvN.asg (Bo false) rfl) ?_
  refine TO.nil ?_
  refine T.seq ?_
  refine T.reserve ?_
  refine T.reserve ?_
  refine T.drawF (fun i => [([], false), ([], false), ([], false), ([], false), ([], false), ([], false), ([], false), ([], false), ([0], true), ([1], true), ([0], true), ([1], true)].getD i ([], false)) (by kernel_rfl) (by kernel_rfl) ?_
  refine fN rfl (EvN.loadfp (eL Ximpl_Event.c a2) ty144 rfl rfl) ?_
  refine fN rfl (EvN.mv (I i) rfl) ?_
  obtain ⟨g1, h⟩ := gdD h
  refine fN rfl (EvN.ixL sl144 rfl rfl g1 (fun _ => rfl)) ?_
  refine fN rfl (EvN.loadfp (.agg (Ximpl_Event.c (a2.getD i.toNat default))) ty148 rfl rfl) ?_
  refine fN rfl (EvN.loadfp (eL Ximpl_Event.c a2) ty144 rfl rfl) ?_
  refine fN rfl (EvN.mv (I k_) rfl) ?_
  obtain ⟨g2, h⟩ := gdD h
  refine fN rfl (EvN.ixL sl144 rfl rfl g2 (fun _ => rfl)) ?_
  refine fN rfl (EvN.loadfp (.agg (Ximpl_Event.c (a2.getD k_.toNat default))) ty148 rfl rfl) ?_
  refine fW 0 [] rfl rfl (fun G hG => EvA.alR 0 zs148 rfl rfl (hG.a0 rfl)) ?_
  refine fW 1 [] rfl rfl (fun G hG => EvA.alR 1 zs148 rfl rfl (hG.a0 rfl)) ?_
  refine fV 0 [] rfl rfl (fun G hG => EvA.st (cs := [I ((a2.getD i.toNat default).Thread), I ((a2.getD i.toNat default).Index), I ((a2.getD i.toNat default).Loc), Bo ((a2.getD i.toNat default).Reads), Bo ((a2.getD i.toNat default).Writes)]) ⟨0, 5, 148, [[I ((a2.getD i.toNat default).Thread), I ((a2.getD i.toNat default).Index), I ((a2.getD i.toNat default).Loc), Bo ((a2.getD i.toNat default).Reads), Bo ((a2.getD i.toNat default).Writes)]]⟩ ty148 rfl rfl (hG.a0 rfl) rfl rfl rfl rfl rfl rfl) ?_
  refine fV 1 [] rfl rfl (fun G hG => EvA.st (cs := [I ((a2.getD k_.toNat default).Thread), I ((a2.getD k_.toNat default).Index), I ((a2.getD k_.toNat default).Loc), Bo ((a2.getD k_.toNat default).Reads), Bo ((a2.getD k_.toNat default).Writes)]) ⟨0, 5, 148, [[I ((a2.getD k_.toNat default).Thread), I ((a2.getD k_.toNat default).Index), I ((a2.getD k_.toNat default).Loc), Bo ((a2.getD k_.toNat default).Reads), Bo ((a2.getD k_.toNat default).Writes)]]⟩ ty148 rfl rfl (hG.a0 rfl) rfl rfl rfl rfl rfl rfl) ?_
  refine TF.nil ?_
  obtain ⟨s3, h, ks3⟩ := bindL h
  refine T.joinF (G := Unit) (fun gh => True) (fun gh => [(6, Bo s3)]) (fun gh => [some ⟨0, 5, 148, [[I ((a2.getD i.toNat default).Thread), I ((a2.getD i.toNat default).Index), I ((a2.getD i.toNat default).Loc), Bo ((a2.getD i.toNat default).Reads), Bo ((a2.getD i.toNat default).Writes)]]⟩, some ⟨0, 5, 148, [[I ((a2.getD k_.toNat default).Thread), I ((a2.getD k_.toNat default).Index), I ((a2.getD k_.toNat default).Loc), Bo ((a2.getD k_.toNat default).Reads), Bo ((a2.getD k_.toNat default).Writes)]]⟩]) (fun gh hg => ?_) ?_
  · clear h
    have h := ks3
    clear ks3
    refine T.ret ?_
    obtain rfl := Option.some.inj h
    repeat first | refine retS ?_ | refine retB ?_
    exact Fin.ret (vs := [Bo s3]) (.cons (.tmp rfl) .nil) (.of_isF 9 _ rfl)
  · clear ks3
    refine T.clean (H0 := [some ⟨0, 5, 148, [[I ((a2.getD i.toNat default).Thread), I ((a2.getD i.toNat default).Index), I ((a2.getD i.toNat default).Loc), Bo ((a2.getD i.toNat default).Reads), Bo ((a2.getD i.toNat default).Writes)]]⟩, some ⟨0, 5, 148, [[I ((a2.getD k_.toNat default).Thread), I ((a2.getD k_.toNat default).Index), I ((a2.getD k_.toNat default).Loc), Bo ((a2.getD k_.toNat default).Reads), Bo ((a2.getD k_.toNat default).Writes)]]⟩]) (e0 := envOf [(8, .hp 1 0 5 0 0), (7, .hp 0 0 5 0 0), (3, .fp ((cL (cL Ximpl_Instr.c)) a3) 0)]) rfl (weak_cons rfl (weak_cons rfl (weak_cons rfl weak_nil))) ?_
    refine T.drawG (fun i => [([], false), ([0], false), ([], false), ([], false), ([], false), ([1], false), ([], false), ([], false), ([], false), ([], false), ([0], false), ([], false), ([1], false), ([], false), ([], false), ([], false), ([], false), ([], false), ([0], false), ([], false), ([], false), ([], false), ([0], false), ([], false), ([], false), ([], false), ([], false), ([1], false), ([], false), ([], false), ([], false), ([1], false), ([], false), ([], false), ([], false), ([], false), ([], false)].getD i ([], false)) (by kernel_rfl) (by kernel_rfl) ?_
    refine tN rfl (EvN.fahp Try.underlying148 rfl (by kernel_rfl) rfl) ?_
    refine tR [0] rfl (fun G hG => EvA.loadhp (I ((a2.getD i.toNat default).Thread)) ty3 rfl (hG.a0 rfl) rfl rfl rfl rfl) ?_
    refine tN rfl (EvN.ige rfl rfl) ?_
    refine tN rfl (EvN.mv (Bo (decide ((0 : Int) ≤ ((a2.getD i.toNat default).Thread)))) rfl) ?_
    rcases bifL h with ⟨q4, h⟩ | ⟨q4, h⟩
    · refine tgN rfl q4 rfl (EvN.fahp Try.underlying148 rfl (by kernel_rfl) rfl) ?_
      refine tgR rfl q4 [1] rfl (fun G hG => EvA.loadhp (I ((a2.getD k_.toNat default).Thread)) ty3 rfl (hG.a0 rfl) rfl rfl rfl rfl) ?_
      refine tgN rfl q4 rfl (EvN.ige rfl rfl) ?_
      refine tN rfl (EvN.pickT rfl q4 (Bo (decide ((0 : Int) ≤ ((a2.getD k_.toNat default).Thread)))) rfl) ?_
      refine tN rfl (EvN.mv (Bo (decide ((0 : Int) ≤ ((a2.getD k_.toNat default).Thread)))) rfl) ?_
      rcases bifL h with ⟨q5, h⟩ | ⟨q5, h⟩
      · refine tgN rfl q5 rfl (EvN.fahp Try.underlying148 rfl (by kernel_rfl) rfl) ?_
        refine tgR rfl q5 [0] rfl (fun G hG => EvA.loadhp (I ((a2.getD i.toNat default).Thread)) ty3 rfl (hG.a0 rfl) rfl rfl rfl rfl) ?_
        refine tgN rfl q5 rfl (EvN.fahp Try.underlying148 rfl (by kernel_rfl) rfl) ?_
        refine tgR rfl q5 [1] rfl (fun G hG => EvA.loadhp (I ((a2.getD k_.toNat default).Thread)) ty3 rfl (hG.a0 rfl) rfl rfl rfl rfl) ?_
        refine tgN rfl q5 rfl (EvN.ine rfl rfl) ?_
        refine tN rfl (EvN.pickT rfl q5 (Bo (((a2.getD i.toNat default).Thread) != ((a2.getD k_.toNat default).Thread))) rfl) ?_
        refine tN rfl (EvN.mv (Bo (((a2.getD i.toNat default).Thread) != ((a2.getD k_.toNat default).Thread))) rfl) ?_
        rcases bifL h with ⟨q6, h⟩ | ⟨q6, h⟩
        · refine tgN rfl q6 rfl (EvN.loadfp (eL (cL Ximpl_Instr.c) a3) ty23 rfl rfl) ?_
          refine tgN rfl q6 rfl (EvN.fahp Try.underlying148 rfl (by kernel_rfl) rfl) ?_
          refine tgR rfl q6 [0] rfl (fun G hG => EvA.loadhp (I ((a2.getD i.toNat default).Thread)) ty3 rfl (hG.a0 rfl) rfl rfl rfl rfl) ?_
          obtain ⟨g7, h⟩ := gdD h
          refine tgN rfl q6 rfl (EvN.ixL sl23 rfl rfl g7 (fun _ => rfl)) ?_
          refine tgN rfl q6 rfl (EvN.loadfp (eL Ximpl_Instr.c (a3.getD ((a2.getD i.toNat default).Thread).toNat default)) ty78 rfl rfl) ?_
          refine tgN rfl q6 rfl (EvN.fahp Try.underlying148 rfl (by kernel_rfl) rfl) ?_
          refine tgR rfl q6 [0] rfl (fun G hG => EvA.loadhp (I ((a2.getD i.toNat default).Index)) ty3 rfl (hG.a0 rfl) rfl rfl rfl rfl) ?_
          obtain ⟨g8, h⟩ := gdD h
          refine tgN rfl q6 rfl (EvN.ixL sl78 rfl rfl g8 (fun _ => rfl)) ?_
          refine tgN rfl q6 rfl (EvN.loadfp (.agg (Ximpl_Instr.c ((a3.getD ((a2.getD i.toNat default).Thread).toNat default).getD ((a2.getD i.toNat default).Index).toNat default))) ty81 rfl rfl) ?_
          refine tgN rfl q6 rfl (EvN.loadfp (eL (cL Ximpl_Instr.c) a3) ty23 rfl rfl) ?_
          refine tgN rfl q6 rfl (EvN.fahp Try.underlying148 rfl (by kernel_rfl) rfl) ?_
          refine tgR rfl q6 [1] rfl (fun G hG => EvA.loadhp (I ((a2.getD k_.toNat default).Thread)) ty3 rfl (hG.a0 rfl) rfl rfl rfl rfl) ?_
          obtain ⟨g9, h⟩ := gdD h
          refine tgN rfl q6 rfl (EvN.ixL sl23 rfl rfl g9 (fun _ => rfl)) ?_
          refine tgN rfl q6 rfl (EvN.loadfp (eL Ximpl_Instr.c (a3.getD ((a2.getD k_.toNat default).Thread).toNat default)) ty78 rfl rfl) ?_
          refine tgN rfl q6 rfl (EvN.fahp Try.underlying148 rfl (by kernel_rfl) rfl) ?_
          refine tgR rfl q6 [1] rfl (fun G hG => EvA.loadhp (I ((a2.getD k_.toNat default).Index)) ty3 rfl (hG.a0 rfl) rfl rfl rfl rfl) ?_
          obtain ⟨g10, h⟩ := gdD h
          refine tgN rfl q6 rfl (EvN.ixL sl78 rfl rfl g10 (fun _ => rfl)) ?_
          refine tgN rfl q6 rfl (EvN.loadfp (.agg (Ximpl_Instr.c ((a3.getD ((a2.getD k_.toNat default).Thread).toNat default).getD ((a2.getD k_.toNat default).Index).toNat default))) ty81 rfl rfl) ?_
          obtain ⟨v11, cv11, h⟩ := bindL h
          refine tgN rfl q6 rfl (EvN.call rfl rfl rfl (F_impl_conflict_P ((a3.getD ((a2.getD i.toNat default).Thread).toNat default).getD ((a2.getD i.toNat default).Index).toNat default) ((a3.getD ((a2.getD k_.toNat default).Thread).toNat default).getD ((a2.getD k_.toNat default).Index).toNat default) cv11) rfl) ?_
          refine tN rfl (EvN.pickT rfl q6 (Bo v11) rfl) ?_
          refine tN rfl (EvN.asg (Bo v11) rfl) ?_
          refine TG.nil ?_
          obtain rfl := Option.some.inj h
          exact ⟨(), trivial, cutW rfl (weak_cons rfl weak_nil)⟩
        · refine tgS rfl q6 ?_
          refine tgS rfl q6 ?_
          refine tgS rfl q6 ?_
          refine tgS rfl q6 ?_
          refine tgS rfl q6 ?_
          refine tgS rfl q6 ?_
          refine tgS rfl q6 ?_
          refine tgS rfl q6 ?_
          refine tgS rfl q6 ?_
          refine tgS rfl q6 ?_
          refine tgS rfl q6 ?_
          refine tgS rfl q6 ?_
          refine tgS rfl q6 ?_
          refine tgS rfl q6 ?_
          refine tgS rfl q6 ?_
          refine tgS rfl q6 ?_
          refine tgS rfl q6 ?_
          refine tgS rfl q6 ?_
          refine tgS rfl q6 ?_
          refine tN rfl (EvN.pickF rfl q6 (Bo false) rfl) ?_
          refine tN rfl (EvN.asg (Bo false) rfl) ?_
          refine TG.nil ?_
          obtain rfl := Option.some.inj h
          exact ⟨(), trivial, cutW rfl (weak_cons rfl weak_nil)⟩
      · refine tgS rfl q5 ?_
        refine tgS rfl q5 ?_
        refine tgS rfl q5 ?_
        refine tgS rfl q5 ?_
        refine tgS rfl q5 ?_
        refine tN rfl (EvN.pickF rfl q5 (Bo false) rfl) ?_
        refine tN rfl (EvN.mv (Bo false) rfl) ?_
        refine tgS rfl rfl ?_
        refine tgS rfl rfl ?_
        refine tgS rfl rfl ?_
        refine tgS rfl rfl ?_
        refine tgS rfl rfl ?_
        refine tgS rfl rfl ?_
        refine tgS rfl rfl ?_
        refine tgS rfl rfl ?_
        refine tgS rfl rfl ?_
        refine tgS rfl rfl ?_
        refine tgS rfl rfl ?_
        refine tgS rfl rfl ?_
        refine tgS rfl rfl ?_
        refine tgS rfl rfl ?_
        refine tgS rfl rfl ?_
        refine tgS rfl rfl ?_
        refine tgS rfl rfl ?_
        refine tgS rfl rfl ?_
        refine tgS rfl rfl ?_
        refine tN rfl (EvN.pickF rfl rfl (Bo false) rfl) ?_
        refine tN rfl (EvN.asg (Bo false) rfl) ?_
        refine TG.nil ?_
        obtain rfl := Option.some.inj h
        exact ⟨(), trivial, cutW rfl (weak_cons rfl weak_nil)⟩
    · refine tgS rfl q4 ?_
      refine tgS rfl q4 ?_
      refine tgS rfl q4 ?_
      refine tN rfl (EvN.pickF rfl q4 (Bo false) rfl) ?_
      refine tN rfl (EvN.mv (Bo false) rfl) ?_
      refine tgS rfl rfl ?_
      refine tgS rfl rfl ?_
      refine tgS rfl rfl ?_
      refine tgS rfl rfl ?_
      refine tgS rfl rfl ?_
      refine tN rfl (EvN.pickF rfl rfl (Bo false) rfl) ?_
      refine tN rfl (EvN.mv (Bo false) rfl) ?_
      refine tgS rfl rfl ?_
      refine tgS rfl rfl ?_
      refine tgS rfl rfl ?_
      refine tgS rfl rfl ?_
      refine tgS rfl rfl ?_
      refine tgS rfl rfl ?_
      refine tgS rfl rfl ?_
      refine tgS rfl rfl ?_
      refine tgS rfl rfl ?_
      refine tgS rfl rfl ?_
      refine tgS rfl rfl ?_
      refine tgS rfl rfl ?_
      refine tgS rfl rfl ?_
      refine tgS rfl rfl ?_
      refine tgS rfl rfl ?_
      refine tgS rfl rfl ?_
      refine tgS rfl rfl ?_
      refine tgS rfl rfl ?_
      refine tgS rfl rfl ?_
      refine tN rfl (EvN.pickF rfl rfl (Bo false) rfl) ?_
      refine tN rfl (EvN.asg (Bo false) rfl) ?_
      refine TG.nil ?_
      obtain rfl := Option.some.inj h
      exact ⟨(), trivial, cutW rfl (weak_cons rfl weak_nil)⟩

theorem F_impl_pairsOf__impl_conflictRel_1_P (n : Int) (is0 : List Ximpl_Event) (is1 : List (List Ximpl_Instr)) {q : (List Int)} (h : F_impl_pairsOf__impl_conflictRel_1 n is0 is1 = some q) : PCall Try.prog 143 [I n, .fn (.func 197) [.fp ((cL Ximpl_Event.c) is0) 0, .fp ((cL (cL Ximpl_Instr.c)) is1) 0]] (eL cI q) := by
  refine PCall.mkT Try.func143 rfl (by kernel_rfl) rfl (by kernel_rfl) (e0 := envOf [(0, I n), (1, .fn (.func 197) [.fp ((cL Ximpl_Event.c) is0) 0, .fp ((cL (cL Ximpl_Instr.c)) is1) 0])]) (weak_cons rfl (weak_cons rfl weak_nil)) ?_
  refine T.seq ?_
  refine T.region ?_
  refine oN (EvN.asg (.nil) rfl) ?_
  refine TO.nil ?_
  refine T.seq ?_
  refine T.region ?_
  refine oN (EvN.mv (I n) rfl) ?_
  obtain ⟨g1, h⟩ := gdD h
  refine oA (EvA.mkN (c := cI) (default : Int) sl37 rfl rfl g1 rfl rfl rfl) ?_
  refine oN (EvN.asg (hS false 0 0 1 ((List.replicate n.toNat (default : Int)).length)) rfl) ?_
  refine TO.nil ?_
  obtain ⟨s2, h, ks2⟩ := bindL h
  refine T.joinF (G := Nat) (fun gh => True) (fun gh => [(5, hS false 0 gh 1 s2.length)]) (fun gh => [bE false gh 1 3 (s2.map cI)]) (fun u23 hg => ?_) ?_
  · clear h
    have h := ks2
    clear ks2
    refine T.seq ?_
    refine T.region ?_
    refine oN (EvN.mv (hS false 0 u23 1 s2.length) rfl) ?_
    refine oN (EvN.asg (hS false 0 u23 1 s2.length) rfl) ?_
    refine TO.nil ?_
    refine T.ret ?_
    obtain rfl := Option.some.inj h
    repeat first | refine retS ?_ | refine retB ?_
    exact Fin.ret (vs := [hS false 0 u23 1 s2.length]) (.cons (.tmp rfl) .nil) (Fz.own (g := false) (ver := u23) (l := s2) rfl rfl rfl nofun (fun _ => rfl))
  · clear ks2
    refine T.seq ?_
    refine T.region ?_
    refine oN (EvN.mv (I n) rfl) ?_
    refine oN (EvN.mv (I (0 : Int)) rfl) ?_
    refine TO.nil ?_
    refine T.block ?_
    refine T.loop (S := (List Int) × Int) (G := Nat) (F_impl_pairsOf__impl_conflictRel_1_L5 n is0 is1) (fun s4 gh => True) (fun s4 gh => [(11, I s4.2), (10, I n), (5, hS false 0 gh 1 s4.1.length), (0, I n), (1, .fn (.func 197) [.fp ((cL Ximpl_Event.c) is0) 0, .fp ((cL (cL Ximpl_Instr.c)) is1) 0])]) (fun s4 gh => [bE false gh 1 3 (s4.1.map cI)]) (s0 := ((List.replicate n.toNat (default : Int)), (0 : Int))) 0 h trivial (cutW rfl (weak_cons rfl (weak_cons rfl (weak_cons rfl (weak_cons rfl (weak_cons rfl weak_nil)))))) (fun s4 u6 ws4 h hg => ?_)
    refine T.seq ?_
    refine T.region ?_
    refine oN (EvN.ilt rfl rfl) ?_
    refine TO.nil ?_
    refine T.seq ?_
    refine T.cond rfl (fun q7 => ?_) (fun q7 => ?_)
    · replace h := condT q7 h
      refine T.skip ?_
      obtain ⟨s8, h, ks8⟩ := bindL h
      refine T.joinF (G := Nat) (fun gh => True) (fun gh => [(11, I s4.2), (10, I n), (5, hS false 0 gh 1 s8.length), (0, I n), (1, .fn (.func 197) [.fp ((cL Ximpl_Event.c) is0) 0, .fp ((cL (cL Ximpl_Instr.c)) is1) 0])]) (fun gh => [bE false gh 1 3 (s8.map cI)]) (fun u21 hg => ?_) ?_
      · clear h
        have h := ks8
        clear ks8
        refine T.region ?_
        obtain ⟨g22, h⟩ := gdW h
        refine oN (EvN.add rfl rfl g22) ?_
        refine oN (EvN.mv (I (s4.2 + (1 : Int))) rfl) ?_
        refine TO.nil ?_
        obtain rfl := Option.some.inj h
        exact ⟨(s8, (s4.2 + (1 : Int))), u21, rfl, trivial, cutW rfl (weak_cons rfl (weak_cons rfl (weak_cons rfl (weak_cons rfl (weak_cons rfl weak_nil)))))⟩
      · clear ks8
        refine T.block ?_
        refine T.seq ?_
        refine T.region ?_
        refine oN (EvN.mv (I s4.2) rfl) ?_
        refine oN (EvN.asg (I s4.2) rfl) ?_
        refine TO.nil ?_
        refine T.seq ?_
        refine T.region ?_
        refine oN (EvN.mv (I n) rfl) ?_
        refine oN (EvN.mv (I (0 : Int)) rfl) ?_
        refine TO.nil ?_
        refine T.block ?_
        refine T.loop (S := (List Int) × Int) (G := Nat) (F_impl_pairsOf__impl_conflictRel_1_L11 n is0 is1 s4) (fun s10 gh => True) (fun s10 gh => [(15, I s10.2), (14, I n), (6, I s4.2), (11, I s4.2), (10, I n), (5, hS false 0 gh 1 s10.1.length), (0, I n), (1, .fn (.func 197) [.fp ((cL Ximpl_Event.c) is0) 0, .fp ((cL (cL Ximpl_Instr.c)) is1) 0])]) (fun s10 gh => [bE false gh 1 3 (s10.1.map cI)]) (s0 := (s4.1, (0 : Int))) u6 h trivial (cutW rfl (weak_cons rfl (weak_cons rfl (weak_cons rfl (weak_cons rfl (weak_cons rfl (weak_cons rfl (weak_cons rfl (weak_cons rfl weak_nil))))))))) (fun s10 u12 ws10 h hg => ?_)
        refine T.seq ?_
        refine T.region ?_
        refine oN (EvN.ilt rfl rfl) ?_
        refine TO.nil ?_
        refine T.seq ?_
        refine T.cond rfl (fun q13 => ?_) (fun q13 => ?_)
        · replace h := condT q13 h
          refine T.skip ?_
          obtain ⟨s14, h, ks14⟩ := bindL h
          refine T.joinF (G := Nat) (fun gh => True) (fun gh => [(15, I s10.2), (14, I n), (6, I s4.2), (11, I s4.2), (10, I n), (5, hS false 0 gh 1 s14.length), (0, I n), (1, .fn (.func 197) [.fp ((cL Ximpl_Event.c) is0) 0, .fp ((cL (cL Ximpl_Instr.c)) is1) 0])]) (fun gh => [bE false gh 1 3 (s14.map cI)]) (fun u19 hg => ?_) ?_
          · clear h
            have h := ks14
            clear ks14
            refine T.region ?_
            obtain ⟨g20, h⟩ := gdW h
            refine oN (EvN.add rfl rfl g20) ?_
            refine oN (EvN.mv (I (s10.2 + (1 : Int))) rfl) ?_
            refine TO.nil ?_
            obtain rfl := Option.some.inj h
            exact ⟨(s14, (s10.2 + (1 : Int))), u19, rfl, trivial, cutW rfl (weak_cons rfl (weak_cons rfl (weak_cons rfl (weak_cons rfl (weak_cons rfl (weak_cons rfl (weak_cons rfl (weak_cons rfl weak_nil))))))))⟩
          · clear ks14
            refine T.block ?_
            refine T.seq ?_
            refine T.region ?_
            refine oN (EvN.mv (I s10.2) rfl) ?_
            refine oN (EvN.asg (I s10.2) rfl) ?_
            refine TO.nil ?_
            refine T.seq ?_
            refine T.region ?_
            refine oN (EvN.mv (.fn (.func 197) [.fp ((cL Ximpl_Event.c) is0) 0, .fp ((cL (cL Ximpl_Instr.c)) is1) 0]) rfl) ?_
            refine oN (EvN.mv (I s4.2) rfl) ?_
            refine oN (EvN.mv (I s10.2) rfl) ?_
            obtain ⟨v15, cv15, h⟩ := bindL h
            refine oN (EvN.call rfl rfl rfl (F_impl_conflictRel_1_P s4.2 s10.2 is0 is1 cv15) rfl) ?_
            refine TO.nil ?_
            refine T.cond rfl (fun q16 => ?_) (fun q16 => ?_)
            · replace h := condT q16 h
              refine T.clean (H0 := [bE false u12 1 3 (s10.1.map cI)]) (e0 := envOf [(7, I s10.2), (15, I s10.2), (14, I n), (6, I s4.2), (11, I s4.2), (10, I n), (5, hS false 0 u12 1 s10.1.length), (0, I n), (1, .fn (.func 197) [.fp ((cL Ximpl_Event.c) is0) 0, .fp ((cL (cL Ximpl_Instr.c)) is1) 0])]) rfl (weak_cons rfl (weak_cons rfl (weak_cons rfl (weak_cons rfl (weak_cons rfl (weak_cons rfl (weak_cons rfl (weak_cons rfl (weak_cons rfl weak_nil))))))))) ?_
              refine T.drawF (fun i => [([], false), ([], false), ([], false), ([0], false), ([], false), ([], false), ([], false), ([], false), ([0], true)].getD i ([], false)) (by kernel_rfl) (by kernel_rfl) ?_
              refine fN rfl (EvN.mv (hS false 0 u12 1 s10.1.length) rfl) ?_
              refine fN rfl (EvN.mv (I s4.2) rfl) ?_
              obtain ⟨g17, h⟩ := gdD h
              refine fN rfl (EvN.ixO (g := false) sl37 rfl rfl nofun g17) ?_
              refine fR [0] rfl (fun G hG => EvA.ldO (g := false) (l := s10.1) (I (s10.1.getD s4.2.toNat default)) ty3 rfl (hG.a0 rfl) nofun (toNat_lt' rfl g17) rfl) ?_
              refine fN rfl (EvN.mv (I s10.2) rfl) ?_
              obtain ⟨g18, h⟩ := gdD h
              refine fN rfl (EvN.shl rfl rfl g18) ?_
              refine fN rfl (EvN.bor rfl rfl) ?_
              refine fN rfl (EvN.ixO (g := false) sl37 rfl rfl nofun g17) ?_
              refine fV 0 [] rfl rfl (fun G hG => EvA.stO (g := false) (l := s10.1) (cs := [I (bOr .i64 (s10.1.getD s4.2.toNat default) (bShl .i64 (1 : Int) s10.2))]) (bOr .i64 (s10.1.getD s4.2.toNat default) (bShl .i64 (1 : Int) s10.2)) ty3 rfl rfl (hG.a0 rfl) nofun (toNat_lt' rfl g17) rfl rfl rfl) ?_
              refine TF.nil ?_
              obtain rfl := Option.some.inj h
              exact ⟨u12, trivial, cutW rfl (weak_cons rfl (weak_cons rfl (weak_cons rfl (weak_cons rfl (weak_cons rfl (weak_cons (congrArg (hS false 0 u12 1) (by simp : s10.1.length = (s10.1.set s4.2.toNat (bOr .i64 (s10.1.getD s4.2.toNat default) (bShl .i64 (1 : Int) s10.2))).length)) (weak_cons rfl (weak_cons rfl weak_nil))))))))⟩
            · replace h := condF q16 h
              refine T.skip ?_
              obtain rfl := Option.some.inj h
              exact ⟨u12, trivial, cutW rfl (weak_cons rfl (weak_cons rfl (weak_cons rfl (weak_cons rfl (weak_cons rfl (weak_cons rfl (weak_cons rfl (weak_cons rfl weak_nil))))))))⟩
        · replace h := condF q13 h
          refine T.exit ?_
          refine ⟨_, (Option.some.inj h).symm, fun h => ?_⟩
          replace h := congrArg some h
          obtain rfl := Option.some.inj h
          exact ⟨u12, trivial, cutW rfl (weak_cons rfl (weak_cons rfl (weak_cons rfl (weak_cons rfl (weak_cons rfl weak_nil)))))⟩
    · replace h := condF q7 h
      refine T.exit ?_
      refine ⟨_, (Option.some.inj h).symm, fun h => ?_⟩
      replace h := congrArg some h
      obtain rfl := Option.some.inj h
      exact ⟨u6, trivial, cutW rfl (weak_cons rfl weak_nil)⟩

theorem F_impl_conflictRel_P (p : List (List Ximpl_Instr)) {q : (List Int)} (h : F_impl_conflictRel p = some q) : PCall Try.prog 145 [eL (cL Ximpl_Instr.c) p] (eL cI q) := by
  refine PCall.mkT Try.func145 rfl (by kernel_rfl) rfl (by kernel_rfl) (e0 := envOf [(0, eL (cL Ximpl_Instr.c) p)]) (weak_cons rfl weak_nil) ?_
  refine T.seq ?_
  refine T.region ?_
  refine oN (EvN.bxF [eL (cL Ximpl_Instr.c) p] rfl rfl rfl) ?_
  refine oN (EvN.asg (.nil) rfl) ?_
  refine TO.nil ?_
  refine T.seq ?_
  refine T.region ?_
  refine oN (EvN.loadfp (eL (cL Ximpl_Instr.c) p) ty23 rfl rfl) ?_
  obtain ⟨v1, cv1, h⟩ := bindL h
  refine oN (EvN.call rfl rfl rfl (F_impl_events_P p cv1) rfl) ?_
  refine oA (EvA.al zs144 rfl rfl) ?_
  refine oV (EvA.st (cs := [eL Ximpl_Event.c v1]) ⟨0, 1, 144, [[eL Ximpl_Event.c v1]]⟩ ty144 rfl rfl rfl rfl rfl rfl rfl rfl rfl) ?_
  refine TO.nil ?_
  refine T.seq ?_
  refine T.region ?_
  refine oA (EvA.loadhp (eL Ximpl_Event.c v1) ty144 rfl rfl rfl rfl rfl rfl) ?_
  refine oN (EvN.lenL sl144 rfl) ?_
  refine TO.cut (e0 := envOf [(7, I (v1.length : Int)), (3, .fp ((cL Ximpl_Event.c) v1) 0), (1, .fp ((cL (cL Ximpl_Instr.c)) p) 0)]) (H0 := []) (cutS rfl .nil (stl_cons (.fz (.of_isF 9 _ rfl)) (stl_cons (.fz (Fz.fpL (ver := 0) (s := 1) (ty := 144) (rows := [[eL Ximpl_Event.c v1]]) rfl rfl rfl (.cons (.of_isF 9 _ rfl) .nil))) (stl_cons (.fz (.of_isF 9 _ rfl)) stl_nil)))) ?_
  refine oN (EvN.mkfn [.fp ((cL Ximpl_Event.c) v1) 0, .fp ((cL (cL Ximpl_Instr.c)) p) 0] rfl rfl) ?_
  obtain ⟨v2, cv2, h⟩ := bindL h
  refine oN (EvN.call rfl rfl rfl (F_impl_pairsOf__impl_conflictRel_1_P (v1.length : Int) v1 p cv2) rfl) ?_
  refine oN (EvN.asg (eL cI v2) rfl) ?_
  refine TO.nil ?_
  refine T.ret ?_
  obtain rfl := Option.some.inj h
  repeat first | refine retS ?_ | refine retB ?_
  exact Fin.ret (vs := [eL cI v2]) (.cons (.tmp rfl) .nil) (.of_isF 9 _ rfl)

theorem F_impl_RelValid_1_P (x : Int) (a1 : List Int) {q : Bool} (h : F_impl_RelValid_1 x a1 = some q) : PCall Try.prog 139 [I x, .fp ((cL cI) a1) 0] (Bo q) := by
  refine PCall.mkT Try.func139 rfl (by kernel_rfl) rfl (by kernel_rfl) (e0 := envOf [(0, I x), (1, .fp ((cL cI) a1) 0)]) (weak_cons rfl (weak_cons rfl weak_nil)) ?_
  refine T.seq ?_
  refine T.region ?_
  refine oN (EvN.asg (Bo false) rfl) ?_
  refine TO.nil ?_
  refine T.seq ?_
  refine T.region ?_
  refine oN (EvN.mv (I x) rfl) ?_
  refine oN (EvN.ilt rfl rfl) ?_
  refine oN (EvN.mv (Bo (decide (x < (0 : Int)))) rfl) ?_
  obtain ⟨s1, h, ks1⟩ := bindL h
  refine TO.joinF (G := Unit) 6 (fun _ => True) (fun _ => [(12, Bo s1)]) (fun _ => []) ?_ (fun js1 => ?_)
  rotate_left
  · clear ks1
    rcases bifL h with ⟨q2, h⟩ | ⟨q2, h⟩
    · refine gS rfl q2 ?_
      refine gS rfl q2 ?_
      refine gS rfl q2 ?_
      refine gS rfl q2 ?_
      refine gS rfl q2 ?_
      refine oN (EvN.pickT rfl q2 (Bo true) rfl) ?_
      obtain rfl := Option.some.inj h
      exact js1 _ _ ⟨(), trivial, cutW rfl (weak_cons rfl weak_nil)⟩
    · refine gN rfl q2 (EvN.mv (I x) rfl) ?_
      refine gN rfl q2 (EvN.loadfp (eL cI a1) ty37 rfl rfl) ?_
      refine gN rfl q2 (EvN.lenL sl37 rfl) ?_
      obtain ⟨g3, h⟩ := gdD h
      refine gN rfl q2 (EvN.shr rfl rfl g3) ?_
      refine gN rfl q2 (EvN.igt rfl rfl) ?_
      refine oN (EvN.pickF rfl q2 (Bo (decide ((0 : Int) < (bShr .i64 x (a1.length : Int))))) rfl) ?_
      obtain rfl := Option.some.inj h
      exact js1 _ _ ⟨(), trivial, cutW rfl (weak_cons rfl weak_nil)⟩
  · intro _ _
    replace h := ks1
    clear ks1
    refine oN (EvN.asg (Bo s1) rfl) ?_
    refine TO.nil ?_
    refine T.ret ?_
    obtain rfl := Option.some.inj h
    repeat first | refine retS ?_ | refine retB ?_
    exact Fin.ret (vs := [Bo s1]) (.cons (.tmp rfl) .nil) (.of_isF 9 _ rfl)

theorem F_slices_IndexFunc_int_int__impl_RelValid_1_P (s : List Int) (f0 : List Int) {q : Int} (h : F_slices_IndexFunc_int_int__impl_RelValid_1 s f0 = some q) : PCall Try.prog 193 [eL cI s, .fn (.func 139) [.fp ((cL cI) f0) 0]] (I q) := by
  refine PCall.mkT Try.func193 rfl (by kernel_rfl) rfl (by kernel_rfl) (e0 := envOf [(0, eL cI s), (1, .fn (.func 139) [.fp ((cL cI) f0) 0])]) (weak_cons rfl (weak_cons rfl weak_nil)) ?_
  refine T.seq ?_
  refine T.region ?_
  refine oN (EvN.asg (I (0 : Int)) rfl) ?_
  refine TO.nil ?_
  obtain ⟨Ks1, es1, ws1, h, ks1⟩ := sumL h
  refine T.join (S := Unit) (G := Unit) (fun s1 => Ks1 s1 = some q) (fun s1 gh => True) (fun s1 gh => []) (fun s1 gh => []) (fun s1 gh h hg => ?_) ?_
  · clear ks1
    subst es1
    refine T.seq ?_
    refine T.region ?_
    refine oN (EvN.asg (I (-1 : Int)) rfl) ?_
    refine TO.nil ?_
    refine T.ret ?_
    obtain rfl := Option.some.inj h
    repeat first | refine retS ?_ | refine retB ?_
    exact Fin.ret (vs := [I (-1 : Int)]) (.cons (.tmp rfl) .nil) (.of_isF 9 _ rfl)
  · refine T.seq ?_
    refine T.region ?_
    refine oN (EvN.mv (eL cI s) rfl) ?_
    refine oN (EvN.lenL sl37 rfl) ?_
    refine oN (EvN.mv (I (0 : Int)) rfl) ?_
    refine TO.nil ?_
    refine T.block ?_
    refine T.loop (S := Int) (G := Unit) (F_slices_IndexFunc_int_int__impl_RelValid_1_L3 s f0) (fun s2 gh => True) (fun s2 gh => [(8, I s2), (7, I (s.length : Int)), (0, eL cI s), (1, .fn (.func 139) [.fp ((cL cI) f0) 0])]) (fun s2 gh => []) (s0 := (0 : Int)) () h trivial (cutW rfl (weak_cons rfl (weak_cons rfl (weak_cons rfl (weak_cons rfl weak_nil))))) (fun s2 gh ws2 h hg => ?_)
    refine T.seq ?_
    refine T.region ?_
    refine oN (EvN.ilt rfl rfl) ?_
    refine TO.nil ?_
    refine T.seq ?_
    refine T.cond rfl (fun q4 => ?_) (fun q4 => ?_)
    · replace h := condT q4 h
      refine T.skip ?_
      refine T.seq ?_
      refine T.block ?_
      refine T.seq ?_
      refine T.region ?_
      refine oN (EvN.mv (I s2) rfl) ?_
      refine oN (EvN.asg (I s2) rfl) ?_
      refine TO.nil ?_
      refine T.seq ?_
      refine T.region ?_
      refine oN (EvN.mv (.fn (.func 139) [.fp ((cL cI) f0) 0]) rfl) ?_
      refine oN (EvN.mv (eL cI s) rfl) ?_
      refine oN (EvN.mv (I s2) rfl) ?_
      obtain ⟨g5, h⟩ := gdD h
      refine oN (EvN.ixL sl37 rfl rfl g5 (fun _ => rfl)) ?_
      refine oN (EvN.loadfp (I (s.getD s2.toNat default)) ty3 rfl rfl) ?_
      obtain ⟨v6, cv6, h⟩ := bindL h
      refine oN (EvN.call rfl rfl rfl (F_impl_RelValid_1_P (s.getD s2.toNat default) f0 cv6) rfl) ?_
      refine TO.nil ?_
      refine T.cond rfl (fun q7 => ?_) (fun q7 => ?_)
      · replace h := condT q7 h
        refine T.seq ?_
        refine T.clean (H0 := []) (e0 := envOf [(5, I s2)]) rfl (weak_cons rfl weak_nil) ?_
        refine T.region ?_
        refine oN (EvN.mv (I s2) rfl) ?_
        refine oN (EvN.asg (I s2) rfl) ?_
        refine TO.nil ?_
        refine T.ret ?_
        refine ⟨_, (Option.some.inj h).symm, fun h => ?_⟩
        replace h := congrArg some h
        obtain rfl := Option.some.inj h
        replace h := congrArg some (show _ = _ from ks1)
        obtain rfl := Option.some.inj h
        repeat first | refine retS ?_ | refine retB ?_
        exact Fin.ret (vs := [I s2]) (.cons (.tmp rfl) .nil) (.of_isF 9 _ rfl)
      · replace h := condF q7 h
        refine T.skip ?_
        refine T.clean (H0 := []) (e0 := envOf [(8, I s2), (7, I (s.length : Int)), (0, eL cI s), (1, .fn (.func 139) [.fp ((cL cI) f0) 0])]) rfl (weak_cons rfl (weak_cons rfl (weak_cons rfl (weak_cons rfl weak_nil)))) ?_
        refine T.region ?_
        obtain ⟨g8, h⟩ := gdW h
        refine oN (EvN.add rfl rfl g8) ?_
        refine oN (EvN.mv (I (s2 + (1 : Int))) rfl) ?_
        refine TO.nil ?_
        obtain rfl := Option.some.inj h
        exact ⟨(s2 + (1 : Int)), (), rfl, trivial, cutW rfl (weak_cons rfl (weak_cons rfl (weak_cons rfl (weak_cons rfl weak_nil))))⟩
    · replace h := condF q4 h
      refine T.exit ?_
      refine ⟨_, (Option.some.inj h).symm, fun h => ?_⟩
      replace h := congrArg some h
      obtain rfl := Option.some.inj h
      exact ⟨(), (), ks1, trivial, cutW rfl weak_nil⟩

theorem F_slices_ContainsFunc_int_int__impl_RelValid_1_P (s : List Int) (f0 : List Int) {q : Bool} (h : F_slices_ContainsFunc_int_int__impl_RelValid_1 s f0 = some q) : PCall Try.prog 133 [eL cI s, .fn (.func 139) [.fp ((cL cI) f0) 0]] (Bo q) := by
  refine PCall.mkT Try.func133 rfl (by kernel_rfl) rfl (by kernel_rfl) (e0 := envOf [(0, eL cI s), (1, .fn (.func 139) [.fp ((cL cI) f0) 0])]) (weak_cons rfl (weak_cons rfl weak_nil)) ?_
  refine T.seq ?_
  refine T.region ?_
  refine oN (EvN.asg (Bo false) rfl) ?_
  refine TO.nil ?_
  refine T.seq ?_
  refine T.region ?_
  refine oN (EvN.mv (eL cI s) rfl) ?_
  refine oN (EvN.mv (.fn (.func 139) [.fp ((cL cI) f0) 0]) rfl) ?_
  obtain ⟨v1, cv1, h⟩ := bindL h
  refine oN (EvN.call rfl rfl rfl (F_slices_IndexFunc_int_int__impl_RelValid_1_P s f0 cv1) rfl) ?_
  refine oN (EvN.ige rfl rfl) ?_
  refine oN (EvN.asg (Bo (decide ((0 : Int) ≤ v1))) rfl) ?_
  refine TO.nil ?_
  refine T.ret ?_
  obtain rfl := Option.some.inj h
  repeat first | refine retS ?_ | refine retB ?_
  exact Fin.ret (vs := [Bo (decide ((0 : Int) ≤ v1))]) (.cons (.tmp rfl) .nil) (.of_isF 9 _ rfl)

theorem F_impl_RelValid_P (r_ : List Int) {q : Bool} (h : F_impl_RelValid r_ = some q) : PCall Try.prog 96 [eL cI r_] (Bo q) := by
  refine PCall.mkT Try.func96 rfl (by kernel_rfl) rfl (by kernel_rfl) (e0 := envOf [(0, eL cI r_)]) (weak_cons rfl weak_nil) ?_
  refine T.seq ?_
  refine T.region ?_
  refine oN (EvN.bxF [eL cI r_] rfl rfl rfl) ?_
  refine oN (EvN.asg (Bo false) rfl) ?_
  refine TO.nil ?_
  refine T.seq ?_
  refine T.region ?_
  refine oN (EvN.loadfp (eL cI r_) ty37 rfl rfl) ?_
  refine oN (EvN.lenL sl37 rfl) ?_
  refine oN (EvN.ile rfl rfl) ?_
  refine oN (EvN.mv (Bo (decide ((r_.length : Int) ≤ (16 : Int)))) rfl) ?_
  obtain ⟨s1, h, ks1⟩ := bindL h
  refine TO.joinF (G := Unit) 5 (fun _ => True) (fun _ => [(11, Bo s1)]) (fun _ => []) ?_ (fun js1 => ?_)
  rotate_left
  · clear ks1
    rcases bifL h with ⟨q2, h⟩ | ⟨q2, h⟩
    · refine gN rfl q2 (EvN.loadfp (eL cI r_) ty37 rfl rfl) ?_
      refine gN rfl q2 (EvN.mkfn [.fp ((cL cI) r_) 0] rfl rfl) ?_
      obtain ⟨v3, cv3, h⟩ := bindL h
      refine gN rfl q2 (EvN.call rfl rfl rfl (F_slices_ContainsFunc_int_int__impl_RelValid_1_P r_ r_ cv3) rfl) ?_
      refine gN rfl q2 (EvN.not rfl) ?_
      refine oN (EvN.pickT rfl q2 (Bo (!v3)) rfl) ?_
      obtain rfl := Option.some.inj h
      exact js1 _ _ ⟨(), trivial, cutW rfl (weak_cons rfl weak_nil)⟩
    · refine gS rfl q2 ?_
      refine gS rfl q2 ?_
      refine gS rfl q2 ?_
      refine gS rfl q2 ?_
      refine oN (EvN.pickF rfl q2 (Bo false) rfl) ?_
      obtain rfl := Option.some.inj h
      exact js1 _ _ ⟨(), trivial, cutW rfl (weak_cons rfl weak_nil)⟩
  · intro _ _
    replace h := ks1
    clear ks1
    refine oN (EvN.asg (Bo s1) rfl) ?_
    refine TO.nil ?_
    refine T.ret ?_
    obtain rfl := Option.some.inj h
    repeat first | refine retS ?_ | refine retB ?_
    exact Fin.ret (vs := [Bo s1]) (.cons (.tmp rfl) .nil) (.of_isF 9 _ rfl)

theorem F_impl_areRels_P (a : List Int) (b : List Int) {q : Bool} (h : F_impl_areRels a b = some q) : PCall Try.prog 198 [eL cI a, eL cI b] (Bo q) := by
  refine PCall.mkT Try.func198 rfl (by kernel_rfl) rfl (by kernel_rfl) (e0 := envOf [(0, eL cI a), (1, eL cI b)]) (weak_cons rfl (weak_cons rfl weak_nil)) ?_
  refine T.seq ?_
  refine T.region ?_
  refine oN (EvN.asg (Bo false) rfl) ?_
  refine TO.nil ?_
  refine T.seq ?_
  refine T.region ?_
  refine oN (EvN.mv (eL cI a) rfl) ?_
  refine oN (EvN.lenL sl37 rfl) ?_
  refine oN (EvN.mv (eL cI b) rfl) ?_
  refine oN (EvN.lenL sl37 rfl) ?_
  refine oN (EvN.ieq rfl rfl) ?_
  refine oN (EvN.mv (Bo ((a.length : Int) == (b.length : Int))) rfl) ?_
  obtain ⟨s1, h, ks1⟩ := bindL h
  refine TO.joinF (G := Unit) 3 (fun _ => True) (fun _ => [(13, Bo s1), (1, eL cI b)]) (fun _ => []) ?_ (fun js1 => ?_)
  rotate_left
  · clear ks1
    rcases bifL h with ⟨q2, h⟩ | ⟨q2, h⟩
    · refine gN rfl q2 (EvN.mv (eL cI a) rfl) ?_
      obtain ⟨v3, cv3, h⟩ := bindL h
      refine gN rfl q2 (EvN.call rfl rfl rfl (F_impl_RelValid_P a cv3) rfl) ?_
      refine oN (EvN.pickT rfl q2 (Bo v3) rfl) ?_
      obtain rfl := Option.some.inj h
      exact js1 _ _ ⟨(), trivial, cutW rfl (weak_cons rfl (weak_cons rfl weak_nil))⟩
    · refine gS rfl q2 ?_
      refine gS rfl q2 ?_
      refine oN (EvN.pickF rfl q2 (Bo false) rfl) ?_
      obtain rfl := Option.some.inj h
      exact js1 _ _ ⟨(), trivial, cutW rfl (weak_cons rfl (weak_cons rfl weak_nil))⟩
  · intro _ _
    replace h := ks1
    clear ks1
    refine oN (EvN.mv (Bo s1) rfl) ?_
    obtain ⟨s4, h, ks4⟩ := bindL h
    refine TO.joinF (G := Unit) 3 (fun _ => True) (fun _ => [(17, Bo s4)]) (fun _ => []) ?_ (fun js4 => ?_)
    rotate_left
    · clear ks4
      rcases bifL h with ⟨q5, h⟩ | ⟨q5, h⟩
      · refine gN rfl q5 (EvN.mv (eL cI b) rfl) ?_
        obtain ⟨v6, cv6, h⟩ := bindL h
        refine gN rfl q5 (EvN.call rfl rfl rfl (F_impl_RelValid_P b cv6) rfl) ?_
        refine oN (EvN.pickT rfl q5 (Bo v6) rfl) ?_
        obtain rfl := Option.some.inj h
        exact js4 _ _ ⟨(), trivial, cutW rfl (weak_cons rfl weak_nil)⟩
      · refine gS rfl q5 ?_
        refine gS rfl q5 ?_
        refine oN (EvN.pickF rfl q5 (Bo false) rfl) ?_
        obtain rfl := Option.some.inj h
        exact js4 _ _ ⟨(), trivial, cutW rfl (weak_cons rfl weak_nil)⟩
    · intro _ _
      replace h := ks4
      clear ks4
      refine oN (EvN.asg (Bo s4) rfl) ?_
      refine TO.nil ?_
      refine T.ret ?_
      obtain rfl := Option.some.inj h
      repeat first | refine retS ?_ | refine retB ?_
      exact Fin.ret (vs := [Bo s4]) (.cons (.tmp rfl) .nil) (.of_isF 9 _ rfl)

theorem F_impl_related_P (r_ : List Int) (i : Int) (k_ : Int) {q : Bool} (h : F_impl_related r_ i k_ = some q) : PCall Try.prog 199 [eL cI r_, I i, I k_] (Bo q) := by
  refine PCall.mkT Try.func199 rfl (by kernel_rfl) rfl (by kernel_rfl) (e0 := envOf [(0, eL cI r_), (1, I i), (2, I k_)]) (weak_cons rfl (weak_cons rfl (weak_cons rfl weak_nil))) ?_
  refine T.seq ?_
  refine T.region ?_
  refine oN (EvN.asg (Bo false) rfl) ?_
  refine TO.nil ?_
  refine T.seq ?_
  refine T.region ?_
  refine oN (EvN.mv (eL cI r_) rfl) ?_
  refine oN (EvN.mv (I i) rfl) ?_
  obtain ⟨g1, h⟩ := gdD h
  refine oN (EvN.ixL sl37 rfl rfl g1 (fun _ => rfl)) ?_
  refine oN (EvN.loadfp (I (r_.getD i.toNat default)) ty3 rfl rfl) ?_
  refine oN (EvN.mv (I k_) rfl) ?_
  obtain ⟨g2, h⟩ := gdD h
  refine oN (EvN.shr rfl rfl g2) ?_
  refine oN (EvN.band rfl rfl) ?_
  refine oN (EvN.ieq rfl rfl) ?_
  refine oN (EvN.asg (Bo ((bAnd .i64 (bShr .i64 (r_.getD i.toNat default) k_) (1 : Int)) == (1 : Int))) rfl) ?_
  refine TO.nil ?_
  refine T.ret ?_
  obtain rfl := Option.some.inj h
  repeat first | refine retS ?_ | refine retB ?_
  exact Fin.ret (vs := [Bo ((bAnd .i64 (bShr .i64 (r_.getD i.toNat default) k_) (1 : Int)) == (1 : Int))]) (.cons (.tmp rfl) .nil) (.of_isF 9 _ rfl)

theorem F_impl_ComposeRel_P (a : List Int) (b : List Int) {q : (List Int)} (h : F_impl_ComposeRel a b = some q) : PCall Try.prog 146 [eL cI a, eL cI b] (eL cI q) := by
  refine PCall.mkT Try.func146 rfl (by kernel_rfl) rfl (by kernel_rfl) (e0 := envOf [(0, eL cI a), (1, eL cI b)]) (weak_cons rfl (weak_cons rfl weak_nil)) ?_
  refine T.seq ?_
  refine T.region ?_
  refine oN (EvN.asg (.nil) rfl) ?_
  refine TO.nil ?_
  refine T.seq ?_
  refine T.seq ?_
  refine T.region ?_
  refine oN (EvN.mv (eL cI a) rfl) ?_
  refine oN (EvN.mv (eL cI b) rfl) ?_
  obtain ⟨v1, cv1, h⟩ := bindL h
  refine oN (EvN.call rfl rfl rfl (F_impl_areRels_P a b cv1) rfl) ?_
  refine oN (EvN.not rfl) ?_
  refine TO.nil ?_
  refine T.cond rfl (fun q2 => ?_) (fun q2 => ?_)
  · replace h := condT q2 h
    refine T.seq ?_
    refine T.clean (H0 := []) (e0 := envOf []) rfl weak_nil ?_
    refine T.region ?_
    refine oN (EvN.asg (.nil) rfl) ?_
    refine TO.nil ?_
    refine T.ret ?_
    obtain rfl := Option.some.inj h
    repeat first | refine retS ?_ | refine retB ?_
    exact Fin.ret (vs := [.nil]) (.cons (.tmp rfl) .nil) .nil0
  · replace h := condF q2 h
    refine T.skip ?_
    refine T.seq ?_
    refine T.region ?_
    refine oN (EvN.mv (eL cI a) rfl) ?_
    refine oN (EvN.lenL sl37 rfl) ?_
    obtain ⟨g3, h⟩ := gdD h
    refine oA (EvA.mkN (c := cI) (default : Int) sl37 rfl rfl g3 rfl rfl rfl) ?_
    refine oN (EvN.asg (hS false 0 0 1 ((List.replicate (a.length : Int).toNat (default : Int)).length)) rfl) ?_
    refine TO.nil ?_
    obtain ⟨s4, h, ks4⟩ := bindL h
    refine T.joinF (G := Nat) (fun gh => True) (fun gh => [(5, hS false 0 gh 1 s4.length)]) (fun gh => [bE false gh 1 3 (s4.map cI)]) (fun u25 hg => ?_) ?_
    · clear h
      have h := ks4
      clear ks4
      refine T.seq ?_
      refine T.region ?_
      refine oN (EvN.mv (hS false 0 u25 1 s4.length) rfl) ?_
      refine oN (EvN.asg (hS false 0 u25 1 s4.length) rfl) ?_
      refine TO.nil ?_
      refine T.ret ?_
      obtain rfl := Option.some.inj h
      repeat first | refine retS ?_ | refine retB ?_
      exact Fin.ret (vs := [hS false 0 u25 1 s4.length]) (.cons (.tmp rfl) .nil) (Fz.own (g := false) (ver := u25) (l := s4) rfl rfl rfl nofun (fun _ => rfl))
    · clear ks4
      refine T.seq ?_
      refine T.clean (H0 := [bE false 0 1 3 ((List.replicate (a.length : Int).toNat (default : Int)).map cI)]) (e0 := envOf [(5, hS false 0 0 1 ((List.replicate (a.length : Int).toNat (default : Int)).length)), (0, eL cI a), (1, eL cI b)]) rfl (weak_cons rfl (weak_cons rfl (weak_cons rfl weak_nil))) ?_
      refine T.region ?_
      refine oN (EvN.mv (eL cI a) rfl) ?_
      refine oN (EvN.lenL sl37 rfl) ?_
      refine oN (EvN.mv (I (0 : Int)) rfl) ?_
      refine TO.nil ?_
      refine T.block ?_
      refine T.loop (S := (List Int) × Int) (G := Nat) (F_impl_ComposeRel_L7 a b) (fun s6 gh => True) (fun s6 gh => [(17, I s6.2), (16, I (a.length : Int)), (5, hS false 0 gh 1 s6.1.length), (0, eL cI a), (1, eL cI b)]) (fun s6 gh => [bE false gh 1 3 (s6.1.map cI)]) (s0 := ((List.replicate (a.length : Int).toNat (default : Int)), (0 : Int))) 0 h trivial (cutW rfl (weak_cons rfl (weak_cons rfl (weak_cons rfl (weak_cons rfl (weak_cons rfl weak_nil)))))) (fun s6 u8 ws6 h hg => ?_)
      refine T.seq ?_
      refine T.region ?_
      refine oN (EvN.ilt rfl rfl) ?_
      refine TO.nil ?_
      refine T.seq ?_
      refine T.cond rfl (fun q9 => ?_) (fun q9 => ?_)
      · replace h := condT q9 h
        refine T.skip ?_
        obtain ⟨s10, h, ks10⟩ := bindL h
        refine T.joinF (G := Nat) (fun gh => True) (fun gh => [(17, I s6.2), (16, I (a.length : Int)), (5, hS false 0 gh 1 s10.length), (0, eL cI a), (1, eL cI b)]) (fun gh => [bE false gh 1 3 (s10.map cI)]) (fun u23 hg => ?_) ?_
        · clear h
          have h := ks10
          clear ks10
          refine T.region ?_
          obtain ⟨g24, h⟩ := gdW h
          refine oN (EvN.add rfl rfl g24) ?_
          refine oN (EvN.mv (I (s6.2 + (1 : Int))) rfl) ?_
          refine TO.nil ?_
          obtain rfl := Option.some.inj h
          exact ⟨(s10, (s6.2 + (1 : Int))), u23, rfl, trivial, cutW rfl (weak_cons rfl (weak_cons rfl (weak_cons rfl (weak_cons rfl (weak_cons rfl weak_nil)))))⟩
        · clear ks10
          refine T.block ?_
          refine T.seq ?_
          refine T.region ?_
          refine oN (EvN.mv (I s6.2) rfl) ?_
          refine oN (EvN.asg (I s6.2) rfl) ?_
          refine TO.nil ?_
          refine T.seq ?_
          refine T.region ?_
          refine oN (EvN.mv (eL cI b) rfl) ?_
          refine oN (EvN.lenL sl37 rfl) ?_
          refine oN (EvN.mv (I (0 : Int)) rfl) ?_
          refine TO.nil ?_
          refine T.block ?_
          refine T.loop (S := (List Int) × Int) (G := Nat) (F_impl_ComposeRel_L13 a b s6) (fun s12 gh => True) (fun s12 gh => [(22, I s12.2), (21, I (b.length : Int)), (6, I s6.2), (17, I s6.2), (16, I (a.length : Int)), (5, hS false 0 gh 1 s12.1.length), (0, eL cI a), (1, eL cI b)]) (fun s12 gh => [bE false gh 1 3 (s12.1.map cI)]) (s0 := (s6.1, (0 : Int))) u8 h trivial (cutW rfl (weak_cons rfl (weak_cons rfl (weak_cons rfl (weak_cons rfl (weak_cons rfl (weak_cons rfl (weak_cons rfl (weak_cons rfl weak_nil))))))))) (fun s12 u14 ws12 h hg => ?_)
          refine T.seq ?_
          refine T.region ?_
          refine oN (EvN.ilt rfl rfl) ?_
          refine TO.nil ?_
          refine T.seq ?_
          refine T.cond rfl (fun q15 => ?_) (fun q15 => ?_)
          · replace h := condT q15 h
            refine T.skip ?_
            obtain ⟨s16, h, ks16⟩ := bindL h
            refine T.joinF (G := Nat) (fun gh => True) (fun gh => [(22, I s12.2), (21, I (b.length : Int)), (6, I s6.2), (17, I s6.2), (16, I (a.length : Int)), (5, hS false 0 gh 1 s16.length), (0, eL cI a), (1, eL cI b)]) (fun gh => [bE false gh 1 3 (s16.map cI)]) (fun u21 hg => ?_) ?_
            · clear h
              have h := ks16
              clear ks16
              refine T.region ?_
              obtain ⟨g22, h⟩ := gdW h
              refine oN (EvN.add rfl rfl g22) ?_
              refine oN (EvN.mv (I (s12.2 + (1 : Int))) rfl) ?_
              refine TO.nil ?_
              obtain rfl := Option.some.inj h
              exact ⟨(s16, (s12.2 + (1 : Int))), u21, rfl, trivial, cutW rfl (weak_cons rfl (weak_cons rfl (weak_cons rfl (weak_cons rfl (weak_cons rfl (weak_cons rfl (weak_cons rfl (weak_cons rfl weak_nil))))))))⟩
            · clear ks16
              refine T.block ?_
              refine T.seq ?_
              refine T.region ?_
              refine oN (EvN.mv (I s12.2) rfl) ?_
              refine oN (EvN.asg (I s12.2) rfl) ?_
              refine TO.nil ?_
              refine T.seq ?_
              refine T.region ?_
              refine oN (EvN.mv (eL cI a) rfl) ?_
              refine oN (EvN.mv (I s6.2) rfl) ?_
              refine oN (EvN.mv (I s12.2) rfl) ?_
              obtain ⟨v17, cv17, h⟩ := bindL h
              refine oN (EvN.call rfl rfl rfl (F_impl_related_P a s6.2 s12.2 cv17) rfl) ?_
              refine TO.nil ?_
              refine T.cond rfl (fun q18 => ?_) (fun q18 => ?_)
              · replace h := condT q18 h
                refine T.clean (H0 := [bE false u14 1 3 (s12.1.map cI)]) (e0 := envOf [(7, I s12.2), (22, I s12.2), (21, I (b.length : Int)), (6, I s6.2), (17, I s6.2), (16, I (a.length : Int)), (5, hS false 0 u14 1 s12.1.length), (0, eL cI a), (1, eL cI b)]) rfl (weak_cons rfl (weak_cons rfl (weak_cons rfl (weak_cons rfl (weak_cons rfl (weak_cons rfl (weak_cons rfl (weak_cons rfl (weak_cons rfl weak_nil))))))))) ?_
                refine T.drawF (fun i => [([], false), ([], false), ([], false), ([0], false), ([], false), ([], false), ([], false), ([], false), ([], false), ([], false), ([0], true)].getD i ([], false)) (by kernel_rfl) (by kernel_rfl) ?_
                refine fN rfl (EvN.mv (hS false 0 u14 1 s12.1.length) rfl) ?_
                refine fN rfl (EvN.mv (I s6.2) rfl) ?_
                obtain ⟨g19, h⟩ := gdD h
                refine fN rfl (EvN.ixO (g := false) sl37 rfl rfl nofun g19) ?_
                refine fR [0] rfl (fun G hG => EvA.ldO (g := false) (l := s12.1) (I (s12.1.getD s6.2.toNat default)) ty3 rfl (hG.a0 rfl) nofun (toNat_lt' rfl g19) rfl) ?_
                refine fN rfl (EvN.mv (eL cI b) rfl) ?_
                refine fN rfl (EvN.mv (I s12.2) rfl) ?_
                obtain ⟨g20, h⟩ := gdD h
                refine fN rfl (EvN.ixL sl37 rfl rfl g20 (fun _ => rfl)) ?_
                refine fN rfl (EvN.loadfp (I (b.getD s12.2.toNat default)) ty3 rfl rfl) ?_
                refine fN rfl (EvN.bor rfl rfl) ?_
                refine fN rfl (EvN.ixO (g := false) sl37 rfl rfl nofun g19) ?_
                refine fV 0 [] rfl rfl (fun G hG => EvA.stO (g := false) (l := s12.1) (cs := [I (bOr .i64 (s12.1.getD s6.2.toNat default) (b.getD s12.2.toNat default))]) (bOr .i64 (s12.1.getD s6.2.toNat default) (b.getD s12.2.toNat default)) ty3 rfl rfl (hG.a0 rfl) nofun (toNat_lt' rfl g19) rfl rfl rfl) ?_
                refine TF.nil ?_
                obtain rfl := Option.some.inj h
                exact ⟨u14, trivial, cutW rfl (weak_cons rfl (weak_cons rfl (weak_cons rfl (weak_cons rfl (weak_cons rfl (weak_cons (congrArg (hS false 0 u14 1) (by simp : s12.1.length = (s12.1.set s6.2.toNat (bOr .i64 (s12.1.getD s6.2.toNat default) (b.getD s12.2.toNat default))).length)) (weak_cons rfl (weak_cons rfl weak_nil))))))))⟩
              · replace h := condF q18 h
                refine T.skip ?_
                obtain rfl := Option.some.inj h
                exact ⟨u14, trivial, cutW rfl (weak_cons rfl (weak_cons rfl (weak_cons rfl (weak_cons rfl (weak_cons rfl (weak_cons rfl (weak_cons rfl (weak_cons rfl weak_nil))))))))⟩
          · replace h := condF q15 h
            refine T.exit ?_
            refine ⟨_, (Option.some.inj h).symm, fun h => ?_⟩
            replace h := congrArg some h
            obtain rfl := Option.some.inj h
            exact ⟨u14, trivial, cutW rfl (weak_cons rfl (weak_cons rfl (weak_cons rfl (weak_cons rfl (weak_cons rfl weak_nil)))))⟩
      · replace h := condF q9 h
        refine T.exit ?_
        refine ⟨_, (Option.some.inj h).symm, fun h => ?_⟩
        replace h := congrArg some h
        obtain rfl := Option.some.inj h
        exact ⟨u8, trivial, cutW rfl (weak_cons rfl weak_nil)⟩

theorem F_impl_UnionRel_1_P (x : Int) (y : Int) {q : Int} (h : F_impl_UnionRel_1 x y = some q) : PCall Try.prog 201 [I x, I y] (I q) := by
  refine PCall.mkT Try.func201 rfl (by kernel_rfl) rfl (by kernel_rfl) (e0 := envOf [(0, I x), (1, I y)]) (weak_cons rfl (weak_cons rfl weak_nil)) ?_
  refine T.seq ?_
  refine T.region ?_
  refine oN (EvN.asg (I (0 : Int)) rfl) ?_
  refine TO.nil ?_
  refine T.seq ?_
  refine T.region ?_
  refine oN (EvN.mv (I x) rfl) ?_
  refine oN (EvN.mv (I y) rfl) ?_
  refine oN (EvN.bor rfl rfl) ?_
  refine oN (EvN.asg (I (bOr .i64 x y)) rfl) ?_
  refine TO.nil ?_
  refine T.ret ?_
  obtain rfl := Option.some.inj h
  repeat first | refine retS ?_ | refine retB ?_
  exact Fin.ret (vs := [I (bOr .i64 x y)]) (.cons (.tmp rfl) .nil) (.of_isF 9 _ rfl)

theorem F_impl_combined__impl_UnionRel_1_P (a : List Int) (b : List Int) {q : (List Int)} (h : F_impl_combined__impl_UnionRel_1 a b = some q) : PCall Try.prog 200 [eL cI a, eL cI b, .fn (.func 201) []] (eL cI q) := by
  refine PCall.mkT Try.func200 rfl (by kernel_rfl) rfl (by kernel_rfl) (e0 := envOf [(0, eL cI a), (1, eL cI b), (2, .fn (.func 201) [])]) (weak_cons rfl (weak_cons rfl (weak_cons rfl weak_nil))) ?_
  refine T.seq ?_
  refine T.region ?_
  refine oN (EvN.asg (.nil) rfl) ?_
  refine TO.nil ?_
  refine T.seq ?_
  refine T.seq ?_
  refine T.region ?_
  refine oN (EvN.mv (eL cI a) rfl) ?_
  refine oN (EvN.mv (eL cI b) rfl) ?_
  obtain ⟨v1, cv1, h⟩ := bindL h
  refine oN (EvN.call rfl rfl rfl (F_impl_areRels_P a b cv1) rfl) ?_
  refine oN (EvN.not rfl) ?_
  refine TO.nil ?_
  refine T.cond rfl (fun q2 => ?_) (fun q2 => ?_)
  · replace h := condT q2 h
    refine T.seq ?_
    refine T.clean (H0 := []) (e0 := envOf []) rfl weak_nil ?_
    refine T.region ?_
    refine oN (EvN.asg (.nil) rfl) ?_
    refine TO.nil ?_
    refine T.ret ?_
    obtain rfl := Option.some.inj h
    repeat first | refine retS ?_ | refine retB ?_
    exact Fin.ret (vs := [.nil]) (.cons (.tmp rfl) .nil) .nil0
  · replace h := condF q2 h
    refine T.skip ?_
    refine T.seq ?_
    refine T.region ?_
    refine oN (EvN.mv (eL cI a) rfl) ?_
    refine oN (EvN.lenL sl37 rfl) ?_
    obtain ⟨g3, h⟩ := gdD h
    refine oA (EvA.mkN (c := cI) (default : Int) sl37 rfl rfl g3 rfl rfl rfl) ?_
    refine oN (EvN.asg (hS false 0 0 1 ((List.replicate (a.length : Int).toNat (default : Int)).length)) rfl) ?_
    refine TO.nil ?_
    obtain ⟨s4, h, ks4⟩ := bindL h
    refine T.joinF (G := Nat) (fun gh => True) (fun gh => [(7, hS false 0 gh 1 s4.length)]) (fun gh => [bE false gh 1 3 (s4.map cI)]) (fun u15 hg => ?_) ?_
    · clear h
      have h := ks4
      clear ks4
      refine T.seq ?_
      refine T.region ?_
      refine oN (EvN.mv (hS false 0 u15 1 s4.length) rfl) ?_
      refine oN (EvN.asg (hS false 0 u15 1 s4.length) rfl) ?_
      refine TO.nil ?_
      refine T.ret ?_
      obtain rfl := Option.some.inj h
      repeat first | refine retS ?_ | refine retB ?_
      exact Fin.ret (vs := [hS false 0 u15 1 s4.length]) (.cons (.tmp rfl) .nil) (Fz.own (g := false) (ver := u15) (l := s4) rfl rfl rfl nofun (fun _ => rfl))
    · clear ks4
      refine T.seq ?_
      refine T.clean (H0 := [bE false 0 1 3 ((List.replicate (a.length : Int).toNat (default : Int)).map cI)]) (e0 := envOf [(7, hS false 0 0 1 ((List.replicate (a.length : Int).toNat (default : Int)).length)), (0, eL cI a), (1, eL cI b), (2, .fn (.func 201) [])]) rfl (weak_cons rfl (weak_cons rfl (weak_cons rfl (weak_cons rfl weak_nil)))) ?_
      refine T.region ?_
      refine oN (EvN.mv (eL cI a) rfl) ?_
      refine oN (EvN.lenL sl37 rfl) ?_
      refine oN (EvN.mv (I (0 : Int)) rfl) ?_
      refine TO.nil ?_
      refine T.block ?_
      refine T.loop (S := (List Int) × Int) (G := Nat) (F_impl_combined__impl_UnionRel_1_L7 a b) (fun s6 gh => True) (fun s6 gh => [(18, I s6.2), (17, I (a.length : Int)), (7, hS false 0 gh 1 s6.1.length), (0, eL cI a), (1, eL cI b), (2, .fn (.func 201) [])]) (fun s6 gh => [bE false gh 1 3 (s6.1.map cI)]) (s0 := ((List.replicate (a.length : Int).toNat (default : Int)), (0 : Int))) 0 h trivial (cutW rfl (weak_cons rfl (weak_cons rfl (weak_cons rfl (weak_cons rfl (weak_cons rfl (weak_cons rfl weak_nil))))))) (fun s6 u8 ws6 h hg => ?_)
      refine T.seq ?_
      refine T.region ?_
      refine oN (EvN.ilt rfl rfl) ?_
      refine TO.nil ?_
      refine T.seq ?_
      refine T.cond rfl (fun q9 => ?_) (fun q9 => ?_)
      · replace h := condT q9 h
        refine T.skip ?_
        refine T.seq ?_
        refine T.block ?_
        refine T.seq ?_
        refine T.region ?_
        refine oN (EvN.mv (I s6.2) rfl) ?_
        refine oN (EvN.asg (I s6.2) rfl) ?_
        refine TO.nil ?_
        refine T.drawF (fun i => [([], false), ([], false), ([], false), ([], false), ([], false), ([], false), ([], false), ([], false), ([], false), ([], false), ([], false), ([], false), ([], false), ([0], true)].getD i ([], false)) (by kernel_rfl) (by kernel_rfl) ?_
        refine fN rfl (EvN.mv (hS false 0 u8 1 s6.1.length) rfl) ?_
        refine fN rfl (EvN.mv (I s6.2) rfl) ?_
        refine fN rfl (EvN.mv (.fn (.func 201) []) rfl) ?_
        refine fN rfl (EvN.mv (eL cI a) rfl) ?_
        refine fN rfl (EvN.mv (I s6.2) rfl) ?_
        obtain ⟨g10, h⟩ := gdD h
        refine fN rfl (EvN.ixL sl37 rfl rfl g10 (fun _ => rfl)) ?_
        refine fN rfl (EvN.loadfp (I (a.getD s6.2.toNat default)) ty3 rfl rfl) ?_
        refine fN rfl (EvN.mv (eL cI b) rfl) ?_
        refine fN rfl (EvN.mv (I s6.2) rfl) ?_
        obtain ⟨g11, h⟩ := gdD h
        refine fN rfl (EvN.ixL sl37 rfl rfl g11 (fun _ => rfl)) ?_
        refine fN rfl (EvN.loadfp (I (b.getD s6.2.toNat default)) ty3 rfl rfl) ?_
        obtain ⟨v12, cv12, h⟩ := bindL h
        refine fN rfl (EvN.call rfl rfl rfl (F_impl_UnionRel_1_P (a.getD s6.2.toNat default) (b.getD s6.2.toNat default) cv12) rfl) ?_
        obtain ⟨g13, h⟩ := gdD h
        refine fN rfl (EvN.ixO (g := false) sl37 rfl rfl nofun g13) ?_
        refine fV 0 [] rfl rfl (fun G hG => EvA.stO (g := false) (l := s6.1) (cs := [I v12]) v12 ty3 rfl rfl (hG.a0 rfl) nofun (toNat_lt' rfl g13) rfl rfl rfl) ?_
        refine TF.nil ?_
        refine T.clean (H0 := [bE false u8 1 3 ((s6.1.set s6.2.toNat v12).map cI)]) (e0 := envOf [(18, I s6.2), (17, I (a.length : Int)), (7, hS false 0 u8 1 s6.1.length), (0, eL cI a), (1, eL cI b), (2, .fn (.func 201) [])]) rfl (weak_cons rfl (weak_cons rfl (weak_cons rfl (weak_cons rfl (weak_cons rfl (weak_cons rfl weak_nil)))))) ?_
        refine T.region ?_
        obtain ⟨g14, h⟩ := gdW h
        refine oN (EvN.add rfl rfl g14) ?_
        refine oN (EvN.mv (I (s6.2 + (1 : Int))) rfl) ?_
        refine TO.nil ?_
        obtain rfl := Option.some.inj h
        exact ⟨((s6.1.set s6.2.toNat v12), (s6.2 + (1 : Int))), u8, rfl, trivial, cutW rfl (weak_cons rfl (weak_cons rfl (weak_cons (congrArg (hS false 0 u8 1) (by simp : s6.1.length = (s6.1.set s6.2.toNat v12).length)) (weak_cons rfl (weak_cons rfl (weak_cons rfl weak_nil))))))⟩
      · replace h := condF q9 h
        refine T.exit ?_
        refine ⟨_, (Option.some.inj h).symm, fun h => ?_⟩
        replace h := congrArg some h
        obtain rfl := Option.some.inj h
        exact ⟨u8, trivial, cutW rfl (weak_cons rfl weak_nil)⟩

theorem F_impl_UnionRel_P (a : List Int) (b : List Int) {q : (List Int)} (h : F_impl_UnionRel a b = some q) : PCall Try.prog 147 [eL cI a, eL cI b] (eL cI q) := by
  refine PCall.mkT Try.func147 rfl (by kernel_rfl) rfl (by kernel_rfl) (e0 := envOf [(0, eL cI a), (1, eL cI b)]) (weak_cons rfl (weak_cons rfl weak_nil)) ?_
  refine T.seq ?_
  refine T.region ?_
  refine oN (EvN.asg (.nil) rfl) ?_
  refine TO.nil ?_
  refine T.seq ?_
  refine T.region ?_
  refine oN (EvN.mv (eL cI a) rfl) ?_
  refine oN (EvN.mv (eL cI b) rfl) ?_
  obtain ⟨v1, cv1, h⟩ := bindL h
  refine oN (EvN.call rfl rfl rfl (F_impl_combined__impl_UnionRel_1_P a b cv1) rfl) ?_
  refine oN (EvN.asg (eL cI v1) rfl) ?_
  refine TO.nil ?_
  refine T.ret ?_
  obtain rfl := Option.some.inj h
  repeat first | refine retS ?_ | refine retB ?_
  exact Fin.ret (vs := [eL cI v1]) (.cons (.tmp rfl) .nil) (.of_isF 9 _ rfl)

theorem F_slices_Clone_int_int_P (s : List Int) {q : (List Int)} (h : F_slices_Clone_int_int s = some q) : PCall Try.prog 87 [eL cI s] (eL cI q) := by
  refine PCall.mkT Try.func87 rfl (by kernel_rfl) rfl (by kernel_rfl) (e0 := envOf [(0, eL cI s)]) (weak_cons rfl weak_nil) ?_
  refine T.seq ?_
  refine T.region ?_
  refine oN (EvN.asg (.nil) rfl) ?_
  refine TO.nil ?_
  refine T.seq ?_
  refine T.seq ?_
  refine T.region ?_
  refine oN (EvN.mv (eL cI s) rfl) ?_
  refine oNil false Try.underlying37 rfl rfl (fun z1 => ?_) ?_
  · replace h := (nilK_is h).1 (by rw [z1]; rfl)
    refine TO.nil ?_
    refine T.cond rfl (fun _ => ?_) (fun q => absurd (q.symm.trans rfl) (by decide))
    refine T.seq ?_
    refine T.region ?_
    refine oN (EvN.asg (.nil) rfl) ?_
    refine TO.nil ?_
    refine T.ret ?_
    obtain rfl := Option.some.inj h
    repeat first | refine retS ?_ | refine retB ?_
    exact Fin.ret (vs := [.nil]) (.cons (.tmp rfl) .nil) .nil0
  · replace h := (nilK_is h).2
    refine TO.nil ?_
    refine T.cond rfl (fun q => absurd (q.symm.trans rfl) (by decide)) (fun _ => ?_)
    refine T.skip ?_
    refine T.seq ?_
    refine T.region ?_
    refine oA (EvA.mkO (c := cI) ([] : List Int) [] sl37 rfl rfl rfl (fun _ => rfl) rfl rfl) ?_
    refine oN (EvN.mv (eL cI s) rfl) ?_
    obtain ⟨g2, h⟩ := gdL h
    refine oA (EvA.appF (l := ([] : List Int)) s sl37 (by kernel_rfl) rfl rfl rfl (SrcOk.fz (l := s) rfl (fun _ => rfl)) g2) ?_
    refine oN (EvN.asg (hS false 0 (0 + 1) 1 ((([] : List Int) ++ s).length)) rfl) ?_
    refine TO.nil ?_
    refine T.ret ?_
    obtain rfl := Option.some.inj h
    repeat first | refine retS ?_ | refine retB ?_
    exact Fin.ret (vs := [hS false 0 (0 + 1) 1 ((([] : List Int) ++ s).length)]) (.cons (.tmp rfl) .nil) (Fz.own (g := false) (ver := 0 + 1) (l := (([] : List Int) ++ s)) rfl rfl rfl nofun (fun _ => rfl))

theorem F_slices_Clone_int_int_OP (s : List Int) {q : (List Int)} (h : F_slices_Clone_int_int s = some q) : BCall Try.prog 87 [eL cI s] [] (OwnR 1 3 (fun x => x) q.length (q.map cI) 0 []) := by
  refine BCall.mkO Try.func87 rfl (by kernel_rfl) rfl (by kernel_rfl) (e0 := envOf [(0, eL cI s)]) (weak_cons rfl weak_nil) ren_id (rowsM (fun _ => rfl)) ?_
  refine T.seq ?_
  refine T.region ?_
  refine oN (EvN.asg (.nil) rfl) ?_
  refine TO.nil ?_
  refine T.seq ?_
  refine T.seq ?_
  refine T.region ?_
  refine oN (EvN.mv (eL cI s) rfl) ?_
  refine oNil false Try.underlying37 rfl rfl (fun z1 => ?_) ?_
  · replace h := (nilK_is h).1 (by rw [z1]; rfl)
    refine TO.nil ?_
    refine T.cond rfl (fun _ => ?_) (fun q => absurd (q.symm.trans rfl) (by decide))
    refine T.seq ?_
    refine T.region ?_
    refine oN (EvN.asg (.nil) rfl) ?_
    refine TO.nil ?_
    refine T.ret ?_
    obtain rfl := Option.some.inj h
    repeat first | refine retS ?_ | refine retB ?_
    exact Fin.ret (vs := [.nil]) (.cons (.tmp rfl) .nil) ⟨0, true, 0, fun _ => rfl, rfl, nofun⟩
  · replace h := (nilK_is h).2
    refine TO.nil ?_
    refine T.cond rfl (fun q => absurd (q.symm.trans rfl) (by decide)) (fun _ => ?_)
    refine T.skip ?_
    refine T.seq ?_
    refine T.region ?_
    refine oA (EvA.mkO (c := cI) ([] : List Int) [] sl37 rfl rfl rfl (fun _ => rfl) rfl rfl) ?_
    refine oN (EvN.mv (eL cI s) rfl) ?_
    obtain ⟨g2, h⟩ := gdL h
    refine oA (EvA.appF (l := ([] : List Int)) s sl37 (by kernel_rfl) rfl rfl rfl (SrcOk.fz (l := s) rfl (fun _ => rfl)) g2) ?_
    refine oN (EvN.asg (hS false 0 (0 + 1) 1 ((([] : List Int) ++ s).length)) rfl) ?_
    refine TO.nil ?_
    refine T.ret ?_
    obtain rfl := Option.some.inj h
    repeat first | refine retS ?_ | refine retB ?_
    exact Fin.ret (vs := [hS false 0 (0 + 1) 1 ((([] : List Int) ++ s).length)]) (.cons (.tmp rfl) .nil) ⟨0, false, 0 + 1, nofun, rfl, ownB rfl⟩
end Go.Proofs.Ytjogdblionfmiaa
