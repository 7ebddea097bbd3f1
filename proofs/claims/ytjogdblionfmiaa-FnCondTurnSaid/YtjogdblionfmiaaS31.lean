/-
  The program's code computes the functions over plain values; printed by lift.py. No conditions.
-/
import Derived.Test.YtjogdblionfmiaaS3d
import Derived.Test.YtjogdblionfmiaaSf
import Derived.Test.YtjogdblionfmiaaGH
import Derived.Test.YtjogdblionfmiaaSR1
namespace Go.Proofs.Ytjogdblionfmiaa
open Go.RowKit
set_option maxRecDepth 100000
theorem F_spec_l3Start_P (p : List (List Ximpl_Instr)) (buffers : Int) {q : Xspec_l3State} (h : F_spec_l3Start p buffers = some q) : PCall Try.prog 185 [eL (cL Ximpl_Instr.c) p, I buffers] (.agg (Xspec_l3State.c q)) := by
  refine PCall.mkT Try.func185 rfl (by kernel_rfl) rfl (by kernel_rfl) (e0 := envOf [(0, eL (cL Ximpl_Instr.c) p), (1, I buffers)]) (weak_cons rfl (weak_cons rfl weak_nil)) ?_
  refine T.seq ?_
  refine T.region ?_
  refine oA (EvA.al zs184 rfl rfl) ?_
  refine TO.nil ?_
  refine T.seq ?_
  refine T.reserve ?_
  refine T.drawF (fun i => [([], false), ([], false), ([], false), ([], false), ([], false), ([], false), ([], false), ([], false), ([], false), ([1], true), ([1], true)].getD i ([], false)) (by kernel_rfl) (by kernel_rfl) ?_
  refine fN rfl (EvN.mv (eL (cL Ximpl_Instr.c) p) rfl) ?_
  refine fN rfl (EvN.lenL sl23 rfl) ?_
  obtain ⟨g1, h⟩ := gdD h
  refine fN rfl (EvN.msF (c := cI) (default : Int) sl37 rfl rfl g1 rfl rfl (fun _ => rfl)) ?_
  refine fN rfl (EvN.mv (eL (cL Ximpl_Instr.c) p) rfl) ?_
  refine fN rfl (EvN.lenL sl23 rfl) ?_
  obtain ⟨g2, h⟩ := gdW h
  refine fN rfl (EvN.mul rfl rfl g2) ?_
  obtain ⟨g3, h⟩ := gdD h
  refine fN rfl (EvN.msF (c := cI) (default : Int) sl37 rfl rfl g3 rfl rfl (fun _ => rfl)) ?_
  obtain ⟨g4, h⟩ := gdD h
  refine fN rfl (EvN.msF (c := cI) (default : Int) sl37 rfl rfl g4 rfl rfl (fun _ => rfl)) ?_
  refine fN rfl (EvN.build [eL cI (List.replicate (p.length : Int).toNat (default : Int)), eL cI (List.replicate ((p.length : Int) * (3 : Int)).toNat (default : Int)), eL cI (List.replicate (3 : Int).toNat (default : Int)), .nil] Try.underlying184 zs184 fs184 rfl rfl) ?_
  refine fW 1 [] rfl rfl (fun G hG => EvA.alR 1 zs184 rfl rfl (hG.a0 rfl)) ?_
  refine fV 1 [] rfl rfl (fun G hG => EvA.st (cs := [eL cI (List.replicate (p.length : Int).toNat (default : Int)), eL cI (List.replicate ((p.length : Int) * (3 : Int)).toNat (default : Int)), eL cI (List.replicate (3 : Int).toNat (default : Int)), .nil]) ⟨0, 4, 184, [[eL cI (List.replicate (p.length : Int).toNat (default : Int)), eL cI (List.replicate ((p.length : Int) * (3 : Int)).toNat (default : Int)), eL cI (List.replicate (3 : Int).toNat (default : Int)), .nil]]⟩ ty184 rfl rfl (hG.a0 rfl) rfl rfl rfl rfl rfl rfl) ?_
  refine TF.nil ?_
  refine T.seq ?_
  refine T.clean (H0 := [some ⟨0, 4, 184, [[.nil, .nil, .nil, .nil]]⟩, some ⟨0, 4, 184, [[eL cI (List.replicate (p.length : Int).toNat (default : Int)), eL cI (List.replicate ((p.length : Int) * (3 : Int)).toNat (default : Int)), eL cI (List.replicate (3 : Int).toNat (default : Int)), .nil]]⟩]) (e0 := envOf [(5, .hp 1 0 4 0 0), (4, .hp 0 0 4 0 0), (1, I buffers)]) rfl (weak_cons rfl (weak_cons rfl (weak_cons rfl weak_nil))) ?_
  refine T.region ?_
  refine oN (EvN.mv (I buffers) rfl) ?_
  obtain ⟨g5, h⟩ := gdD h
  refine oN (EvN.msZ (f := cI) sl62 rfl rfl g5 rfl) ?_
  refine oN (EvN.fahp Try.underlying184 rfl (by kernel_rfl) rfl) ?_
  refine oV (EvA.st (cs := [eL (cL cI) (List.replicate buffers.toNat ([] : List Int))]) ⟨0, 4, 184, [[eL cI (List.replicate (p.length : Int).toNat (default : Int)), eL cI (List.replicate ((p.length : Int) * (3 : Int)).toNat (default : Int)), eL cI (List.replicate (3 : Int).toNat (default : Int)), eL (cL cI) (List.replicate buffers.toNat ([] : List Int))]]⟩ ty62 rfl rfl rfl rfl rfl rfl rfl rfl rfl) ?_
  refine TO.nil ?_
  refine T.seq ?_
  refine T.region ?_
  refine oA (EvA.loadhp (.agg [eL cI (List.replicate (p.length : Int).toNat (default : Int)), eL cI (List.replicate ((p.length : Int) * (3 : Int)).toNat (default : Int)), eL cI (List.replicate (3 : Int).toNat (default : Int)), eL (cL cI) (List.replicate buffers.toNat ([] : List Int))]) ty184 rfl rfl rfl rfl rfl rfl) ?_
  refine oV (EvA.st (cs := [eL cI (List.replicate (p.length : Int).toNat (default : Int)), eL cI (List.replicate ((p.length : Int) * (3 : Int)).toNat (default : Int)), eL cI (List.replicate (3 : Int).toNat (default : Int)), eL (cL cI) (List.replicate buffers.toNat ([] : List Int))]) ⟨0, 4, 184, [[eL cI (List.replicate (p.length : Int).toNat (default : Int)), eL cI (List.replicate ((p.length : Int) * (3 : Int)).toNat (default : Int)), eL cI (List.replicate (3 : Int).toNat (default : Int)), eL (cL cI) (List.replicate buffers.toNat ([] : List Int))]]⟩ ty184 rfl rfl rfl rfl rfl rfl rfl rfl rfl) ?_
  refine TO.nil ?_
  refine T.ret ?_
  obtain rfl := Option.some.inj h
  repeat first | refine retS ?_ | refine retB ?_
  exact Fin.ret (vs := [.agg [eL cI (List.replicate (p.length : Int).toNat (default : Int)), eL cI (List.replicate ((p.length : Int) * (3 : Int)).toNat (default : Int)), eL cI (List.replicate (3 : Int).toNat (default : Int)), eL (cL cI) (List.replicate buffers.toNat ([] : List Int))]]) (.cons (.cell (.agg [eL cI (List.replicate (p.length : Int).toNat (default : Int)), eL cI (List.replicate ((p.length : Int) * (3 : Int)).toNat (default : Int)), eL cI (List.replicate (3 : Int).toNat (default : Int)), eL (cL cI) (List.replicate buffers.toNat ([] : List Int))]) ty184 rfl rfl rfl rfl rfl rfl) .nil) (.of_isF 9 _ rfl)

theorem F_spec_l3Hash_P (s : ByteArray) {q : Int} (h : F_spec_l3Hash s = some q) : PCall Try.prog 221 [St s] (I q) := by
  refine PCall.mkT Try.func221 rfl (by kernel_rfl) rfl (by kernel_rfl) (e0 := envOf [(0, St s)]) (weak_cons rfl weak_nil) ?_
  refine T.seq ?_
  refine T.region ?_
  refine oN (EvN.asg (I (0 : Int)) rfl) ?_
  refine TO.nil ?_
  refine T.seq ?_
  refine T.region ?_
  refine oN (EvN.asg (I (0 : Int)) rfl) ?_
  refine TO.nil ?_
  obtain ⟨s1, h, ks1⟩ := bindL h
  refine T.joinF (G := Unit) (fun gh => True) (fun gh => [(3, I s1)]) (fun gh => []) (fun gh hg => ?_) ?_
  · clear h
    have h := ks1
    clear ks1
    refine T.seq ?_
    refine T.region ?_
    refine oN (EvN.mv (I s1) rfl) ?_
    refine oN (EvN.asg (I s1) rfl) ?_
    refine TO.nil ?_
    refine T.ret ?_
    obtain rfl := Option.some.inj h
    repeat first | refine retS ?_ | refine retB ?_
    exact Fin.ret (vs := [I s1]) (.cons (.tmp rfl) .nil) (.of_isF 9 _ rfl)
  · clear ks1
    refine T.seq ?_
    refine T.region ?_
    refine oN (EvN.asg (I (0 : Int)) rfl) ?_
    refine TO.nil ?_
    refine T.block ?_
    refine T.loop (S := Int × Int) (G := Unit) (F_spec_l3Hash_L3 s) (fun s2 gh => True) (fun s2 gh => [(4, I s2.1), (3, I s2.2), (0, St s)]) (fun s2 gh => []) (s0 := ((0 : Int), (0 : Int))) () h trivial (cutW rfl (weak_cons rfl (weak_cons rfl (weak_cons rfl weak_nil)))) (fun s2 gh ws2 h hg => ?_)
    refine T.seq ?_
    refine T.seq ?_
    refine T.region ?_
    refine oN (EvN.mv (I s2.1) rfl) ?_
    refine oN (EvN.mv (St s) rfl) ?_
    refine oN (EvN.lenst Try.underlying9 rfl) ?_
    refine oN (EvN.ilt rfl rfl) ?_
    refine TO.nil ?_
    refine T.cond rfl (fun q4 => ?_) (fun q4 => ?_)
    · replace h := condT q4 h
      refine T.skip ?_
      refine T.seq ?_
      refine T.block ?_
      refine T.region ?_
      refine oN (EvN.mv (I s2.2) rfl) ?_
      obtain ⟨g5, h⟩ := gdW h
      refine oN (EvN.mul rfl rfl g5) ?_
      refine oN (EvN.mv (St s) rfl) ?_
      refine oN (EvN.mv (I s2.1) rfl) ?_
      obtain ⟨g6, h⟩ := gdD h
      refine oN (EvN.ixst Try.underlying9 rfl rfl g6) ?_
      obtain ⟨g7, h⟩ := gdW h
      refine oN (EvN.iconv ty5.und Try.underlying3 rfl g7) ?_
      obtain ⟨g8, h⟩ := gdW h
      refine oN (EvN.add rfl rfl g8) ?_
      obtain ⟨g9, h⟩ := gdD h
      refine oN (EvN.rem rfl rfl g9) ?_
      refine oN (EvN.asg (I (((s2.2 * (31 : Int)) + ((s.data.getD s2.1.toNat 0).toNat : Int)).tmod (4096 : Int))) rfl) ?_
      refine TO.nil ?_
      refine T.clean (H0 := []) (e0 := envOf [(3, I (((s2.2 * (31 : Int)) + ((s.data.getD s2.1.toNat 0).toNat : Int)).tmod (4096 : Int))), (4, I s2.1), (0, St s)]) rfl (weak_cons rfl (weak_cons rfl (weak_cons rfl weak_nil))) ?_
      refine T.region ?_
      refine oN (EvN.mv (I s2.1) rfl) ?_
      obtain ⟨g10, h⟩ := gdW h
      refine oN (EvN.add rfl rfl g10) ?_
      refine oN (EvN.asg (I (s2.1 + (1 : Int))) rfl) ?_
      refine TO.nil ?_
      obtain rfl := Option.some.inj h
      exact ⟨((s2.1 + (1 : Int)), (((s2.2 * (31 : Int)) + ((s.data.getD s2.1.toNat 0).toNat : Int)).tmod (4096 : Int))), (), rfl, trivial, cutW rfl (weak_cons rfl (weak_cons rfl (weak_cons rfl weak_nil)))⟩
    · replace h := condF q4 h
      refine T.exit ?_
      refine ⟨_, (Option.some.inj h).symm, fun h => ?_⟩
      replace h := congrArg some h
      obtain rfl := Option.some.inj h
      exact ⟨(), trivial, cutW rfl (weak_cons rfl weak_nil)⟩

theorem F_spec_l3Done_P (p : List (List Ximpl_Instr)) (s : Xspec_l3State) {q : Bool} (h : F_spec_l3Done p s = some q) : PCall Try.prog 188 [eL (cL Ximpl_Instr.c) p, .agg (Xspec_l3State.c s)] (Bo q) := by
  refine PCall.mkT Try.func188 rfl (by kernel_rfl) rfl (by kernel_rfl) (e0 := envOf [(0, eL (cL Ximpl_Instr.c) p), (1, .agg (Xspec_l3State.c s))]) (weak_cons rfl (weak_cons rfl weak_nil)) ?_
  refine T.seq ?_
  refine T.region ?_
  refine oN (EvN.bxF [eL cI s.at_, eL cI s.regs, eL cI s.mem, eL (cL cI) s.buf] rfl rfl rfl) ?_
  refine oN (EvN.asg (Bo false) rfl) ?_
  refine TO.nil ?_
  obtain ⟨Ks1, es1, ws1, h, ks1⟩ := sumL h
  refine T.join (S := Unit) (G := Unit) (fun s1 => Ks1 s1 = some q) (fun s1 gh => True) (fun s1 gh => []) (fun s1 gh => []) (fun s1 gh h hg => ?_) ?_
  · clear ks1
    subst es1
    refine T.seq ?_
    refine T.region ?_
    refine oN (EvN.asg (Bo true) rfl) ?_
    refine TO.nil ?_
    refine T.ret ?_
    obtain rfl := Option.some.inj h
    repeat first | refine retS ?_ | refine retB ?_
    exact Fin.ret (vs := [Bo true]) (.cons (.tmp rfl) .nil) (.of_isF 9 _ rfl)
  · refine T.seq ?_
    refine T.region ?_
    refine oN (EvN.asg (I (0 : Int)) rfl) ?_
    refine TO.nil ?_
    refine T.block ?_
    refine T.loop (S := Int) (G := Unit) (F_spec_l3Done_L3 p s) (fun s2 gh => True) (fun s2 gh => [(5, I s2), (3, .fp (Xspec_l3State.c s) 0), (0, eL (cL Ximpl_Instr.c) p)]) (fun s2 gh => []) (s0 := (0 : Int)) () h trivial (cutW rfl (weak_cons rfl (weak_cons rfl (weak_cons rfl weak_nil)))) (fun s2 gh ws2 h hg => ?_)
    refine T.seq ?_
    refine T.seq ?_
    refine T.region ?_
    refine oN (EvN.mv (I s2) rfl) ?_
    refine oN (EvN.mv (eL (cL Ximpl_Instr.c) p) rfl) ?_
    refine oN (EvN.lenL sl23 rfl) ?_
    refine oN (EvN.ilt rfl rfl) ?_
    refine TO.nil ?_
    refine T.cond rfl (fun q4 => ?_) (fun q4 => ?_)
    · replace h := condT q4 h
      refine T.skip ?_
      refine T.seq ?_
      refine T.block ?_
      refine T.seq ?_
      refine T.drawF (fun _ => ([], false)) (by kernel_rfl) (by kernel_rfl) ?_
      refine fN rfl (EvN.fafp Try.underlying184 rfl (by kernel_rfl) rfl) ?_
      refine fN rfl (EvN.loadfp (eL cI s.at_) ty37 rfl rfl) ?_
      refine fN rfl (EvN.mv (I s2) rfl) ?_
      obtain ⟨g5, h⟩ := gdD h
      refine fN rfl (EvN.ixL sl37 rfl rfl g5 (fun _ => rfl)) ?_
      refine fN rfl (EvN.loadfp (I (s.at_.getD s2.toNat default)) ty3 rfl rfl) ?_
      refine fN rfl (EvN.mv (eL (cL Ximpl_Instr.c) p) rfl) ?_
      refine fN rfl (EvN.mv (I s2) rfl) ?_
      obtain ⟨g6, h⟩ := gdD h
      refine fN rfl (EvN.ixL sl23 rfl rfl g6 (fun _ => rfl)) ?_
      refine fN rfl (EvN.loadfp (eL Ximpl_Instr.c (p.getD s2.toNat default)) ty78 rfl rfl) ?_
      refine fN rfl (EvN.lenL sl78 rfl) ?_
      refine fN rfl (EvN.ilt rfl rfl) ?_
      refine TF.nil ?_
      refine T.cond rfl (fun q7 => ?_) (fun q7 => ?_)
      · replace h := condT q7 h
        refine T.seq ?_
        refine T.clean (H0 := []) (e0 := envOf []) rfl weak_nil ?_
        refine T.region ?_
        refine oN (EvN.asg (Bo false) rfl) ?_
        refine TO.nil ?_
        refine T.ret ?_
        refine ⟨_, (Option.some.inj h).symm, fun h => ?_⟩
        replace h := congrArg some h
        obtain rfl := Option.some.inj h
        replace h := congrArg some (show _ = _ from ks1)
        obtain rfl := Option.some.inj h
        repeat first | refine retS ?_ | refine retB ?_
        exact Fin.ret (vs := [Bo false]) (.cons (.tmp rfl) .nil) (.of_isF 9 _ rfl)
      · replace h := condF q7 h
        refine T.skip ?_
        refine T.clean (H0 := []) (e0 := envOf [(5, I s2), (3, .fp (Xspec_l3State.c s) 0), (0, eL (cL Ximpl_Instr.c) p)]) rfl (weak_cons rfl (weak_cons rfl (weak_cons rfl weak_nil))) ?_
        refine T.region ?_
        refine oN (EvN.mv (I s2) rfl) ?_
        obtain ⟨g8, h⟩ := gdW h
        refine oN (EvN.add rfl rfl g8) ?_
        refine oN (EvN.asg (I (s2 + (1 : Int))) rfl) ?_
        refine TO.nil ?_
        obtain rfl := Option.some.inj h
        exact ⟨(s2 + (1 : Int)), (), rfl, trivial, cutW rfl (weak_cons rfl (weak_cons rfl (weak_cons rfl weak_nil)))⟩
    · replace h := condF q4 h
      refine T.exit ?_
      refine ⟨_, (Option.some.inj h).symm, fun h => ?_⟩
      replace h := congrArg some h
      obtain rfl := Option.some.inj h
      exact ⟨(), (), ks1, trivial, cutW rfl weak_nil⟩

theorem F_spec_l3Key_P (s : Xspec_l3State) {q : ByteArray} (h : F_spec_l3Key s = some q) : PCall Try.prog 187 [.agg (Xspec_l3State.c s)] (St q) := by
  refine PCall.mkT Try.func187 rfl (by kernel_rfl) rfl (by kernel_rfl) (e0 := envOf [(0, .agg (Xspec_l3State.c s))]) (weak_cons rfl weak_nil) ?_
  refine T.seq ?_
  refine T.region ?_
  refine oN (EvN.bxF [eL cI s.at_, eL cI s.regs, eL cI s.mem, eL (cL cI) s.buf] rfl rfl rfl) ?_
  refine oN (EvN.asg (St (⟨#[]⟩ : ByteArray)) rfl) ?_
  refine TO.nil ?_
  refine T.seq ?_
  refine T.region ?_
  refine oA (EvA.mkO (c := cY) ([] : List Int) [] sl22 rfl rfl rfl (fun _ => rfl) rfl rfl) ?_
  refine oN (EvN.asg (hS false 0 0 1 (([] : List Int).length)) rfl) ?_
  refine TO.nil ?_
  obtain ⟨s1, h, ks1⟩ := bindL h
  refine T.joinF (G := Nat) (fun gh => True) (fun gh => [(3, hS false 0 gh 1 s1.length), (1, .fp (Xspec_l3State.c s) 0)]) (fun gh => [bE false gh 1 5 (s1.map cY)]) (fun u11 hg => ?_) ?_
  · clear h
    have h := ks1
    clear ks1
    obtain ⟨s12, h, ks12⟩ := bindL h
    refine T.joinF (G := Nat) (fun gh => True) (fun gh => [(3, hS false 0 gh 1 s12.length), (1, .fp (Xspec_l3State.c s) 0)]) (fun gh => [bE false gh 1 5 (s12.map cY)]) (fun u22 hg => ?_) ?_
    · clear h
      have h := ks12
      clear ks12
      obtain ⟨s23, h, ks23⟩ := bindL h
      refine T.joinF (G := Nat) (fun gh => True) (fun gh => [(3, hS false 0 gh 1 s23.length), (1, .fp (Xspec_l3State.c s) 0)]) (fun gh => [bE false gh 1 5 (s23.map cY)]) (fun u33 hg => ?_) ?_
      · clear h
        have h := ks23
        clear ks23
        obtain ⟨s34, h, ks34⟩ := bindL h
        refine T.joinF (G := Nat) (fun gh => True) (fun gh => [(3, hS false 0 gh 1 s34.length)]) (fun gh => [bE false gh 1 5 (s34.map cY)]) (fun u54 hg => ?_) ?_
        · clear h
          have h := ks34
          clear ks34
          refine T.seq ?_
          refine T.region ?_
          refine oN (EvN.mv (hS false 0 u54 1 s34.length) rfl) ?_
          refine oA (EvA.b2s (l := s34) Try.underlying22 Try.underlying5 Try.underlying9 (slc_hS (g := false) rfl) (SrcOk.ow (g := false) (l := s34) rfl rfl rfl nofun)) ?_
          refine oN (EvN.asg (St (strOfNums s34)) rfl) ?_
          refine TO.nil ?_
          refine T.ret ?_
          obtain rfl := Option.some.inj h
          repeat first | refine retS ?_ | refine retB ?_
          exact Fin.ret (vs := [St (strOfNums s34)]) (.cons (.tmp rfl) .nil) (.of_isF 9 _ rfl)
        · clear ks34
          refine T.seq ?_
          refine T.region ?_
          refine oN (EvN.asg (I (0 : Int)) rfl) ?_
          refine TO.nil ?_
          refine T.block ?_
          refine T.loop (S := (List Int) × Int) (G := Nat) (F_spec_l3Key_L37 s) (fun s36 gh => True) (fun s36 gh => [(7, I s36.2), (3, hS false 0 gh 1 s36.1.length), (1, .fp (Xspec_l3State.c s) 0)]) (fun s36 gh => [bE false gh 1 5 (s36.1.map cY)]) (s0 := (s23, (0 : Int))) u33 h trivial (cutW rfl (weak_cons rfl (weak_cons rfl (weak_cons rfl weak_nil)))) (fun s36 u38 ws36 h hg => ?_)
          refine T.seq ?_
          refine T.seq ?_
          refine T.region ?_
          refine oN (EvN.mv (I s36.2) rfl) ?_
          refine oN (EvN.fafp Try.underlying184 rfl (by kernel_rfl) rfl) ?_
          refine oN (EvN.loadfp (eL (cL cI) s.buf) ty62 rfl rfl) ?_
          refine oN (EvN.lenL sl62 rfl) ?_
          refine oN (EvN.ilt rfl rfl) ?_
          refine TO.nil ?_
          refine T.cond rfl (fun q39 => ?_) (fun q39 => ?_)
          · replace h := condT q39 h
            refine T.skip ?_
            obtain ⟨s40, h, ks40⟩ := bindL h
            refine T.joinF (G := Nat) (fun gh => True) (fun gh => [(3, hS false 0 gh 1 s40.length), (7, I s36.2), (1, .fp (Xspec_l3State.c s) 0)]) (fun gh => [bE false gh 1 5 (s40.map cY)]) (fun u52 hg => ?_) ?_
            · clear h
              have h := ks40
              clear ks40
              refine T.region ?_
              refine oN (EvN.mv (I s36.2) rfl) ?_
              obtain ⟨g53, h⟩ := gdW h
              refine oN (EvN.add rfl rfl g53) ?_
              refine oN (EvN.asg (I (s36.2 + (1 : Int))) rfl) ?_
              refine TO.nil ?_
              obtain rfl := Option.some.inj h
              exact ⟨(s40, (s36.2 + (1 : Int))), u52, rfl, trivial, cutW rfl (weak_cons rfl (weak_cons rfl (weak_cons rfl weak_nil)))⟩
            · clear ks40
              refine T.block ?_
              refine T.seq ?_
              refine T.region ?_
              refine oN (EvN.mv (hS false 0 u38 1 s36.1.length) rfl) ?_
              refine oN (EvN.mkF (c := cY) ([(255 : Int)] : List Int) [[Y (255 : Int)]] sl22 rfl rfl rfl (fun _ => rfl) (fun _ => rfl) rfl) ?_
              obtain ⟨g41, h⟩ := gdL h
              refine oA (EvA.app1 (g := false) (l := s36.1) (255 : Int) sl22 (by kernel_rfl) rfl rfl rfl nofun (SrcOk.fz (l := ([(255 : Int)] : List Int)) rfl (fun _ => rfl)) g41) ?_
              refine oN (EvN.asg (hS false 0 (u38 + 1) 1 ((s36.1 ++ [(255 : Int)]).length)) rfl) ?_
              refine TO.nil ?_
              refine T.seq ?_
              refine T.clean (H0 := [bE false (u38 + 1) 1 5 ((s36.1 ++ [(255 : Int)]).map cY)]) (e0 := envOf [(3, hS false 0 (u38 + 1) 1 ((s36.1 ++ [(255 : Int)]).length)), (7, I s36.2), (1, .fp (Xspec_l3State.c s) 0)]) rfl (weak_cons rfl (weak_cons rfl (weak_cons rfl weak_nil))) ?_
              refine T.region ?_
              refine oN (EvN.asg (I (0 : Int)) rfl) ?_
              refine TO.nil ?_
              refine T.block ?_
              refine T.loop (S := (List Int) × Int) (G := Nat) (F_spec_l3Key_L44 s s36) (fun s43 gh => True) (fun s43 gh => [(8, I s43.2), (3, hS false 0 gh 1 s43.1.length), (7, I s36.2), (1, .fp (Xspec_l3State.c s) 0)]) (fun s43 gh => [bE false gh 1 5 (s43.1.map cY)]) (s0 := ((s36.1 ++ [(255 : Int)]), (0 : Int))) (u38 + 1) h trivial (cutW rfl (weak_cons rfl (weak_cons rfl (weak_cons rfl (weak_cons rfl weak_nil))))) (fun s43 u45 ws43 h hg => ?_)
              refine T.seq ?_
              refine T.seq ?_
              refine T.region ?_
              refine oN (EvN.mv (I s43.2) rfl) ?_
              refine oN (EvN.fafp Try.underlying184 rfl (by kernel_rfl) rfl) ?_
              refine oN (EvN.loadfp (eL (cL cI) s.buf) ty62 rfl rfl) ?_
              refine oN (EvN.mv (I s36.2) rfl) ?_
              obtain ⟨g46, h⟩ := gdD h
              refine oN (EvN.ixL sl62 rfl rfl g46 (fun _ => rfl)) ?_
              refine oN (EvN.loadfp (eL cI (s.buf.getD s36.2.toNat default)) ty37 rfl rfl) ?_
              refine oN (EvN.lenL sl37 rfl) ?_
              refine oN (EvN.ilt rfl rfl) ?_
              refine TO.nil ?_
              refine T.cond rfl (fun q47 => ?_) (fun q47 => ?_)
              · replace h := condT q47 h
                refine T.skip ?_
                refine T.seq ?_
                refine T.block ?_
                refine T.clean (H0 := [bE false u45 1 5 (s43.1.map cY)]) (e0 := envOf [(8, I s43.2), (3, hS false 0 u45 1 s43.1.length), (7, I s36.2), (1, .fp (Xspec_l3State.c s) 0)]) rfl (weak_cons rfl (weak_cons rfl (weak_cons rfl (weak_cons rfl weak_nil)))) ?_
                refine T.region ?_
                refine oN (EvN.mv (hS false 0 u45 1 s43.1.length) rfl) ?_
                refine oN (EvN.fafp Try.underlying184 rfl (by kernel_rfl) rfl) ?_
                refine oN (EvN.loadfp (eL (cL cI) s.buf) ty62 rfl rfl) ?_
                refine oN (EvN.mv (I s36.2) rfl) ?_
                refine oN (EvN.ixL sl62 rfl rfl g46 (fun _ => rfl)) ?_
                refine oN (EvN.loadfp (eL cI (s.buf.getD s36.2.toNat default)) ty37 rfl rfl) ?_
                refine oN (EvN.mv (I s43.2) rfl) ?_
                obtain ⟨g48, h⟩ := gdD h
                refine oN (EvN.ixL sl37 rfl rfl g48 (fun _ => rfl)) ?_
                refine oN (EvN.loadfp (I ((s.buf.getD s36.2.toNat default).getD s43.2.toNat default)) ty3 rfl rfl) ?_
                obtain ⟨g49, h⟩ := gdW h
                refine oN (EvN.iconv ty3.und Try.underlying5 rfl g49) ?_
                refine oN (EvN.mkF (c := cY) ([((s.buf.getD s36.2.toNat default).getD s43.2.toNat default)] : List Int) [[Y ((s.buf.getD s36.2.toNat default).getD s43.2.toNat default)]] sl22 rfl rfl rfl (fun _ => rfl) (fun _ => rfl) rfl) ?_
                obtain ⟨g50, h⟩ := gdL h
                refine oA (EvA.app1 (g := false) (l := s43.1) ((s.buf.getD s36.2.toNat default).getD s43.2.toNat default) sl22 (by kernel_rfl) rfl rfl rfl nofun (SrcOk.fz (l := ([((s.buf.getD s36.2.toNat default).getD s43.2.toNat default)] : List Int)) rfl (fun _ => rfl)) g50) ?_
                refine oN (EvN.asg (hS false 0 (u45 + 1) 1 ((s43.1 ++ [((s.buf.getD s36.2.toNat default).getD s43.2.toNat default)]).length)) rfl) ?_
                refine TO.nil ?_
                refine T.clean (H0 := [bE false (u45 + 1) 1 5 ((s43.1 ++ [((s.buf.getD s36.2.toNat default).getD s43.2.toNat default)]).map cY)]) (e0 := envOf [(3, hS false 0 (u45 + 1) 1 ((s43.1 ++ [((s.buf.getD s36.2.toNat default).getD s43.2.toNat default)]).length)), (8, I s43.2), (7, I s36.2), (1, .fp (Xspec_l3State.c s) 0)]) rfl (weak_cons rfl (weak_cons rfl (weak_cons rfl (weak_cons rfl weak_nil)))) ?_
                refine T.region ?_
                refine oN (EvN.mv (I s43.2) rfl) ?_
                obtain ⟨g51, h⟩ := gdW h
                refine oN (EvN.add rfl rfl g51) ?_
                refine oN (EvN.asg (I (s43.2 + (1 : Int))) rfl) ?_
                refine TO.nil ?_
                obtain rfl := Option.some.inj h
                exact ⟨((s43.1 ++ [((s.buf.getD s36.2.toNat default).getD s43.2.toNat default)]), (s43.2 + (1 : Int))), u45 + 1, rfl, trivial, cutW rfl (weak_cons rfl (weak_cons rfl (weak_cons rfl (weak_cons rfl weak_nil))))⟩
              · replace h := condF q47 h
                refine T.exit ?_
                refine ⟨_, (Option.some.inj h).symm, fun h => ?_⟩
                replace h := congrArg some h
                obtain rfl := Option.some.inj h
                exact ⟨u45, trivial, cutW rfl (weak_cons rfl (weak_cons rfl (weak_cons rfl weak_nil)))⟩
          · replace h := condF q39 h
            refine T.exit ?_
            refine ⟨_, (Option.some.inj h).symm, fun h => ?_⟩
            replace h := congrArg some h
            obtain rfl := Option.some.inj h
            exact ⟨u38, trivial, cutW rfl (weak_cons rfl weak_nil)⟩
      · clear ks23
        refine T.seq ?_
        refine T.region ?_
        refine oN (EvN.asg (I (0 : Int)) rfl) ?_
        refine TO.nil ?_
        refine T.block ?_
        refine T.loop (S := (List Int) × Int) (G := Nat) (F_spec_l3Key_L26 s) (fun s25 gh => True) (fun s25 gh => [(6, I s25.2), (3, hS false 0 gh 1 s25.1.length), (1, .fp (Xspec_l3State.c s) 0)]) (fun s25 gh => [bE false gh 1 5 (s25.1.map cY)]) (s0 := (s12, (0 : Int))) u22 h trivial (cutW rfl (weak_cons rfl (weak_cons rfl (weak_cons rfl weak_nil)))) (fun s25 u27 ws25 h hg => ?_)
        refine T.seq ?_
        refine T.seq ?_
        refine T.region ?_
        refine oN (EvN.mv (I s25.2) rfl) ?_
        refine oN (EvN.fafp Try.underlying184 rfl (by kernel_rfl) rfl) ?_
        refine oN (EvN.loadfp (eL cI s.mem) ty37 rfl rfl) ?_
        refine oN (EvN.lenL sl37 rfl) ?_
        refine oN (EvN.ilt rfl rfl) ?_
        refine TO.nil ?_
        refine T.cond rfl (fun q28 => ?_) (fun q28 => ?_)
        · replace h := condT q28 h
          refine T.skip ?_
          refine T.seq ?_
          refine T.block ?_
          refine T.region ?_
          refine oN (EvN.mv (hS false 0 u27 1 s25.1.length) rfl) ?_
          refine oN (EvN.fafp Try.underlying184 rfl (by kernel_rfl) rfl) ?_
          refine oN (EvN.loadfp (eL cI s.mem) ty37 rfl rfl) ?_
          refine oN (EvN.mv (I s25.2) rfl) ?_
          obtain ⟨g29, h⟩ := gdD h
          refine oN (EvN.ixL sl37 rfl rfl g29 (fun _ => rfl)) ?_
          refine oN (EvN.loadfp (I (s.mem.getD s25.2.toNat default)) ty3 rfl rfl) ?_
          obtain ⟨g30, h⟩ := gdW h
          refine oN (EvN.iconv ty3.und Try.underlying5 rfl g30) ?_
          refine oN (EvN.mkF (c := cY) ([(s.mem.getD s25.2.toNat default)] : List Int) [[Y (s.mem.getD s25.2.toNat default)]] sl22 rfl rfl rfl (fun _ => rfl) (fun _ => rfl) rfl) ?_
          obtain ⟨g31, h⟩ := gdL h
          refine oA (EvA.app1 (g := false) (l := s25.1) (s.mem.getD s25.2.toNat default) sl22 (by kernel_rfl) rfl rfl rfl nofun (SrcOk.fz (l := ([(s.mem.getD s25.2.toNat default)] : List Int)) rfl (fun _ => rfl)) g31) ?_
          refine oN (EvN.asg (hS false 0 (u27 + 1) 1 ((s25.1 ++ [(s.mem.getD s25.2.toNat default)]).length)) rfl) ?_
          refine TO.nil ?_
          refine T.clean (H0 := [bE false (u27 + 1) 1 5 ((s25.1 ++ [(s.mem.getD s25.2.toNat default)]).map cY)]) (e0 := envOf [(3, hS false 0 (u27 + 1) 1 ((s25.1 ++ [(s.mem.getD s25.2.toNat default)]).length)), (6, I s25.2), (1, .fp (Xspec_l3State.c s) 0)]) rfl (weak_cons rfl (weak_cons rfl (weak_cons rfl weak_nil))) ?_
          refine T.region ?_
          refine oN (EvN.mv (I s25.2) rfl) ?_
          obtain ⟨g32, h⟩ := gdW h
          refine oN (EvN.add rfl rfl g32) ?_
          refine oN (EvN.asg (I (s25.2 + (1 : Int))) rfl) ?_
          refine TO.nil ?_
          obtain rfl := Option.some.inj h
          exact ⟨((s25.1 ++ [(s.mem.getD s25.2.toNat default)]), (s25.2 + (1 : Int))), u27 + 1, rfl, trivial, cutW rfl (weak_cons rfl (weak_cons rfl (weak_cons rfl weak_nil)))⟩
        · replace h := condF q28 h
          refine T.exit ?_
          refine ⟨_, (Option.some.inj h).symm, fun h => ?_⟩
          replace h := congrArg some h
          obtain rfl := Option.some.inj h
          exact ⟨u27, trivial, cutW rfl (weak_cons rfl (weak_cons rfl weak_nil))⟩
    · clear ks12
      refine T.seq ?_
      refine T.region ?_
      refine oN (EvN.asg (I (0 : Int)) rfl) ?_
      refine TO.nil ?_
      refine T.block ?_
      refine T.loop (S := (List Int) × Int) (G := Nat) (F_spec_l3Key_L15 s) (fun s14 gh => True) (fun s14 gh => [(5, I s14.2), (3, hS false 0 gh 1 s14.1.length), (1, .fp (Xspec_l3State.c s) 0)]) (fun s14 gh => [bE false gh 1 5 (s14.1.map cY)]) (s0 := (s1, (0 : Int))) u11 h trivial (cutW rfl (weak_cons rfl (weak_cons rfl (weak_cons rfl weak_nil)))) (fun s14 u16 ws14 h hg => ?_)
      refine T.seq ?_
      refine T.seq ?_
      refine T.region ?_
      refine oN (EvN.mv (I s14.2) rfl) ?_
      refine oN (EvN.fafp Try.underlying184 rfl (by kernel_rfl) rfl) ?_
      refine oN (EvN.loadfp (eL cI s.regs) ty37 rfl rfl) ?_
      refine oN (EvN.lenL sl37 rfl) ?_
      refine oN (EvN.ilt rfl rfl) ?_
      refine TO.nil ?_
      refine T.cond rfl (fun q17 => ?_) (fun q17 => ?_)
      · replace h := condT q17 h
        refine T.skip ?_
        refine T.seq ?_
        refine T.block ?_
        refine T.region ?_
        refine oN (EvN.mv (hS false 0 u16 1 s14.1.length) rfl) ?_
        refine oN (EvN.fafp Try.underlying184 rfl (by kernel_rfl) rfl) ?_
        refine oN (EvN.loadfp (eL cI s.regs) ty37 rfl rfl) ?_
        refine oN (EvN.mv (I s14.2) rfl) ?_
        obtain ⟨g18, h⟩ := gdD h
        refine oN (EvN.ixL sl37 rfl rfl g18 (fun _ => rfl)) ?_
        refine oN (EvN.loadfp (I (s.regs.getD s14.2.toNat default)) ty3 rfl rfl) ?_
        obtain ⟨g19, h⟩ := gdW h
        refine oN (EvN.iconv ty3.und Try.underlying5 rfl g19) ?_
        refine oN (EvN.mkF (c := cY) ([(s.regs.getD s14.2.toNat default)] : List Int) [[Y (s.regs.getD s14.2.toNat default)]] sl22 rfl rfl rfl (fun _ => rfl) (fun _ => rfl) rfl) ?_
        obtain ⟨g20, h⟩ := gdL h
        refine oA (EvA.app1 (g := false) (l := s14.1) (s.regs.getD s14.2.toNat default) sl22 (by kernel_rfl) rfl rfl rfl nofun (SrcOk.fz (l := ([(s.regs.getD s14.2.toNat default)] : List Int)) rfl (fun _ => rfl)) g20) ?_
        refine oN (EvN.asg (hS false 0 (u16 + 1) 1 ((s14.1 ++ [(s.regs.getD s14.2.toNat default)]).length)) rfl) ?_
        refine TO.nil ?_
        refine T.clean (H0 := [bE false (u16 + 1) 1 5 ((s14.1 ++ [(s.regs.getD s14.2.toNat default)]).map cY)]) (e0 := envOf [(3, hS false 0 (u16 + 1) 1 ((s14.1 ++ [(s.regs.getD s14.2.toNat default)]).length)), (5, I s14.2), (1, .fp (Xspec_l3State.c s) 0)]) rfl (weak_cons rfl (weak_cons rfl (weak_cons rfl weak_nil))) ?_
        refine T.region ?_
        refine oN (EvN.mv (I s14.2) rfl) ?_
        obtain ⟨g21, h⟩ := gdW h
        refine oN (EvN.add rfl rfl g21) ?_
        refine oN (EvN.asg (I (s14.2 + (1 : Int))) rfl) ?_
        refine TO.nil ?_
        obtain rfl := Option.some.inj h
        exact ⟨((s14.1 ++ [(s.regs.getD s14.2.toNat default)]), (s14.2 + (1 : Int))), u16 + 1, rfl, trivial, cutW rfl (weak_cons rfl (weak_cons rfl (weak_cons rfl weak_nil)))⟩
      · replace h := condF q17 h
        refine T.exit ?_
        refine ⟨_, (Option.some.inj h).symm, fun h => ?_⟩
        replace h := congrArg some h
        obtain rfl := Option.some.inj h
        exact ⟨u16, trivial, cutW rfl (weak_cons rfl (weak_cons rfl weak_nil))⟩
  · clear ks1
    refine T.seq ?_
    refine T.region ?_
    refine oN (EvN.asg (I (0 : Int)) rfl) ?_
    refine TO.nil ?_
    refine T.block ?_
    refine T.loop (S := (List Int) × Int) (G := Nat) (F_spec_l3Key_L4 s) (fun s3 gh => True) (fun s3 gh => [(4, I s3.2), (3, hS false 0 gh 1 s3.1.length), (1, .fp (Xspec_l3State.c s) 0)]) (fun s3 gh => [bE false gh 1 5 (s3.1.map cY)]) (s0 := (([] : List Int), (0 : Int))) 0 h trivial (cutW rfl (weak_cons rfl (weak_cons rfl (weak_cons rfl weak_nil)))) (fun s3 u5 ws3 h hg => ?_)
    refine T.seq ?_
    refine T.seq ?_
    refine T.region ?_
    refine oN (EvN.mv (I s3.2) rfl) ?_
    refine oN (EvN.fafp Try.underlying184 rfl (by kernel_rfl) rfl) ?_
    refine oN (EvN.loadfp (eL cI s.at_) ty37 rfl rfl) ?_
    refine oN (EvN.lenL sl37 rfl) ?_
    refine oN (EvN.ilt rfl rfl) ?_
    refine TO.nil ?_
    refine T.cond rfl (fun q6 => ?_) (fun q6 => ?_)
    · replace h := condT q6 h
      refine T.skip ?_
      refine T.seq ?_
      refine T.block ?_
      refine T.region ?_
      refine oN (EvN.mv (hS false 0 u5 1 s3.1.length) rfl) ?_
      refine oN (EvN.fafp Try.underlying184 rfl (by kernel_rfl) rfl) ?_
      refine oN (EvN.loadfp (eL cI s.at_) ty37 rfl rfl) ?_
      refine oN (EvN.mv (I s3.2) rfl) ?_
      obtain ⟨g7, h⟩ := gdD h
      refine oN (EvN.ixL sl37 rfl rfl g7 (fun _ => rfl)) ?_
      refine oN (EvN.loadfp (I (s.at_.getD s3.2.toNat default)) ty3 rfl rfl) ?_
      obtain ⟨g8, h⟩ := gdW h
      refine oN (EvN.iconv ty3.und Try.underlying5 rfl g8) ?_
      refine oN (EvN.mkF (c := cY) ([(s.at_.getD s3.2.toNat default)] : List Int) [[Y (s.at_.getD s3.2.toNat default)]] sl22 rfl rfl rfl (fun _ => rfl) (fun _ => rfl) rfl) ?_
      obtain ⟨g9, h⟩ := gdL h
      refine oA (EvA.app1 (g := false) (l := s3.1) (s.at_.getD s3.2.toNat default) sl22 (by kernel_rfl) rfl rfl rfl nofun (SrcOk.fz (l := ([(s.at_.getD s3.2.toNat default)] : List Int)) rfl (fun _ => rfl)) g9) ?_
      refine oN (EvN.asg (hS false 0 (u5 + 1) 1 ((s3.1 ++ [(s.at_.getD s3.2.toNat default)]).length)) rfl) ?_
      refine TO.nil ?_
      refine T.clean (H0 := [bE false (u5 + 1) 1 5 ((s3.1 ++ [(s.at_.getD s3.2.toNat default)]).map cY)]) (e0 := envOf [(3, hS false 0 (u5 + 1) 1 ((s3.1 ++ [(s.at_.getD s3.2.toNat default)]).length)), (4, I s3.2), (1, .fp (Xspec_l3State.c s) 0)]) rfl (weak_cons rfl (weak_cons rfl (weak_cons rfl weak_nil))) ?_
      refine T.region ?_
      refine oN (EvN.mv (I s3.2) rfl) ?_
      obtain ⟨g10, h⟩ := gdW h
      refine oN (EvN.add rfl rfl g10) ?_
      refine oN (EvN.asg (I (s3.2 + (1 : Int))) rfl) ?_
      refine TO.nil ?_
      obtain rfl := Option.some.inj h
      exact ⟨((s3.1 ++ [(s.at_.getD s3.2.toNat default)]), (s3.2 + (1 : Int))), u5 + 1, rfl, trivial, cutW rfl (weak_cons rfl (weak_cons rfl (weak_cons rfl weak_nil)))⟩
    · replace h := condF q6 h
      refine T.exit ?_
      refine ⟨_, (Option.some.inj h).symm, fun h => ?_⟩
      replace h := congrArg some h
      obtain rfl := Option.some.inj h
      exact ⟨u5, trivial, cutW rfl (weak_cons rfl (weak_cons rfl weak_nil))⟩

theorem F_spec_l3Outcome_P (s : Xspec_l3State) {q : (List Int)} (h : F_spec_l3Outcome s = some q) : PCall Try.prog 190 [.agg (Xspec_l3State.c s)] (eL cI q) := by
  refine PCall.mkT Try.func190 rfl (by kernel_rfl) rfl (by kernel_rfl) (e0 := envOf [(0, .agg (Xspec_l3State.c s))]) (weak_cons rfl weak_nil) ?_
  refine T.seq ?_
  refine T.region ?_
  refine oN (EvN.bxF [eL cI s.at_, eL cI s.regs, eL cI s.mem, eL (cL cI) s.buf] rfl rfl rfl) ?_
  refine oN (EvN.asg (.nil) rfl) ?_
  refine TO.nil ?_
  refine T.seq ?_
  refine T.reserve ?_
  refine T.drawH (fun i => [([0], true), ([], false), ([], false), ([0], true), ([], false), ([], false), ([0], true), ([], false)].getD i ([], false)) (by kernel_rfl) (by kernel_rfl) ?_
  refine fW 0 [] rfl rfl (fun G hG => EvA.mkOR (c := cI) 0 ([] : List Int) [] sl37 rfl rfl rfl (fun _ => rfl) (fun _ => rfl) rfl (hG.a0 rfl)) ?_
  refine fN rfl (EvN.fafp Try.underlying184 rfl (by kernel_rfl) rfl) ?_
  refine fN rfl (EvN.loadfp (eL cI s.regs) ty37 rfl rfl) ?_
  obtain ⟨g1, h⟩ := gdL h
  refine fW 0 [] rfl rfl (fun G hG => EvA.appF (l := ([] : List Int)) s.regs sl37 (by kernel_rfl) rfl rfl (hG.a0 rfl) (SrcOk.fz (l := s.regs) rfl (fun _ => rfl)) g1) ?_
  refine fN rfl (EvN.fafp Try.underlying184 rfl (by kernel_rfl) rfl) ?_
  refine fN rfl (EvN.loadfp (eL cI s.mem) ty37 rfl rfl) ?_
  obtain ⟨g2, h⟩ := gdL h
  refine fW 0 [] rfl rfl (fun G hG => EvA.appF (l := (([] : List Int) ++ s.regs)) s.mem sl37 (by kernel_rfl) rfl rfl (hG.a0 rfl) (SrcOk.fz (l := s.mem) rfl (fun _ => rfl)) g2) ?_
  refine fN rfl (EvN.asg (hS false 0 ((0 + 1) + 1) 1 (((([] : List Int) ++ s.regs) ++ s.mem).length)) rfl) ?_
  refine TF.nil ?_
  refine T.ret ?_
  obtain rfl := Option.some.inj h
  repeat first | refine retS ?_ | refine retB ?_
  exact Fin.ret (vs := [hS false 0 ((0 + 1) + 1) 1 (((([] : List Int) ++ s.regs) ++ s.mem).length)]) (.cons (.tmp rfl) .nil) (Fz.own (g := false) (ver := (0 + 1) + 1) (l := ((([] : List Int) ++ s.regs) ++ s.mem)) rfl rfl rfl nofun (fun _ => rfl))

theorem F_spec_l3Found_P (table : List (List ByteArray)) (s : ByteArray) {q : Bool} (h : F_spec_l3Found table s = some q) : PCall Try.prog 192 [eL (cL cS) table, St s] (Bo q) := by
  refine PCall.mkT Try.func192 rfl (by kernel_rfl) rfl (by kernel_rfl) (e0 := envOf [(0, eL (cL cS) table), (1, St s)]) (weak_cons rfl (weak_cons rfl weak_nil)) ?_
  refine T.seq ?_
  refine T.region ?_
  refine oN (EvN.asg (Bo false) rfl) ?_
  refine TO.nil ?_
  refine T.seq ?_
  refine T.region ?_
  refine oN (EvN.mv (eL (cL cS) table) rfl) ?_
  refine oN (EvN.mv (St s) rfl) ?_
  obtain ⟨v1, cv1, h⟩ := bindL h
  refine oN (EvN.call rfl rfl rfl (F_spec_l3Hash_P s cv1) rfl) ?_
  obtain ⟨g2, h⟩ := gdD h
  refine oN (EvN.ixL sl182 rfl rfl g2 (fun _ => rfl)) ?_
  refine oN (EvN.loadfp (eL cS (table.getD v1.toNat default)) ty127 rfl rfl) ?_
  refine oN (EvN.asg (eL cS (table.getD v1.toNat default)) rfl) ?_
  refine TO.nil ?_
  obtain ⟨Ks3, es3, ws3, h, ks3⟩ := sumL h
  refine T.join (S := Unit) (G := Unit) (fun s3 => Ks3 s3 = some q) (fun s3 gh => True) (fun s3 gh => []) (fun s3 gh => []) (fun s3 gh h hg => ?_) ?_
  · clear ks3
    subst es3
    refine T.seq ?_
    refine T.region ?_
    refine oN (EvN.asg (Bo false) rfl) ?_
    refine TO.nil ?_
    refine T.ret ?_
    obtain rfl := Option.some.inj h
    repeat first | refine retS ?_ | refine retB ?_
    exact Fin.ret (vs := [Bo false]) (.cons (.tmp rfl) .nil) (.of_isF 9 _ rfl)
  · refine T.seq ?_
    refine T.clean (H0 := []) (e0 := envOf [(5, eL cS (table.getD v1.toNat default)), (1, St s)]) rfl (weak_cons rfl (weak_cons rfl weak_nil)) ?_
    refine T.region ?_
    refine oN (EvN.asg (I (0 : Int)) rfl) ?_
    refine TO.nil ?_
    refine T.block ?_
    refine T.loop (S := Int) (G := Unit) (F_spec_l3Found_L5 table s v1) (fun s4 gh => True) (fun s4 gh => [(6, I s4), (5, eL cS (table.getD v1.toNat default)), (1, St s)]) (fun s4 gh => []) (s0 := (0 : Int)) () h trivial (cutW rfl (weak_cons rfl (weak_cons rfl (weak_cons rfl weak_nil)))) (fun s4 gh ws4 h hg => ?_)
    refine T.seq ?_
    refine T.seq ?_
    refine T.region ?_
    refine oN (EvN.mv (I s4) rfl) ?_
    refine oN (EvN.mv (eL cS (table.getD v1.toNat default)) rfl) ?_
    refine oN (EvN.lenL sl127 rfl) ?_
    refine oN (EvN.ilt rfl rfl) ?_
    refine TO.nil ?_
    refine T.cond rfl (fun q6 => ?_) (fun q6 => ?_)
    · replace h := condT q6 h
      refine T.skip ?_
      refine T.seq ?_
      refine T.block ?_
      refine T.seq ?_
      refine T.region ?_
      refine oN (EvN.mv (eL cS (table.getD v1.toNat default)) rfl) ?_
      refine oN (EvN.mv (I s4) rfl) ?_
      obtain ⟨g7, h⟩ := gdD h
      refine oN (EvN.ixL sl127 rfl rfl g7 (fun _ => rfl)) ?_
      refine oN (EvN.loadfp (St ((table.getD v1.toNat default).getD s4.toNat default)) ty9 rfl rfl) ?_
      refine oN (EvN.mv (St s) rfl) ?_
      refine oN (EvN.seq rfl rfl) ?_
      refine TO.nil ?_
      refine T.cond rfl (fun q8 => ?_) (fun q8 => ?_)
      · replace h := condT q8 h
        refine T.seq ?_
        refine T.clean (H0 := []) (e0 := envOf []) rfl weak_nil ?_
        refine T.region ?_
        refine oN (EvN.asg (Bo true) rfl) ?_
        refine TO.nil ?_
        refine T.ret ?_
        refine ⟨_, (Option.some.inj h).symm, fun h => ?_⟩
        replace h := congrArg some h
        obtain rfl := Option.some.inj h
        replace h := congrArg some (show _ = _ from ks3)
        obtain rfl := Option.some.inj h
        repeat first | refine retS ?_ | refine retB ?_
        exact Fin.ret (vs := [Bo true]) (.cons (.tmp rfl) .nil) (.of_isF 9 _ rfl)
      · replace h := condF q8 h
        refine T.skip ?_
        refine T.clean (H0 := []) (e0 := envOf [(6, I s4), (5, eL cS (table.getD v1.toNat default)), (1, St s)]) rfl (weak_cons rfl (weak_cons rfl (weak_cons rfl weak_nil))) ?_
        refine T.region ?_
        refine oN (EvN.mv (I s4) rfl) ?_
        obtain ⟨g9, h⟩ := gdW h
        refine oN (EvN.add rfl rfl g9) ?_
        refine oN (EvN.asg (I (s4 + (1 : Int))) rfl) ?_
        refine TO.nil ?_
        obtain rfl := Option.some.inj h
        exact ⟨(s4 + (1 : Int)), (), rfl, trivial, cutW rfl (weak_cons rfl (weak_cons rfl (weak_cons rfl weak_nil)))⟩
    · replace h := condF q6 h
      refine T.exit ?_
      refine ⟨_, (Option.some.inj h).symm, fun h => ?_⟩
      replace h := congrArg some h
      obtain rfl := Option.some.inj h
      exact ⟨(), (), ks3, trivial, cutW rfl weak_nil⟩

theorem F_spec_l3Less_P (a : List Int) (b : List Int) {q : Int} (h : F_spec_l3Less a b = some q) : PCall Try.prog 153 [eL cI a, eL cI b] (I q) := by
  refine PCall.mkT Try.func153 rfl (by kernel_rfl) rfl (by kernel_rfl) (e0 := envOf [(0, eL cI a), (1, eL cI b)]) (weak_cons rfl (weak_cons rfl weak_nil)) ?_
  refine T.seq ?_
  refine T.region ?_
  refine oN (EvN.asg (I (0 : Int)) rfl) ?_
  refine TO.nil ?_
  obtain ⟨Ks1, es1, ws1, h, ks1⟩ := sumL h
  refine T.join (S := Unit) (G := Unit) (fun s1 => Ks1 s1 = some q) (fun s1 gh => True) (fun s1 gh => []) (fun s1 gh => []) (fun s1 gh h hg => ?_) ?_
  · clear ks1
    subst es1
    refine T.seq ?_
    refine T.region ?_
    refine oN (EvN.asg (I (0 : Int)) rfl) ?_
    refine TO.nil ?_
    refine T.ret ?_
    obtain rfl := Option.some.inj h
    repeat first | refine retS ?_ | refine retB ?_
    exact Fin.ret (vs := [I (0 : Int)]) (.cons (.tmp rfl) .nil) (.of_isF 9 _ rfl)
  · refine T.seq ?_
    refine T.region ?_
    refine oN (EvN.asg (I (0 : Int)) rfl) ?_
    refine TO.nil ?_
    refine T.block ?_
    refine T.loop (S := Int) (G := Unit) (F_spec_l3Less_L3 a b) (fun s2 gh => True) (fun s2 gh => [(5, I s2), (0, eL cI a), (1, eL cI b)]) (fun s2 gh => []) (s0 := (0 : Int)) () h trivial (cutW rfl (weak_cons rfl (weak_cons rfl (weak_cons rfl weak_nil)))) (fun s2 gh ws2 h hg => ?_)
    refine T.seq ?_
    refine T.seq ?_
    refine T.region ?_
    refine oN (EvN.mv (I s2) rfl) ?_
    refine oN (EvN.mv (eL cI a) rfl) ?_
    refine oN (EvN.lenL sl37 rfl) ?_
    refine oN (EvN.ilt rfl rfl) ?_
    refine oN (EvN.mv (Bo (decide (s2 < (a.length : Int)))) rfl) ?_
    obtain ⟨s4, h, ks4⟩ := bindL h
    refine TO.joinF (G := Unit) 5 (fun _ => True) (fun _ => [(15, Bo s4), (5, I s2), (0, eL cI a), (1, eL cI b)]) (fun _ => []) ?_ (fun js4 => ?_)
    rotate_left
    · clear ks4
      rcases bifL h with ⟨q5, h⟩ | ⟨q5, h⟩
      · refine gN rfl q5 (EvN.mv (I s2) rfl) ?_
        refine gN rfl q5 (EvN.mv (eL cI b) rfl) ?_
        refine gN rfl q5 (EvN.lenL sl37 rfl) ?_
        refine gN rfl q5 (EvN.ilt rfl rfl) ?_
        refine oN (EvN.pickT rfl q5 (Bo (decide (s2 < (b.length : Int)))) rfl) ?_
        obtain rfl := Option.some.inj h
        exact js4 _ _ ⟨(), trivial, cutW rfl (weak_cons rfl (weak_cons rfl (weak_cons rfl (weak_cons rfl weak_nil))))⟩
      · refine gS rfl q5 ?_
        refine gS rfl q5 ?_
        refine gS rfl q5 ?_
        refine gS rfl q5 ?_
        refine oN (EvN.pickF rfl q5 (Bo false) rfl) ?_
        obtain rfl := Option.some.inj h
        exact js4 _ _ ⟨(), trivial, cutW rfl (weak_cons rfl (weak_cons rfl (weak_cons rfl (weak_cons rfl weak_nil))))⟩
    · intro _ _
      replace h := ks4
      clear ks4
      refine TO.nil ?_
      refine T.cond rfl (fun q6 => ?_) (fun q6 => ?_)
      · replace h := condT q6 h
        refine T.skip ?_
        refine T.seq ?_
        refine T.block ?_
        refine T.seq ?_
        refine T.seq ?_
        refine T.drawF (fun _ => ([], false)) (by kernel_rfl) (by kernel_rfl) ?_
        refine fN rfl (EvN.mv (eL cI a) rfl) ?_
        refine fN rfl (EvN.mv (I s2) rfl) ?_
        obtain ⟨g7, h⟩ := gdD h
        refine fN rfl (EvN.ixL sl37 rfl rfl g7 (fun _ => rfl)) ?_
        refine fN rfl (EvN.loadfp (I (a.getD s2.toNat default)) ty3 rfl rfl) ?_
        refine fN rfl (EvN.mv (eL cI b) rfl) ?_
        refine fN rfl (EvN.mv (I s2) rfl) ?_
        obtain ⟨g8, h⟩ := gdD h
        refine fN rfl (EvN.ixL sl37 rfl rfl g8 (fun _ => rfl)) ?_
        refine fN rfl (EvN.loadfp (I (b.getD s2.toNat default)) ty3 rfl rfl) ?_
        refine fN rfl (EvN.ilt rfl rfl) ?_
        refine TF.nil ?_
        refine T.cond rfl (fun q9 => ?_) (fun q9 => ?_)
        · replace h := condT q9 h
          refine T.seq ?_
          refine T.clean (H0 := []) (e0 := envOf []) rfl weak_nil ?_
          refine T.region ?_
          refine oN (EvN.asg (I (-1 : Int)) rfl) ?_
          refine TO.nil ?_
          refine T.ret ?_
          refine ⟨_, (Option.some.inj h).symm, fun h => ?_⟩
          replace h := congrArg some h
          obtain rfl := Option.some.inj h
          replace h := congrArg some (show _ = _ from ks1)
          obtain rfl := Option.some.inj h
          repeat first | refine retS ?_ | refine retB ?_
          exact Fin.ret (vs := [I (-1 : Int)]) (.cons (.tmp rfl) .nil) (.of_isF 9 _ rfl)
        · replace h := condF q9 h
          refine T.skip ?_
          refine T.seq ?_
          refine T.clean (H0 := []) (e0 := envOf [(5, I s2), (0, eL cI a), (1, eL cI b)]) rfl (weak_cons rfl (weak_cons rfl (weak_cons rfl weak_nil))) ?_
          refine T.drawF (fun _ => ([], false)) (by kernel_rfl) (by kernel_rfl) ?_
          refine fN rfl (EvN.mv (eL cI a) rfl) ?_
          refine fN rfl (EvN.mv (I s2) rfl) ?_
          refine fN rfl (EvN.ixL sl37 rfl rfl g7 (fun _ => rfl)) ?_
          refine fN rfl (EvN.loadfp (I (a.getD s2.toNat default)) ty3 rfl rfl) ?_
          refine fN rfl (EvN.mv (eL cI b) rfl) ?_
          refine fN rfl (EvN.mv (I s2) rfl) ?_
          refine fN rfl (EvN.ixL sl37 rfl rfl g8 (fun _ => rfl)) ?_
          refine fN rfl (EvN.loadfp (I (b.getD s2.toNat default)) ty3 rfl rfl) ?_
          refine fN rfl (EvN.igt rfl rfl) ?_
          refine TF.nil ?_
          refine T.cond rfl (fun q10 => ?_) (fun q10 => ?_)
          · replace h := condT q10 h
            refine T.seq ?_
            refine T.clean (H0 := []) (e0 := envOf []) rfl weak_nil ?_
            refine T.region ?_
            refine oN (EvN.asg (I (1 : Int)) rfl) ?_
            refine TO.nil ?_
            refine T.ret ?_
            refine ⟨_, (Option.some.inj h).symm, fun h => ?_⟩
            replace h := congrArg some h
            obtain rfl := Option.some.inj h
            replace h := congrArg some (show _ = _ from ks1)
            obtain rfl := Option.some.inj h
            repeat first | refine retS ?_ | refine retB ?_
            exact Fin.ret (vs := [I (1 : Int)]) (.cons (.tmp rfl) .nil) (.of_isF 9 _ rfl)
          · replace h := condF q10 h
            refine T.skip ?_
            refine T.clean (H0 := []) (e0 := envOf [(5, I s2), (0, eL cI a), (1, eL cI b)]) rfl (weak_cons rfl (weak_cons rfl (weak_cons rfl weak_nil))) ?_
            refine T.region ?_
            refine oN (EvN.mv (I s2) rfl) ?_
            obtain ⟨g11, h⟩ := gdW h
            refine oN (EvN.add rfl rfl g11) ?_
            refine oN (EvN.asg (I (s2 + (1 : Int))) rfl) ?_
            refine TO.nil ?_
            obtain rfl := Option.some.inj h
            exact ⟨(s2 + (1 : Int)), (), rfl, trivial, cutW rfl (weak_cons rfl (weak_cons rfl (weak_cons rfl weak_nil)))⟩
      · replace h := condF q6 h
        refine T.exit ?_
        refine ⟨_, (Option.some.inj h).symm, fun h => ?_⟩
        replace h := congrArg some h
        obtain rfl := Option.some.inj h
        exact ⟨(), (), ks1, trivial, cutW rfl weak_nil⟩

theorem F_spec_l3Put_P (list : List (List Int)) (o_ : List Int) {q : (List (List Int))} (h : F_spec_l3Put list o_ = some q) : PCall Try.prog 189 [eL (cL cI) list, eL cI o_] (eL (cL cI) q) := by
  refine PCall.mkT Try.func189 rfl (by kernel_rfl) rfl (by kernel_rfl) (e0 := envOf [(0, eL (cL cI) list), (1, eL cI o_)]) (weak_cons rfl (weak_cons rfl weak_nil)) ?_
  refine T.seq ?_
  refine T.region ?_
  refine oN (EvN.asg (.nil) rfl) ?_
  refine TO.nil ?_
  refine T.seq ?_
  refine T.region ?_
  refine oN (EvN.asg (I (0 : Int)) rfl) ?_
  refine TO.nil ?_
  obtain ⟨s1, h, ks1⟩ := bindL h
  refine T.joinF (G := Unit) (fun gh => True) (fun gh => [(5, I s1), (0, eL (cL cI) list), (1, eL cI o_)]) (fun gh => []) (fun gh hg => ?_) ?_
  · clear h
    have h := ks1
    clear ks1
    refine T.seq ?_
    refine T.seq ?_
    refine T.region ?_
    refine oN (EvN.mv (I s1) rfl) ?_
    refine oN (EvN.mv (eL (cL cI) list) rfl) ?_
    refine oN (EvN.lenL sl62 rfl) ?_
    refine oN (EvN.ilt rfl rfl) ?_
    refine oN (EvN.mv (Bo (decide (s1 < (list.length : Int)))) rfl) ?_
    obtain ⟨s10, h, ks10⟩ := bindL h
    refine TO.joinF (G := Unit) 8 (fun _ => True) (fun _ => [(34, Bo s10), (5, I s1), (0, eL (cL cI) list), (1, eL cI o_)]) (fun _ => []) ?_ (fun js10 => ?_)
    rotate_left
    · clear ks10
      rcases bifL h with ⟨q11, h⟩ | ⟨q11, h⟩
      · refine gN rfl q11 (EvN.mv (eL (cL cI) list) rfl) ?_
        refine gN rfl q11 (EvN.mv (I s1) rfl) ?_
        obtain ⟨g12, h⟩ := gdD h
        refine gN rfl q11 (EvN.ixL sl62 rfl rfl g12 (fun _ => rfl)) ?_
        refine gN rfl q11 (EvN.loadfp (eL cI (list.getD s1.toNat default)) ty37 rfl rfl) ?_
        refine gN rfl q11 (EvN.mv (eL cI o_) rfl) ?_
        obtain ⟨v13, cv13, h⟩ := bindL h
        refine gN rfl q11 (EvN.call rfl rfl rfl (F_spec_l3Less_P (list.getD s1.toNat default) o_ cv13) rfl) ?_
        refine gN rfl q11 (EvN.ieq rfl rfl) ?_
        refine oN (EvN.pickT rfl q11 (Bo (v13 == (0 : Int))) rfl) ?_
        obtain rfl := Option.some.inj h
        exact js10 _ _ ⟨(), trivial, cutW rfl (weak_cons rfl (weak_cons rfl (weak_cons rfl (weak_cons rfl weak_nil))))⟩
      · refine gS rfl q11 ?_
        refine gS rfl q11 ?_
        refine gS rfl q11 ?_
        refine gS rfl q11 ?_
        refine gS rfl q11 ?_
        refine gS rfl q11 ?_
        refine gS rfl q11 ?_
        refine oN (EvN.pickF rfl q11 (Bo false) rfl) ?_
        obtain rfl := Option.some.inj h
        exact js10 _ _ ⟨(), trivial, cutW rfl (weak_cons rfl (weak_cons rfl (weak_cons rfl (weak_cons rfl weak_nil))))⟩
    · intro _ _
      replace h := ks10
      clear ks10
      refine TO.nil ?_
      refine T.cond rfl (fun q14 => ?_) (fun q14 => ?_)
      · replace h := condT q14 h
        refine T.seq ?_
        refine T.region ?_
        refine oN (EvN.mv (eL (cL cI) list) rfl) ?_
        refine oN (EvN.asg (eL (cL cI) list) rfl) ?_
        refine TO.nil ?_
        refine T.ret ?_
        obtain rfl := Option.some.inj h
        repeat first | refine retS ?_ | refine retB ?_
        exact Fin.ret (vs := [eL (cL cI) list]) (.cons (.tmp rfl) .nil) (.of_isF 9 _ rfl)
      · replace h := condF q14 h
        refine T.skip ?_
        refine T.seq ?_
        refine T.region ?_
        refine oA (EvA.mkO (c := (cL cI)) ([] : List (List Int)) [] sl62 rfl rfl rfl (fun _ => rfl) rfl rfl) ?_
        refine oN (EvN.mv (eL (cL cI) list) rfl) ?_
        refine oN (EvN.mv (I s1) rfl) ?_
        obtain ⟨g15, h⟩ := gdD h
        refine oN (EvN.slL sl62 rfl .no (.yes rfl) g15 (fun _ => rfl)) ?_
        obtain ⟨g16, h⟩ := gdL h
        refine oA (EvA.appF (l := ([] : List (List Int))) ((list.drop (0 : Int).toNat).take (s1.toNat - (0 : Int).toNat)) sl62 (by kernel_rfl) rfl rfl rfl (SrcOk.fz (l := ((list.drop (0 : Int).toNat).take (s1.toNat - (0 : Int).toNat))) rfl (fun _ => rfl)) g16) ?_
        refine oN (EvN.asg (hS false 0 (0 + 1) 1 ((([] : List (List Int)) ++ ((list.drop (0 : Int).toNat).take (s1.toNat - (0 : Int).toNat))).length)) rfl) ?_
        refine TO.nil ?_
        refine T.seq ?_
        refine T.clean (H0 := [bE false (0 + 1) 1 37 ((([] : List (List Int)) ++ ((list.drop (0 : Int).toNat).take (s1.toNat - (0 : Int).toNat))).map (cL cI))]) (e0 := envOf [(6, hS false 0 (0 + 1) 1 ((([] : List (List Int)) ++ ((list.drop (0 : Int).toNat).take (s1.toNat - (0 : Int).toNat))).length)), (5, I s1), (0, eL (cL cI) list), (1, eL cI o_)]) rfl (weak_cons rfl (weak_cons rfl (weak_cons rfl (weak_cons rfl weak_nil)))) ?_
        refine T.region ?_
        refine oN (EvN.mv (hS false 0 (0 + 1) 1 ((([] : List (List Int)) ++ ((list.drop (0 : Int).toNat).take (s1.toNat - (0 : Int).toNat))).length)) rfl) ?_
        refine oN (EvN.mv (eL cI o_) rfl) ?_
        refine oN (EvN.mkF (c := (cL cI)) ([o_] : List (List Int)) [[eL cI o_]] sl62 rfl rfl rfl (fun _ => rfl) (fun _ => rfl) rfl) ?_
        obtain ⟨g17, h⟩ := gdL h
        refine oA (EvA.app1 (g := false) (l := (([] : List (List Int)) ++ ((list.drop (0 : Int).toNat).take (s1.toNat - (0 : Int).toNat)))) o_ sl62 (by kernel_rfl) rfl rfl rfl nofun (SrcOk.fz (l := ([o_] : List (List Int))) rfl (fun _ => rfl)) g17) ?_
        refine oN (EvN.asg (hS false 0 ((0 + 1) + 1) 1 (((([] : List (List Int)) ++ ((list.drop (0 : Int).toNat).take (s1.toNat - (0 : Int).toNat))) ++ [o_]).length)) rfl) ?_
        refine TO.nil ?_
        refine T.seq ?_
        refine T.clean (H0 := [bE false ((0 + 1) + 1) 1 37 (((([] : List (List Int)) ++ ((list.drop (0 : Int).toNat).take (s1.toNat - (0 : Int).toNat))) ++ [o_]).map (cL cI))]) (e0 := envOf [(6, hS false 0 ((0 + 1) + 1) 1 (((([] : List (List Int)) ++ ((list.drop (0 : Int).toNat).take (s1.toNat - (0 : Int).toNat))) ++ [o_]).length)), (5, I s1), (0, eL (cL cI) list)]) rfl (weak_cons rfl (weak_cons rfl (weak_cons rfl weak_nil))) ?_
        refine T.region ?_
        refine oN (EvN.mv (hS false 0 ((0 + 1) + 1) 1 (((([] : List (List Int)) ++ ((list.drop (0 : Int).toNat).take (s1.toNat - (0 : Int).toNat))) ++ [o_]).length)) rfl) ?_
        refine oN (EvN.mv (eL (cL cI) list) rfl) ?_
        refine oN (EvN.mv (I s1) rfl) ?_
        obtain ⟨g18, h⟩ := gdD h
        refine oN (EvN.slL sl62 rfl (.yes rfl) .no g18 (fun _ => rfl)) ?_
        obtain ⟨g19, h⟩ := gdL h
        refine oA (EvA.appF (l := ((([] : List (List Int)) ++ ((list.drop (0 : Int).toNat).take (s1.toNat - (0 : Int).toNat))) ++ [o_])) ((list.drop s1.toNat).take ((list.length : Int).toNat - s1.toNat)) sl62 (by kernel_rfl) rfl rfl rfl (SrcOk.fz (l := ((list.drop s1.toNat).take ((list.length : Int).toNat - s1.toNat))) rfl (fun _ => rfl)) g19) ?_
        refine oN (EvN.asg (hS false 0 (((0 + 1) + 1) + 1) 1 ((((([] : List (List Int)) ++ ((list.drop (0 : Int).toNat).take (s1.toNat - (0 : Int).toNat))) ++ [o_]) ++ ((list.drop s1.toNat).take ((list.length : Int).toNat - s1.toNat))).length)) rfl) ?_
        refine TO.nil ?_
        refine T.ret ?_
        obtain rfl := Option.some.inj h
        repeat first | refine retS ?_ | refine retB ?_
        exact Fin.ret (vs := [hS false 0 (((0 + 1) + 1) + 1) 1 ((((([] : List (List Int)) ++ ((list.drop (0 : Int).toNat).take (s1.toNat - (0 : Int).toNat))) ++ [o_]) ++ ((list.drop s1.toNat).take ((list.length : Int).toNat - s1.toNat))).length)]) (.cons (.tmp rfl) .nil) (Fz.own (g := false) (ver := ((0 + 1) + 1) + 1) (l := (((([] : List (List Int)) ++ ((list.drop (0 : Int).toNat).take (s1.toNat - (0 : Int).toNat))) ++ [o_]) ++ ((list.drop s1.toNat).take ((list.length : Int).toNat - s1.toNat)))) rfl rfl rfl nofun (fun _ => rfl))
  · clear ks1
    refine T.block ?_
    refine T.loop (S := Int) (G := Unit) (F_spec_l3Put_L3 list o_) (fun s2 gh => True) (fun s2 gh => [(5, I s2), (0, eL (cL cI) list), (1, eL cI o_)]) (fun s2 gh => []) (s0 := (0 : Int)) () h trivial (cutW rfl (weak_cons rfl (weak_cons rfl (weak_cons rfl weak_nil)))) (fun s2 gh ws2 h hg => ?_)
    refine T.seq ?_
    refine T.seq ?_
    refine T.region ?_
    refine oN (EvN.mv (I s2) rfl) ?_
    refine oN (EvN.mv (eL (cL cI) list) rfl) ?_
    refine oN (EvN.lenL sl62 rfl) ?_
    refine oN (EvN.ilt rfl rfl) ?_
    refine oN (EvN.mv (Bo (decide (s2 < (list.length : Int)))) rfl) ?_
    obtain ⟨s4, h, ks4⟩ := bindL h
    refine TO.joinF (G := Unit) 8 (fun _ => True) (fun _ => [(19, Bo s4), (5, I s2), (0, eL (cL cI) list), (1, eL cI o_)]) (fun _ => []) ?_ (fun js4 => ?_)
    rotate_left
    · clear ks4
      rcases bifL h with ⟨q5, h⟩ | ⟨q5, h⟩
      · refine gN rfl q5 (EvN.mv (eL (cL cI) list) rfl) ?_
        refine gN rfl q5 (EvN.mv (I s2) rfl) ?_
        obtain ⟨g6, h⟩ := gdD h
        refine gN rfl q5 (EvN.ixL sl62 rfl rfl g6 (fun _ => rfl)) ?_
        refine gN rfl q5 (EvN.loadfp (eL cI (list.getD s2.toNat default)) ty37 rfl rfl) ?_
        refine gN rfl q5 (EvN.mv (eL cI o_) rfl) ?_
        obtain ⟨v7, cv7, h⟩ := bindL h
        refine gN rfl q5 (EvN.call rfl rfl rfl (F_spec_l3Less_P (list.getD s2.toNat default) o_ cv7) rfl) ?_
        refine gN rfl q5 (EvN.ilt rfl rfl) ?_
        refine oN (EvN.pickT rfl q5 (Bo (decide (v7 < (0 : Int)))) rfl) ?_
        obtain rfl := Option.some.inj h
        exact js4 _ _ ⟨(), trivial, cutW rfl (weak_cons rfl (weak_cons rfl (weak_cons rfl (weak_cons rfl weak_nil))))⟩
      · refine gS rfl q5 ?_
        refine gS rfl q5 ?_
        refine gS rfl q5 ?_
        refine gS rfl q5 ?_
        refine gS rfl q5 ?_
        refine gS rfl q5 ?_
        refine gS rfl q5 ?_
        refine oN (EvN.pickF rfl q5 (Bo false) rfl) ?_
        obtain rfl := Option.some.inj h
        exact js4 _ _ ⟨(), trivial, cutW rfl (weak_cons rfl (weak_cons rfl (weak_cons rfl (weak_cons rfl weak_nil))))⟩
    · intro _ _
      replace h := ks4
      clear ks4
      refine TO.nil ?_
      refine T.cond rfl (fun q8 => ?_) (fun q8 => ?_)
      · replace h := condT q8 h
        refine T.skip ?_
        refine T.block ?_
        refine T.region ?_
        refine oN (EvN.mv (I s2) rfl) ?_
        obtain ⟨g9, h⟩ := gdW h
        refine oN (EvN.add rfl rfl g9) ?_
        refine oN (EvN.asg (I (s2 + (1 : Int))) rfl) ?_
        refine TO.nil ?_
        obtain rfl := Option.some.inj h
        exact ⟨(s2 + (1 : Int)), (), rfl, trivial, cutW rfl (weak_cons rfl (weak_cons rfl (weak_cons rfl weak_nil)))⟩
      · replace h := condF q8 h
        refine T.exit ?_
        refine ⟨_, (Option.some.inj h).symm, fun h => ?_⟩
        replace h := congrArg some h
        obtain rfl := Option.some.inj h
        exact ⟨(), trivial, cutW rfl (weak_cons rfl (weak_cons rfl (weak_cons rfl weak_nil)))⟩

theorem F_spec_l3Copy_P (s : Xspec_l3State) {q : Xspec_l3State} (h : F_spec_l3Copy s = some q) : PCall Try.prog 222 [.agg (Xspec_l3State.c s)] (.agg (Xspec_l3State.c q)) := by
  refine PCall.mkT Try.func222 rfl (by kernel_rfl) rfl (by kernel_rfl) (e0 := envOf [(0, .agg (Xspec_l3State.c s))]) (weak_cons rfl weak_nil) ?_
  refine T.seq ?_
  refine T.region ?_
  refine oN (EvN.bxF [eL cI s.at_, eL cI s.regs, eL cI s.mem, eL (cL cI) s.buf] rfl rfl rfl) ?_
  refine oA (EvA.al zs184 rfl rfl) ?_
  refine TO.nil ?_
  refine T.seq ?_
  refine T.reserve ?_
  refine T.reserve ?_
  refine T.reserve ?_
  refine T.reserve ?_
  refine T.drawF (fun i => [([1], true), ([], false), ([], false), ([1], true), ([2], true), ([], false), ([], false), ([2], true), ([3], true), ([], false), ([], false), ([3], true), ([], false), ([4], true), ([4], true)].getD i ([], false)) (by kernel_rfl) (by kernel_rfl) ?_
  refine fW 1 [] rfl rfl (fun G hG => EvA.mkOR (c := cI) 1 ([] : List Int) [] sl37 rfl rfl rfl (fun _ => rfl) (fun _ => rfl) rfl (hG.a0 rfl)) ?_
  refine fN rfl (EvN.fafp Try.underlying184 rfl (by kernel_rfl) rfl) ?_
  refine fN rfl (EvN.loadfp (eL cI s.at_) ty37 rfl rfl) ?_
  obtain ⟨g1, h⟩ := gdL h
  refine fW 1 [] rfl rfl (fun G hG => EvA.appF (l := ([] : List Int)) s.at_ sl37 (by kernel_rfl) rfl rfl (hG.a0 rfl) (SrcOk.fz (l := s.at_) rfl (fun _ => rfl)) g1) ?_
  refine fW 2 [] rfl rfl (fun G hG => EvA.mkOR (c := cI) 2 ([] : List Int) [] sl37 rfl rfl rfl (fun _ => rfl) (fun _ => rfl) rfl (hG.a0 rfl)) ?_
  refine fN rfl (EvN.fafp Try.underlying184 rfl (by kernel_rfl) rfl) ?_
  refine fN rfl (EvN.loadfp (eL cI s.regs) ty37 rfl rfl) ?_
  obtain ⟨g2, h⟩ := gdL h
  refine fW 2 [] rfl rfl (fun G hG => EvA.appF (l := ([] : List Int)) s.regs sl37 (by kernel_rfl) rfl rfl (hG.a0 rfl) (SrcOk.fz (l := s.regs) rfl (fun _ => rfl)) g2) ?_
  refine fW 3 [] rfl rfl (fun G hG => EvA.mkOR (c := cI) 3 ([] : List Int) [] sl37 rfl rfl rfl (fun _ => rfl) (fun _ => rfl) rfl (hG.a0 rfl)) ?_
  refine fN rfl (EvN.fafp Try.underlying184 rfl (by kernel_rfl) rfl) ?_
  refine fN rfl (EvN.loadfp (eL cI s.mem) ty37 rfl rfl) ?_
  obtain ⟨g3, h⟩ := gdL h
  refine fW 3 [] rfl rfl (fun G hG => EvA.appF (l := ([] : List Int)) s.mem sl37 (by kernel_rfl) rfl rfl (hG.a0 rfl) (SrcOk.fz (l := s.mem) rfl (fun _ => rfl)) g3) ?_
  refine fN rfl (EvN.build [hS false 1 (0 + 1) 1 ((([] : List Int) ++ s.at_).length), hS false 2 (0 + 1) 1 ((([] : List Int) ++ s.regs).length), hS false 3 (0 + 1) 1 ((([] : List Int) ++ s.mem).length), .nil] Try.underlying184 zs184 fs184 rfl rfl) ?_
  refine fW 4 [] rfl rfl (fun G hG => EvA.alR 4 zs184 rfl rfl (hG.a0 rfl)) ?_
  refine fV 4 [] rfl rfl (fun G hG => EvA.st (cs := [hS false 1 (0 + 1) 1 ((([] : List Int) ++ s.at_).length), hS false 2 (0 + 1) 1 ((([] : List Int) ++ s.regs).length), hS false 3 (0 + 1) 1 ((([] : List Int) ++ s.mem).length), .nil]) ⟨0, 4, 184, [[hS false 1 (0 + 1) 1 ((([] : List Int) ++ s.at_).length), hS false 2 (0 + 1) 1 ((([] : List Int) ++ s.regs).length), hS false 3 (0 + 1) 1 ((([] : List Int) ++ s.mem).length), .nil]]⟩ ty184 rfl rfl (hG.a0 rfl) rfl rfl rfl rfl rfl rfl) ?_
  refine TF.nil ?_
  obtain ⟨s4, h, ks4⟩ := bindL h
  refine T.joinF (G := Unit) (fun gh => True) (fun gh => [(3, .hp 4 0 4 0 0), (2, .hp 0 0 4 0 0)]) (fun gh => [some ⟨0, 4, 184, [[.nil, .nil, .nil, .nil]]⟩, bE false (0 + 1) 1 3 ((([] : List Int) ++ s.at_).map cI), bE false (0 + 1) 1 3 ((([] : List Int) ++ s.regs).map cI), bE false (0 + 1) 1 3 ((([] : List Int) ++ s.mem).map cI), some ⟨0, 4, 184, [[hS false 1 (0 + 1) 1 ((([] : List Int) ++ s.at_).length), hS false 2 (0 + 1) 1 ((([] : List Int) ++ s.regs).length), hS false 3 (0 + 1) 1 ((([] : List Int) ++ s.mem).length), .nil]]⟩]) (fun gh hg => ?_) ?_
  · clear h
    have h := ks4
    clear ks4
    refine T.seq ?_
    refine T.region ?_
    refine oA (EvA.loadhp (.agg [hS false 1 (0 + 1) 1 ((([] : List Int) ++ s.at_).length), hS false 2 (0 + 1) 1 ((([] : List Int) ++ s.regs).length), hS false 3 (0 + 1) 1 ((([] : List Int) ++ s.mem).length), .nil]) ty184 rfl rfl rfl rfl rfl rfl) ?_
    refine oV (EvA.st (cs := [hS false 1 (0 + 1) 1 ((([] : List Int) ++ s.at_).length), hS false 2 (0 + 1) 1 ((([] : List Int) ++ s.regs).length), hS false 3 (0 + 1) 1 ((([] : List Int) ++ s.mem).length), .nil]) ⟨0, 4, 184, [[hS false 1 (0 + 1) 1 ((([] : List Int) ++ s.at_).length), hS false 2 (0 + 1) 1 ((([] : List Int) ++ s.regs).length), hS false 3 (0 + 1) 1 ((([] : List Int) ++ s.mem).length), .nil]]⟩ ty184 rfl rfl rfl rfl rfl rfl rfl rfl rfl) ?_
    refine TO.nil ?_
    refine T.ret ?_
    obtain rfl := Option.some.inj h
    repeat first | refine retS ?_ | refine retB ?_
    exact Fin.ret (vs := [.agg [hS false 1 (0 + 1) 1 ((([] : List Int) ++ s.at_).length), hS false 2 (0 + 1) 1 ((([] : List Int) ++ s.regs).length), hS false 3 (0 + 1) 1 ((([] : List Int) ++ s.mem).length), .nil]]) (.cons (.cell (.agg [hS false 1 (0 + 1) 1 ((([] : List Int) ++ s.at_).length), hS false 2 (0 + 1) 1 ((([] : List Int) ++ s.regs).length), hS false 3 (0 + 1) 1 ((([] : List Int) ++ s.mem).length), .nil]) ty184 rfl rfl rfl rfl rfl rfl) .nil) (Fz.aggL (.cons (Fz.own (g := false) (ver := 0 + 1) (l := (([] : List Int) ++ s.at_)) rfl rfl rfl nofun (fun _ => rfl)) (.cons (Fz.own (g := false) (ver := 0 + 1) (l := (([] : List Int) ++ s.regs)) rfl rfl rfl nofun (fun _ => rfl)) (.cons (Fz.own (g := false) (ver := 0 + 1) (l := (([] : List Int) ++ s.mem)) rfl rfl rfl nofun (fun _ => rfl)) (.cons (.nil0) .nil)))))
  · clear ks4
    refine T.seq ?_
    refine T.clean (H0 := [some ⟨0, 4, 184, [[.nil, .nil, .nil, .nil]]⟩, bE false (0 + 1) 1 3 ((([] : List Int) ++ s.at_).map cI), bE false (0 + 1) 1 3 ((([] : List Int) ++ s.regs).map cI), bE false (0 + 1) 1 3 ((([] : List Int) ++ s.mem).map cI), some ⟨0, 4, 184, [[hS false 1 (0 + 1) 1 ((([] : List Int) ++ s.at_).length), hS false 2 (0 + 1) 1 ((([] : List Int) ++ s.regs).length), hS false 3 (0 + 1) 1 ((([] : List Int) ++ s.mem).length), .nil]]⟩]) (e0 := envOf [(3, .hp 4 0 4 0 0), (2, .hp 0 0 4 0 0), (1, .fp (Xspec_l3State.c s) 0)]) rfl (weak_cons rfl (weak_cons rfl (weak_cons rfl weak_nil))) ?_
    refine T.region ?_
    refine oN (EvN.asg (I (0 : Int)) rfl) ?_
    refine TO.nil ?_
    refine T.block ?_
    refine T.loop (S := Unit) (G := Unit) (F_spec_l3Copy_L6 s) (fun s5 gh => True) (fun s5 gh => [(4, I (0 : Int)), (3, .hp 4 0 4 0 0), (2, .hp 0 0 4 0 0), (1, .fp (Xspec_l3State.c s) 0)]) (fun s5 gh => [some ⟨0, 4, 184, [[.nil, .nil, .nil, .nil]]⟩, bE false (0 + 1) 1 3 ((([] : List Int) ++ s.at_).map cI), bE false (0 + 1) 1 3 ((([] : List Int) ++ s.regs).map cI), bE false (0 + 1) 1 3 ((([] : List Int) ++ s.mem).map cI), some ⟨0, 4, 184, [[hS false 1 (0 + 1) 1 ((([] : List Int) ++ s.at_).length), hS false 2 (0 + 1) 1 ((([] : List Int) ++ s.regs).length), hS false 3 (0 + 1) 1 ((([] : List Int) ++ s.mem).length), .nil]]⟩]) (s0 := ()) () h trivial (cutW rfl (weak_cons rfl (weak_cons rfl (weak_cons rfl (weak_cons rfl weak_nil))))) (fun s5 gh ws5 h hg => ?_)
    refine T.seq ?_
    refine T.seq ?_
    refine T.region ?_
    refine oN (EvN.mv (I (0 : Int)) rfl) ?_
    refine oN (EvN.fafp Try.underlying184 rfl (by kernel_rfl) rfl) ?_
    refine oN (EvN.loadfp (eL (cL cI) s.buf) ty62 rfl rfl) ?_
    refine oN (EvN.lenL sl62 rfl) ?_
    refine oN (EvN.ilt rfl rfl) ?_
    refine TO.nil ?_
    refine T.cond rfl (fun q7 => ?_) (fun q7 => ?_)
    · replace h := condT q7 h
      cases h
    · replace h := condF q7 h
      refine T.exit ?_
      refine ⟨_, (Option.some.inj h).symm, fun h => ?_⟩
      replace h := congrArg some h
      obtain rfl := Option.some.inj h
      exact ⟨(), trivial, cutW rfl (weak_cons rfl (weak_cons rfl weak_nil))⟩

theorem F_spec_l3Copy_OS (s : Xspec_l3State) {q : Xspec_l3State} (h : F_spec_l3Copy s = some q) : ACall Try.prog 222 [.agg (Xspec_l3State.c s)] [] (.agg [hS false 0 (0 + 1) 1 q.at_.length, hS false 1 (0 + 1) 1 q.regs.length, hS false 2 (0 + 1) 1 q.mem.length, .nil]) [bE false (0 + 1) 1 3 (q.at_.map cI), bE false (0 + 1) 1 3 (q.regs.map cI), bE false (0 + 1) 1 3 (q.mem.map cI)] := by
  refine ACall.mkOS Try.func222 rfl (by kernel_rfl) rfl (by kernel_rfl) (e0 := envOf [(0, .agg (Xspec_l3State.c s))]) (weak_cons rfl weak_nil) ?_
  refine T.seq ?_
  refine T.region ?_
  refine oN (EvN.bxF [eL cI s.at_, eL cI s.regs, eL cI s.mem, eL (cL cI) s.buf] rfl rfl rfl) ?_
  refine oA (EvA.al zs184 rfl rfl) ?_
  refine TO.nil ?_
  refine T.seq ?_
  refine T.reserve ?_
  refine T.reserve ?_
  refine T.reserve ?_
  refine T.reserve ?_
  refine T.drawF (fun i => [([1], true), ([], false), ([], false), ([1], true), ([2], true), ([], false), ([], false), ([2], true), ([3], true), ([], false), ([], false), ([3], true), ([], false), ([4], true), ([4], true)].getD i ([], false)) (by kernel_rfl) (by kernel_rfl) ?_
  refine fW 1 [] rfl rfl (fun G hG => EvA.mkOR (c := cI) 1 ([] : List Int) [] sl37 rfl rfl rfl (fun _ => rfl) (fun _ => rfl) rfl (hG.a0 rfl)) ?_
  refine fN rfl (EvN.fafp Try.underlying184 rfl (by kernel_rfl) rfl) ?_
  refine fN rfl (EvN.loadfp (eL cI s.at_) ty37 rfl rfl) ?_
  obtain ⟨g1, h⟩ := gdL h
  refine fW 1 [] rfl rfl (fun G hG => EvA.appF (l := ([] : List Int)) s.at_ sl37 (by kernel_rfl) rfl rfl (hG.a0 rfl) (SrcOk.fz (l := s.at_) rfl (fun _ => rfl)) g1) ?_
  refine fW 2 [] rfl rfl (fun G hG => EvA.mkOR (c := cI) 2 ([] : List Int) [] sl37 rfl rfl rfl (fun _ => rfl) (fun _ => rfl) rfl (hG.a0 rfl)) ?_
  refine fN rfl (EvN.fafp Try.underlying184 rfl (by kernel_rfl) rfl) ?_
  refine fN rfl (EvN.loadfp (eL cI s.regs) ty37 rfl rfl) ?_
  obtain ⟨g2, h⟩ := gdL h
  refine fW 2 [] rfl rfl (fun G hG => EvA.appF (l := ([] : List Int)) s.regs sl37 (by kernel_rfl) rfl rfl (hG.a0 rfl) (SrcOk.fz (l := s.regs) rfl (fun _ => rfl)) g2) ?_
  refine fW 3 [] rfl rfl (fun G hG => EvA.mkOR (c := cI) 3 ([] : List Int) [] sl37 rfl rfl rfl (fun _ => rfl) (fun _ => rfl) rfl (hG.a0 rfl)) ?_
  refine fN rfl (EvN.fafp Try.underlying184 rfl (by kernel_rfl) rfl) ?_
  refine fN rfl (EvN.loadfp (eL cI s.mem) ty37 rfl rfl) ?_
  obtain ⟨g3, h⟩ := gdL h
  refine fW 3 [] rfl rfl (fun G hG => EvA.appF (l := ([] : List Int)) s.mem sl37 (by kernel_rfl) rfl rfl (hG.a0 rfl) (SrcOk.fz (l := s.mem) rfl (fun _ => rfl)) g3) ?_
  refine fN rfl (EvN.build [hS false 1 (0 + 1) 1 ((([] : List Int) ++ s.at_).length), hS false 2 (0 + 1) 1 ((([] : List Int) ++ s.regs).length), hS false 3 (0 + 1) 1 ((([] : List Int) ++ s.mem).length), .nil] Try.underlying184 zs184 fs184 rfl rfl) ?_
  refine fW 4 [] rfl rfl (fun G hG => EvA.alR 4 zs184 rfl rfl (hG.a0 rfl)) ?_
  refine fV 4 [] rfl rfl (fun G hG => EvA.st (cs := [hS false 1 (0 + 1) 1 ((([] : List Int) ++ s.at_).length), hS false 2 (0 + 1) 1 ((([] : List Int) ++ s.regs).length), hS false 3 (0 + 1) 1 ((([] : List Int) ++ s.mem).length), .nil]) ⟨0, 4, 184, [[hS false 1 (0 + 1) 1 ((([] : List Int) ++ s.at_).length), hS false 2 (0 + 1) 1 ((([] : List Int) ++ s.regs).length), hS false 3 (0 + 1) 1 ((([] : List Int) ++ s.mem).length), .nil]]⟩ ty184 rfl rfl (hG.a0 rfl) rfl rfl rfl rfl rfl rfl) ?_
  refine TF.nil ?_
  obtain ⟨s4, h, ks4⟩ := bindL h
  refine T.joinF (G := Unit) (fun gh => True) (fun gh => [(3, .hp 4 0 4 0 0), (2, .hp 0 0 4 0 0)]) (fun gh => [some ⟨0, 4, 184, [[.nil, .nil, .nil, .nil]]⟩, bE false (0 + 1) 1 3 ((([] : List Int) ++ s.at_).map cI), bE false (0 + 1) 1 3 ((([] : List Int) ++ s.regs).map cI), bE false (0 + 1) 1 3 ((([] : List Int) ++ s.mem).map cI), some ⟨0, 4, 184, [[hS false 1 (0 + 1) 1 ((([] : List Int) ++ s.at_).length), hS false 2 (0 + 1) 1 ((([] : List Int) ++ s.regs).length), hS false 3 (0 + 1) 1 ((([] : List Int) ++ s.mem).length), .nil]]⟩]) (fun gh hg => ?_) ?_
  · clear h
    have h := ks4
    clear ks4
    refine T.seq ?_
    refine T.region ?_
    refine oA (EvA.loadhp (.agg [hS false 1 (0 + 1) 1 ((([] : List Int) ++ s.at_).length), hS false 2 (0 + 1) 1 ((([] : List Int) ++ s.regs).length), hS false 3 (0 + 1) 1 ((([] : List Int) ++ s.mem).length), .nil]) ty184 rfl rfl rfl rfl rfl rfl) ?_
    refine oV (EvA.st (cs := [hS false 1 (0 + 1) 1 ((([] : List Int) ++ s.at_).length), hS false 2 (0 + 1) 1 ((([] : List Int) ++ s.regs).length), hS false 3 (0 + 1) 1 ((([] : List Int) ++ s.mem).length), .nil]) ⟨0, 4, 184, [[hS false 1 (0 + 1) 1 ((([] : List Int) ++ s.at_).length), hS false 2 (0 + 1) 1 ((([] : List Int) ++ s.regs).length), hS false 3 (0 + 1) 1 ((([] : List Int) ++ s.mem).length), .nil]]⟩ ty184 rfl rfl rfl rfl rfl rfl rfl rfl rfl) ?_
    refine TO.nil ?_
    refine T.ret ?_
    obtain rfl := Option.some.inj h
    repeat first | refine retS ?_ | refine retB ?_
    exact Fin.ret (vs := [.agg [hS false 1 (0 + 1) 1 ((([] : List Int) ++ s.at_).length), hS false 2 (0 + 1) 1 ((([] : List Int) ++ s.regs).length), hS false 3 (0 + 1) 1 ((([] : List Int) ++ s.mem).length), .nil]]) (.cons (.cell (.agg [hS false 1 (0 + 1) 1 ((([] : List Int) ++ s.at_).length), hS false 2 (0 + 1) 1 ((([] : List Int) ++ s.regs).length), hS false 3 (0 + 1) 1 ((([] : List Int) ++ s.mem).length), .nil]) ty184 rfl rfl rfl rfl rfl rfl) .nil) ⟨[1, 2, 3], OSQ.mk (by decide) (.cons rfl (rowsF_list (fun _ => rfl)) (.cons rfl (rowsF_list (fun _ => rfl)) (.cons rfl (rowsF_list (fun _ => rfl)) .nil))) (Ren.aggL (.cons (ren_pl rfl) (.cons (ren_pl rfl) (.cons (ren_pl rfl) (.cons (.pF rfl) .nil)))))⟩
  · clear ks4
    refine T.seq ?_
    refine T.clean (H0 := [some ⟨0, 4, 184, [[.nil, .nil, .nil, .nil]]⟩, bE false (0 + 1) 1 3 ((([] : List Int) ++ s.at_).map cI), bE false (0 + 1) 1 3 ((([] : List Int) ++ s.regs).map cI), bE false (0 + 1) 1 3 ((([] : List Int) ++ s.mem).map cI), some ⟨0, 4, 184, [[hS false 1 (0 + 1) 1 ((([] : List Int) ++ s.at_).length), hS false 2 (0 + 1) 1 ((([] : List Int) ++ s.regs).length), hS false 3 (0 + 1) 1 ((([] : List Int) ++ s.mem).length), .nil]]⟩]) (e0 := envOf [(3, .hp 4 0 4 0 0), (2, .hp 0 0 4 0 0), (1, .fp (Xspec_l3State.c s) 0)]) rfl (weak_cons rfl (weak_cons rfl (weak_cons rfl weak_nil))) ?_
    refine T.region ?_
    refine oN (EvN.asg (I (0 : Int)) rfl) ?_
    refine TO.nil ?_
    refine T.block ?_
    refine T.loop (S := Unit) (G := Unit) (F_spec_l3Copy_L6 s) (fun s5 gh => True) (fun s5 gh => [(4, I (0 : Int)), (3, .hp 4 0 4 0 0), (2, .hp 0 0 4 0 0), (1, .fp (Xspec_l3State.c s) 0)]) (fun s5 gh => [some ⟨0, 4, 184, [[.nil, .nil, .nil, .nil]]⟩, bE false (0 + 1) 1 3 ((([] : List Int) ++ s.at_).map cI), bE false (0 + 1) 1 3 ((([] : List Int) ++ s.regs).map cI), bE false (0 + 1) 1 3 ((([] : List Int) ++ s.mem).map cI), some ⟨0, 4, 184, [[hS false 1 (0 + 1) 1 ((([] : List Int) ++ s.at_).length), hS false 2 (0 + 1) 1 ((([] : List Int) ++ s.regs).length), hS false 3 (0 + 1) 1 ((([] : List Int) ++ s.mem).length), .nil]]⟩]) (s0 := ()) () h trivial (cutW rfl (weak_cons rfl (weak_cons rfl (weak_cons rfl (weak_cons rfl weak_nil))))) (fun s5 gh ws5 h hg => ?_)
    refine T.seq ?_
    refine T.seq ?_
    refine T.region ?_
    refine oN (EvN.mv (I (0 : Int)) rfl) ?_
    refine oN (EvN.fafp Try.underlying184 rfl (by kernel_rfl) rfl) ?_
    refine oN (EvN.loadfp (eL (cL cI) s.buf) ty62 rfl rfl) ?_
    refine oN (EvN.lenL sl62 rfl) ?_
    refine oN (EvN.ilt rfl rfl) ?_
    refine TO.nil ?_
    refine T.cond rfl (fun q7 => ?_) (fun q7 => ?_)
    · replace h := condT q7 h
      cases h
    · replace h := condF q7 h
      refine T.exit ?_
      refine ⟨_, (Option.some.inj h).symm, fun h => ?_⟩
      replace h := congrArg some h
      obtain rfl := Option.some.inj h
      exact ⟨(), trivial, cutW rfl (weak_cons rfl (weak_cons rfl weak_nil))⟩

theorem F_spec_l3Reg_P (t : Int) (reg : Int) {q : Int} (h : F_spec_l3Reg t reg = some q) : PCall Try.prog 89 [I t, I reg] (I q) := by
  refine PCall.mkT Try.func89 rfl (by kernel_rfl) rfl (by kernel_rfl) (e0 := envOf [(0, I t), (1, I reg)]) (weak_cons rfl (weak_cons rfl weak_nil)) ?_
  refine T.seq ?_
  refine T.region ?_
  refine oN (EvN.asg (I (0 : Int)) rfl) ?_
  refine TO.nil ?_
  refine T.seq ?_
  refine T.region ?_
  refine oN (EvN.mv (I t) rfl) ?_
  obtain ⟨g1, h⟩ := gdW h
  refine oN (EvN.mul rfl rfl g1) ?_
  refine oN (EvN.mv (I reg) rfl) ?_
  obtain ⟨g2, h⟩ := gdW h
  refine oN (EvN.add rfl rfl g2) ?_
  refine oN (EvN.asg (I ((t * (3 : Int)) + reg)) rfl) ?_
  refine TO.nil ?_
  refine T.ret ?_
  obtain rfl := Option.some.inj h
  repeat first | refine retS ?_ | refine retB ?_
  exact Fin.ret (vs := [I ((t * (3 : Int)) + reg)]) (.cons (.tmp rfl) .nil) (.of_isF 9 _ rfl)

theorem F_spec_l3Value_P (s : Xspec_l3State) (t : Int) (x : Ximpl_Instr) {q : Int} (h : F_spec_l3Value s t x = some q) : PCall Try.prog 223 [.agg (Xspec_l3State.c s), I t, .agg (Ximpl_Instr.c x)] (I q) := by
  refine PCall.mkT Try.func223 rfl (by kernel_rfl) rfl (by kernel_rfl) (e0 := envOf [(0, .agg (Xspec_l3State.c s)), (1, I t), (2, .agg (Ximpl_Instr.c x))]) (weak_cons rfl (weak_cons rfl (weak_cons rfl weak_nil))) ?_
  refine T.seq ?_
  refine T.region ?_
  refine oN (EvN.bxF [eL cI s.at_, eL cI s.regs, eL cI s.mem, eL (cL cI) s.buf] rfl rfl rfl) ?_
  refine oN (EvN.bxF [I x.Op, I x.Loc, I x.Reg, I x.Val] rfl rfl rfl) ?_
  refine oN (EvN.asg (I (0 : Int)) rfl) ?_
  refine TO.nil ?_
  refine T.seq ?_
  refine T.seq ?_
  refine T.region ?_
  refine oN (EvN.fafp Try.underlying81 rfl (by kernel_rfl) rfl) ?_
  refine oN (EvN.loadfp (I x.Op) ty3 rfl rfl) ?_
  refine oN (EvN.ieq rfl rfl) ?_
  refine TO.nil ?_
  refine T.cond rfl (fun q1 => ?_) (fun q1 => ?_)
  · replace h := condT q1 h
    refine T.seq ?_
    refine T.clean (H0 := []) (e0 := envOf [(5, .fp (Ximpl_Instr.c x) 0), (3, .fp (Xspec_l3State.c s) 0), (1, I t)]) rfl (weak_cons rfl (weak_cons rfl (weak_cons rfl weak_nil))) ?_
    refine T.drawF (fun _ => ([], false)) (by kernel_rfl) (by kernel_rfl) ?_
    refine fN rfl (EvN.fafp Try.underlying184 rfl (by kernel_rfl) rfl) ?_
    refine fN rfl (EvN.loadfp (eL cI s.regs) ty37 rfl rfl) ?_
    refine fN rfl (EvN.mv (I t) rfl) ?_
    refine fN rfl (EvN.fafp Try.underlying81 rfl (by kernel_rfl) rfl) ?_
    refine fN rfl (EvN.loadfp (I x.Reg) ty3 rfl rfl) ?_
    obtain ⟨v2, cv2, h⟩ := bindL h
    refine fN rfl (EvN.call rfl rfl rfl (F_spec_l3Reg_P t x.Reg cv2) rfl) ?_
    obtain ⟨g3, h⟩ := gdD h
    refine fN rfl (EvN.ixL sl37 rfl rfl g3 (fun _ => rfl)) ?_
    refine fN rfl (EvN.loadfp (I (s.regs.getD v2.toNat default)) ty3 rfl rfl) ?_
    refine fN rfl (EvN.asg (I (s.regs.getD v2.toNat default)) rfl) ?_
    refine TF.nil ?_
    refine T.ret ?_
    obtain rfl := Option.some.inj h
    repeat first | refine retS ?_ | refine retB ?_
    exact Fin.ret (vs := [I (s.regs.getD v2.toNat default)]) (.cons (.tmp rfl) .nil) (.of_isF 9 _ rfl)
  · replace h := condF q1 h
    refine T.skip ?_
    refine T.seq ?_
    refine T.clean (H0 := []) (e0 := envOf [(5, .fp (Ximpl_Instr.c x) 0)]) rfl (weak_cons rfl weak_nil) ?_
    refine T.region ?_
    refine oN (EvN.fafp Try.underlying81 rfl (by kernel_rfl) rfl) ?_
    refine oN (EvN.loadfp (I x.Val) ty3 rfl rfl) ?_
    refine oN (EvN.asg (I x.Val) rfl) ?_
    refine TO.nil ?_
    refine T.ret ?_
    obtain rfl := Option.some.inj h
    repeat first | refine retS ?_ | refine retB ?_
    exact Fin.ret (vs := [I x.Val]) (.cons (.tmp rfl) .nil) (.of_isF 9 _ rfl)

theorem F_spec_l3Do_P (p : List (List Ximpl_Instr)) (s : Xspec_l3State) (t : Int) {q : Xspec_l3State} (h : F_spec_l3Do p s t = some q) : PCall Try.prog 191 [eL (cL Ximpl_Instr.c) p, .agg (Xspec_l3State.c s), I t] (.agg (Xspec_l3State.c q)) := by
  refine PCall.mkT Try.func191 rfl (by kernel_rfl) rfl (by kernel_rfl) (e0 := envOf [(0, eL (cL Ximpl_Instr.c) p), (1, .agg (Xspec_l3State.c s)), (2, I t)]) (weak_cons rfl (weak_cons rfl (weak_cons rfl weak_nil))) ?_
  refine T.seq ?_
  refine T.region ?_
  refine oN (EvN.bxF [eL cI s.at_, eL cI s.regs, eL cI s.mem, eL (cL cI) s.buf] rfl rfl rfl) ?_
  refine oA (EvA.al zs184 rfl rfl) ?_
  refine TO.nil ?_
  refine T.seq ?_
  refine T.region ?_
  refine oN (EvN.loadfp (.agg (Xspec_l3State.c s)) ty184 rfl rfl) ?_
  obtain ⟨v1, cv1, h⟩ := bindL h
  refine oA (EvA.call rfl rfl rfl ((F_spec_l3Copy_OS s cv1).freshL rfl (RowsF.spec (.cons (rowsF_list (fun _ => rfl)) (.cons (rowsF_list (fun _ => rfl)) (.cons (rowsF_list (fun _ => rfl)) .nil)))) 1 rfl (Ren.aggL (.cons (ren_sh rfl) (.cons (ren_sh rfl) (.cons (ren_sh rfl) (.cons (.pF rfl) .nil))))))) ?_
  refine oA (EvA.al zs184 rfl rfl) ?_
  refine oV (EvA.st (cs := [hS false 1 (0 + 1) 1 v1.at_.length, hS false 2 (0 + 1) 1 v1.regs.length, hS false 3 (0 + 1) 1 v1.mem.length, .nil]) ⟨0, 4, 184, [[hS false 1 (0 + 1) 1 v1.at_.length, hS false 2 (0 + 1) 1 v1.regs.length, hS false 3 (0 + 1) 1 v1.mem.length, .nil]]⟩ ty184 rfl rfl rfl rfl rfl rfl rfl rfl rfl) ?_
  refine TO.nil ?_
  refine T.seq ?_
  refine T.reserve ?_
  refine T.drawF (fun i => [([], false), ([], false), ([], false), ([], false), ([], false), ([], false), ([], false), ([], false), ([], false), ([], false), ([], false), ([5], true), ([5], true)].getD i ([], false)) (by kernel_rfl) (by kernel_rfl) ?_
  refine fN rfl (EvN.mv (eL (cL Ximpl_Instr.c) p) rfl) ?_
  refine fN rfl (EvN.mv (I t) rfl) ?_
  obtain ⟨g2, h⟩ := gdD h
  refine fN rfl (EvN.ixL sl23 rfl rfl g2 (fun _ => rfl)) ?_
  refine fN rfl (EvN.loadfp (eL Ximpl_Instr.c (p.getD t.toNat default)) ty78 rfl rfl) ?_
  refine fN rfl (EvN.fafp Try.underlying184 rfl (by kernel_rfl) rfl) ?_
  refine fN rfl (EvN.loadfp (eL cI s.at_) ty37 rfl rfl) ?_
  refine fN rfl (EvN.mv (I t) rfl) ?_
  obtain ⟨g3, h⟩ := gdD h
  refine fN rfl (EvN.ixL sl37 rfl rfl g3 (fun _ => rfl)) ?_
  refine fN rfl (EvN.loadfp (I (s.at_.getD t.toNat default)) ty3 rfl rfl) ?_
  obtain ⟨g4, h⟩ := gdD h
  refine fN rfl (EvN.ixL sl78 rfl rfl g4 (fun _ => rfl)) ?_
  refine fN rfl (EvN.loadfp (.agg (Ximpl_Instr.c ((p.getD t.toNat default).getD (s.at_.getD t.toNat default).toNat default))) ty81 rfl rfl) ?_
  refine fW 5 [] rfl rfl (fun G hG => EvA.alR 5 zs81 rfl rfl (hG.a0 rfl)) ?_
  refine fV 5 [] rfl rfl (fun G hG => EvA.st (cs := [I (((p.getD t.toNat default).getD (s.at_.getD t.toNat default).toNat default).Op), I (((p.getD t.toNat default).getD (s.at_.getD t.toNat default).toNat default).Loc), I (((p.getD t.toNat default).getD (s.at_.getD t.toNat default).toNat default).Reg), I (((p.getD t.toNat default).getD (s.at_.getD t.toNat default).toNat default).Val)]) ⟨0, 4, 81, [[I (((p.getD t.toNat default).getD (s.at_.getD t.toNat default).toNat default).Op), I (((p.getD t.toNat default).getD (s.at_.getD t.toNat default).toNat default).Loc), I (((p.getD t.toNat default).getD (s.at_.getD t.toNat default).toNat default).Reg), I (((p.getD t.toNat default).getD (s.at_.getD t.toNat default).toNat default).Val)]]⟩ ty81 rfl rfl (hG.a0 rfl) rfl rfl rfl rfl rfl rfl) ?_
  refine TF.nil ?_
  refine T.seq ?_
  refine T.clean (H0 := [some ⟨0, 4, 184, [[.nil, .nil, .nil, .nil]]⟩, bE false (0 + 1) 1 3 (v1.at_.map cI), bE false (0 + 1) 1 3 (v1.regs.map cI), bE false (0 + 1) 1 3 (v1.mem.map cI), some ⟨0, 4, 184, [[hS false 1 (0 + 1) 1 v1.at_.length, hS false 2 (0 + 1) 1 v1.regs.length, hS false 3 (0 + 1) 1 v1.mem.length, .nil]]⟩, some ⟨0, 4, 81, [[I (((p.getD t.toNat default).getD (s.at_.getD t.toNat default).toNat default).Op), I (((p.getD t.toNat default).getD (s.at_.getD t.toNat default).toNat default).Loc), I (((p.getD t.toNat default).getD (s.at_.getD t.toNat default).toNat default).Reg), I (((p.getD t.toNat default).getD (s.at_.getD t.toNat default).toNat default).Val)]]⟩]) (e0 := envOf [(8, .hp 5 0 4 0 0), (7, .hp 4 0 4 0 0), (6, .hp 0 0 4 0 0), (4, .fp (Xspec_l3State.c s) 0), (2, I t)]) rfl (weak_cons rfl (weak_cons rfl (weak_cons rfl (weak_cons rfl (weak_cons rfl weak_nil))))) ?_
  refine T.drawF (fun i => [([], false), ([4], false), ([], false), ([], false), ([], false), ([], false), ([], false), ([], false), ([], false), ([], false), ([1], true)].getD i ([], false)) (by kernel_rfl) (by kernel_rfl) ?_
  refine fN rfl (EvN.fahp Try.underlying184 rfl (by kernel_rfl) rfl) ?_
  refine fR [4] rfl (fun G hG => EvA.loadhp (hS false 1 (0 + 1) 1 v1.at_.length) ty37 rfl (hG.a0 rfl) rfl rfl rfl rfl) ?_
  refine fN rfl (EvN.mv (I t) rfl) ?_
  refine fN rfl (EvN.fafp Try.underlying184 rfl (by kernel_rfl) rfl) ?_
  refine fN rfl (EvN.loadfp (eL cI s.at_) ty37 rfl rfl) ?_
  refine fN rfl (EvN.mv (I t) rfl) ?_
  refine fN rfl (EvN.ixL sl37 rfl rfl g3 (fun _ => rfl)) ?_
  refine fN rfl (EvN.loadfp (I (s.at_.getD t.toNat default)) ty3 rfl rfl) ?_
  obtain ⟨g5, h⟩ := gdW h
  refine fN rfl (EvN.add rfl rfl g5) ?_
  obtain ⟨g6, h⟩ := gdD h
  refine fN rfl (EvN.ixO (g := false) sl37 rfl rfl nofun g6) ?_
  refine fV 1 [] rfl rfl (fun G hG => EvA.stO (g := false) (l := v1.at_) (cs := [I ((s.at_.getD t.toNat default) + (1 : Int))]) ((s.at_.getD t.toNat default) + (1 : Int)) ty3 rfl rfl (hG.a0 rfl) nofun (toNat_lt' rfl g6) rfl rfl rfl) ?_
  refine TF.nil ?_
  obtain ⟨s7, h, ks7⟩ := bindL h
  refine T.joinF (G := Nat) (fun gh => True) (fun gh => [(8, .hp 5 0 4 0 0), (7, .hp 4 0 4 0 0), (6, .hp 0 0 4 0 0), (4, .fp (Xspec_l3State.c s) 0), (2, I t)]) (fun gh => [some ⟨0, 4, 184, [[.nil, .nil, .nil, .nil]]⟩, bE false (0 + 1) 1 3 ((v1.at_.set t.toNat ((s.at_.getD t.toNat default) + (1 : Int))).map cI), bE false gh 1 3 (s7.map cI), bE false (0 + 1) 1 3 (v1.mem.map cI), some ⟨0, 4, 184, [[hS false 1 (0 + 1) 1 ((v1.at_.set t.toNat ((s.at_.getD t.toNat default) + (1 : Int))).length), hS false 2 gh 1 s7.length, hS false 3 (0 + 1) 1 v1.mem.length, .nil]]⟩, some ⟨0, 4, 81, [[I (((p.getD t.toNat default).getD (s.at_.getD t.toNat default).toNat default).Op), I (((p.getD t.toNat default).getD (s.at_.getD t.toNat default).toNat default).Loc), I (((p.getD t.toNat default).getD (s.at_.getD t.toNat default).toNat default).Reg), I (((p.getD t.toNat default).getD (s.at_.getD t.toNat default).toNat default).Val)]]⟩]) (fun u13 hg => ?_) ?_
  · clear h
    have h := ks7
    clear ks7
    obtain ⟨s14, h, ks14⟩ := bindL h
    refine T.joinF (G := Nat) (fun gh => True) (fun gh => [(7, .hp 4 0 4 0 0), (6, .hp 0 0 4 0 0)]) (fun gh => [some ⟨0, 4, 184, [[.nil, .nil, .nil, .nil]]⟩, bE false (0 + 1) 1 3 ((v1.at_.set t.toNat ((s.at_.getD t.toNat default) + (1 : Int))).map cI), bE false u13 1 3 (s7.map cI), bE false gh 1 3 (s14.map cI), some ⟨0, 4, 184, [[hS false 1 (0 + 1) 1 ((v1.at_.set t.toNat ((s.at_.getD t.toNat default) + (1 : Int))).length), hS false 2 u13 1 s7.length, hS false 3 gh 1 s14.length, .nil]]⟩, some ⟨0, 4, 81, [[I (((p.getD t.toNat default).getD (s.at_.getD t.toNat default).toNat default).Op), I (((p.getD t.toNat default).getD (s.at_.getD t.toNat default).toNat default).Loc), I (((p.getD t.toNat default).getD (s.at_.getD t.toNat default).toNat default).Reg), I (((p.getD t.toNat default).getD (s.at_.getD t.toNat default).toNat default).Val)]]⟩]) (fun u19 hg => ?_) ?_
    · clear h
      have h := ks14
      clear ks14
      refine T.seq ?_
      refine T.region ?_
      refine oA (EvA.loadhp (.agg [hS false 1 (0 + 1) 1 ((v1.at_.set t.toNat ((s.at_.getD t.toNat default) + (1 : Int))).length), hS false 2 u13 1 s7.length, hS false 3 u19 1 s14.length, .nil]) ty184 rfl rfl rfl rfl rfl rfl) ?_
      refine oV (EvA.st (cs := [hS false 1 (0 + 1) 1 ((v1.at_.set t.toNat ((s.at_.getD t.toNat default) + (1 : Int))).length), hS false 2 u13 1 s7.length, hS false 3 u19 1 s14.length, .nil]) ⟨0, 4, 184, [[hS false 1 (0 + 1) 1 ((v1.at_.set t.toNat ((s.at_.getD t.toNat default) + (1 : Int))).length), hS false 2 u13 1 s7.length, hS false 3 u19 1 s14.length, .nil]]⟩ ty184 rfl rfl rfl rfl rfl rfl rfl rfl rfl) ?_
      refine TO.nil ?_
      refine T.ret ?_
      obtain rfl := Option.some.inj h
      repeat first | refine retS ?_ | refine retB ?_
      exact Fin.ret (vs := [.agg [hS false 1 (0 + 1) 1 ((v1.at_.set t.toNat ((s.at_.getD t.toNat default) + (1 : Int))).length), hS false 2 u13 1 s7.length, hS false 3 u19 1 s14.length, .nil]]) (.cons (.cell (.agg [hS false 1 (0 + 1) 1 ((v1.at_.set t.toNat ((s.at_.getD t.toNat default) + (1 : Int))).length), hS false 2 u13 1 s7.length, hS false 3 u19 1 s14.length, .nil]) ty184 rfl rfl rfl rfl rfl rfl) .nil) (Fz.aggL (.cons (Fz.own (g := false) (ver := 0 + 1) (l := (v1.at_.set t.toNat ((s.at_.getD t.toNat default) + (1 : Int)))) rfl rfl rfl nofun (fun _ => rfl)) (.cons (Fz.own (g := false) (ver := u13) (l := s7) rfl rfl rfl nofun (fun _ => rfl)) (.cons (Fz.own (g := false) (ver := u19) (l := s14) rfl rfl rfl nofun (fun _ => rfl)) (.cons (.nil0) .nil)))))
    · clear ks14
      refine T.seq ?_
      refine T.region ?_
      refine oA (EvA.loadhp (.agg [I (((p.getD t.toNat default).getD (s.at_.getD t.toNat default).toNat default).Op), I (((p.getD t.toNat default).getD (s.at_.getD t.toNat default).toNat default).Loc), I (((p.getD t.toNat default).getD (s.at_.getD t.toNat default).toNat default).Reg), I (((p.getD t.toNat default).getD (s.at_.getD t.toNat default).toNat default).Val)]) ty81 rfl rfl rfl rfl rfl rfl) ?_
      obtain ⟨v15, cv15, h⟩ := bindL h
      refine oN (EvN.call rfl rfl rfl (F_spec_l1Writes_P (⟨((p.getD t.toNat default).getD (s.at_.getD t.toNat default).toNat default).Op, ((p.getD t.toNat default).getD (s.at_.getD t.toNat default).toNat default).Loc, ((p.getD t.toNat default).getD (s.at_.getD t.toNat default).toNat default).Reg, ((p.getD t.toNat default).getD (s.at_.getD t.toNat default).toNat default).Val⟩ : Ximpl_Instr) cv15) rfl) ?_
      refine TO.nil ?_
      refine T.cond rfl (fun q16 => ?_) (fun q16 => ?_)
      · replace h := condT q16 h
        refine T.drawF (fun i => [([], false), ([4], false), ([], false), ([5], false), ([], false), ([], false), ([5], false), ([], false), ([], false), ([3], true)].getD i ([], false)) (by kernel_rfl) (by kernel_rfl) ?_
        refine fN rfl (EvN.fahp Try.underlying184 rfl (by kernel_rfl) rfl) ?_
        refine fR [4] rfl (fun G hG => EvA.loadhp (hS false 3 (0 + 1) 1 v1.mem.length) ty37 rfl (hG.a0 rfl) rfl rfl rfl rfl) ?_
        refine fN rfl (EvN.fahp Try.underlying81 rfl (by kernel_rfl) rfl) ?_
        refine fR [5] rfl (fun G hG => EvA.loadhp (I (((p.getD t.toNat default).getD (s.at_.getD t.toNat default).toNat default).Loc)) ty3 rfl (hG.a0 rfl) rfl rfl rfl rfl) ?_
        refine fN rfl (EvN.loadfp (.agg (Xspec_l3State.c s)) ty184 rfl rfl) ?_
        refine fN rfl (EvN.mv (I t) rfl) ?_
        refine fR [5] rfl (fun G hG => EvA.loadhp (.agg [I (((p.getD t.toNat default).getD (s.at_.getD t.toNat default).toNat default).Op), I (((p.getD t.toNat default).getD (s.at_.getD t.toNat default).toNat default).Loc), I (((p.getD t.toNat default).getD (s.at_.getD t.toNat default).toNat default).Reg), I (((p.getD t.toNat default).getD (s.at_.getD t.toNat default).toNat default).Val)]) ty81 rfl (hG.a0 rfl) rfl rfl rfl rfl) ?_
        obtain ⟨v17, cv17, h⟩ := bindL h
        refine fN rfl (EvN.call rfl rfl rfl (F_spec_l3Value_P s t (⟨((p.getD t.toNat default).getD (s.at_.getD t.toNat default).toNat default).Op, ((p.getD t.toNat default).getD (s.at_.getD t.toNat default).toNat default).Loc, ((p.getD t.toNat default).getD (s.at_.getD t.toNat default).toNat default).Reg, ((p.getD t.toNat default).getD (s.at_.getD t.toNat default).toNat default).Val⟩ : Ximpl_Instr) cv17) rfl) ?_
        obtain ⟨g18, h⟩ := gdD h
        refine fN rfl (EvN.ixO (g := false) sl37 rfl rfl nofun g18) ?_
        refine fV 3 [] rfl rfl (fun G hG => EvA.stO (g := false) (l := v1.mem) (cs := [I v17]) v17 ty3 rfl rfl (hG.a0 rfl) nofun (toNat_lt' rfl g18) rfl rfl rfl) ?_
        refine TF.nil ?_
        obtain rfl := Option.some.inj h
        exact ⟨0 + 1, trivial, cutW (by simp only [List.length_set] <;> rfl) (weak_cons rfl (weak_cons rfl weak_nil))⟩
      · replace h := condF q16 h
        refine T.skip ?_
        obtain rfl := Option.some.inj h
        exact ⟨0 + 1, trivial, cutW rfl (weak_cons rfl (weak_cons rfl weak_nil))⟩
  · clear ks7
    refine T.seq ?_
    refine T.clean (H0 := [some ⟨0, 4, 184, [[.nil, .nil, .nil, .nil]]⟩, bE false (0 + 1) 1 3 ((v1.at_.set t.toNat ((s.at_.getD t.toNat default) + (1 : Int))).map cI), bE false (0 + 1) 1 3 (v1.regs.map cI), bE false (0 + 1) 1 3 (v1.mem.map cI), some ⟨0, 4, 184, [[hS false 1 (0 + 1) 1 v1.at_.length, hS false 2 (0 + 1) 1 v1.regs.length, hS false 3 (0 + 1) 1 v1.mem.length, .nil]]⟩, some ⟨0, 4, 81, [[I (((p.getD t.toNat default).getD (s.at_.getD t.toNat default).toNat default).Op), I (((p.getD t.toNat default).getD (s.at_.getD t.toNat default).toNat default).Loc), I (((p.getD t.toNat default).getD (s.at_.getD t.toNat default).toNat default).Reg), I (((p.getD t.toNat default).getD (s.at_.getD t.toNat default).toNat default).Val)]]⟩]) (e0 := envOf [(8, .hp 5 0 4 0 0), (7, .hp 4 0 4 0 0), (6, .hp 0 0 4 0 0), (4, .fp (Xspec_l3State.c s) 0), (2, I t)]) rfl (weak_cons rfl (weak_cons rfl (weak_cons rfl (weak_cons rfl (weak_cons rfl weak_nil))))) ?_
    refine T.region ?_
    refine oA (EvA.loadhp (.agg [I (((p.getD t.toNat default).getD (s.at_.getD t.toNat default).toNat default).Op), I (((p.getD t.toNat default).getD (s.at_.getD t.toNat default).toNat default).Loc), I (((p.getD t.toNat default).getD (s.at_.getD t.toNat default).toNat default).Reg), I (((p.getD t.toNat default).getD (s.at_.getD t.toNat default).toNat default).Val)]) ty81 rfl rfl rfl rfl rfl rfl) ?_
    obtain ⟨v8, cv8, h⟩ := bindL h
    refine oN (EvN.call rfl rfl rfl (F_spec_l1Reads_P (⟨((p.getD t.toNat default).getD (s.at_.getD t.toNat default).toNat default).Op, ((p.getD t.toNat default).getD (s.at_.getD t.toNat default).toNat default).Loc, ((p.getD t.toNat default).getD (s.at_.getD t.toNat default).toNat default).Reg, ((p.getD t.toNat default).getD (s.at_.getD t.toNat default).toNat default).Val⟩ : Ximpl_Instr) cv8) rfl) ?_
    refine TO.nil ?_
    refine T.cond rfl (fun q9 => ?_) (fun q9 => ?_)
    · replace h := condT q9 h
      refine T.drawF (fun i => [([], false), ([4], false), ([], false), ([], false), ([5], false), ([], false), ([], false), ([], false), ([], false), ([5], false), ([], false), ([], false), ([], false), ([2], true)].getD i ([], false)) (by kernel_rfl) (by kernel_rfl) ?_
      refine fN rfl (EvN.fahp Try.underlying184 rfl (by kernel_rfl) rfl) ?_
      refine fR [4] rfl (fun G hG => EvA.loadhp (hS false 2 (0 + 1) 1 v1.regs.length) ty37 rfl (hG.a0 rfl) rfl rfl rfl rfl) ?_
      refine fN rfl (EvN.mv (I t) rfl) ?_
      refine fN rfl (EvN.fahp Try.underlying81 rfl (by kernel_rfl) rfl) ?_
      refine fR [5] rfl (fun G hG => EvA.loadhp (I (((p.getD t.toNat default).getD (s.at_.getD t.toNat default).toNat default).Reg)) ty3 rfl (hG.a0 rfl) rfl rfl rfl rfl) ?_
      obtain ⟨v10, cv10, h⟩ := bindL h
      refine fN rfl (EvN.call rfl rfl rfl (F_spec_l3Reg_P t (((p.getD t.toNat default).getD (s.at_.getD t.toNat default).toNat default).Reg) cv10) rfl) ?_
      refine fN rfl (EvN.fafp Try.underlying184 rfl (by kernel_rfl) rfl) ?_
      refine fN rfl (EvN.loadfp (eL cI s.mem) ty37 rfl rfl) ?_
      refine fN rfl (EvN.fahp Try.underlying81 rfl (by kernel_rfl) rfl) ?_
      refine fR [5] rfl (fun G hG => EvA.loadhp (I (((p.getD t.toNat default).getD (s.at_.getD t.toNat default).toNat default).Loc)) ty3 rfl (hG.a0 rfl) rfl rfl rfl rfl) ?_
      obtain ⟨g11, h⟩ := gdD h
      refine fN rfl (EvN.ixL sl37 rfl rfl g11 (fun _ => rfl)) ?_
      refine fN rfl (EvN.loadfp (I (s.mem.getD (((p.getD t.toNat default).getD (s.at_.getD t.toNat default).toNat default).Loc).toNat default)) ty3 rfl rfl) ?_
      obtain ⟨g12, h⟩ := gdD h
      refine fN rfl (EvN.ixO (g := false) sl37 rfl rfl nofun g12) ?_
      refine fV 2 [] rfl rfl (fun G hG => EvA.stO (g := false) (l := v1.regs) (cs := [I (s.mem.getD (((p.getD t.toNat default).getD (s.at_.getD t.toNat default).toNat default).Loc).toNat default)]) (s.mem.getD (((p.getD t.toNat default).getD (s.at_.getD t.toNat default).toNat default).Loc).toNat default) ty3 rfl rfl (hG.a0 rfl) nofun (toNat_lt' rfl g12) rfl rfl rfl) ?_
      refine TF.nil ?_
      obtain rfl := Option.some.inj h
      exact ⟨0 + 1, trivial, cutW (by simp only [List.length_set] <;> rfl) (weak_cons rfl (weak_cons rfl (weak_cons rfl (weak_cons rfl (weak_cons rfl weak_nil)))))⟩
    · replace h := condF q9 h
      refine T.skip ?_
      obtain rfl := Option.some.inj h
      exact ⟨0 + 1, trivial, cutW (by simp only [List.length_set] <;> rfl) (weak_cons rfl (weak_cons rfl (weak_cons rfl (weak_cons rfl (weak_cons rfl weak_nil)))))⟩
end Go.Proofs.Ytjogdblionfmiaa
