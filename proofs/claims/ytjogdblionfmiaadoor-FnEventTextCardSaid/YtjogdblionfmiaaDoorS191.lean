/-
  The program's code computes the functions over plain values; printed by lift.py. No conditions.
-/
import Derived.Test.YtjogdblionfmiaaDoorS19d
import Derived.Test.YtjogdblionfmiaaDoorSf
import Derived.Test.YtjogdblionfmiaaDoorL15
import Derived.Test.YtjogdblionfmiaaDoorMu2
import Derived.Test.YtjogdblionfmiaaDoorSE1
import Derived.Test.YtjogdblionfmiaaDoorSQ1
import Derived.Test.YtjogdblionfmiaaDoorSR1
namespace Go.Proofs.YtjogdblionfmiaaDoor
open Go.RowKit
set_option maxRecDepth 100000
theorem F_spec_DrawEventText_P (code : List Int) {q : (List (List Ximpl_Instr)) × Int} (h : F_spec_DrawEventText code = some q) : PCall Tryd.prog 11 [eL cY code] (.tup [eL (cL Ximpl_Instr.c) q.1, I q.2]) := by
  refine PCall.mkT Tryd.func11 rfl (by kernel_rfl) rfl (by kernel_rfl) (e0 := envOf [(0, eL cY code)]) (weak_cons rfl weak_nil) ?_
  refine T.seq ?_
  refine T.region ?_
  refine oN (EvN.asg (.nil) rfl) ?_
  refine oN (EvN.asg (I (0 : Int)) rfl) ?_
  refine TO.nil ?_
  refine T.seq ?_
  refine T.region ?_
  refine oN (EvN.mv (eL cY code) rfl) ?_
  obtain ⟨v1, cv1, h⟩ := bindL h
  refine oA (EvA.call rfl rfl rfl ((F_spec_l17Open_P code cv1).fresh rfl (rowsF_row rfl) 0 rfl)) ?_
  refine oN (EvN.asg (.hp 0 0 2 0 0) rfl) ?_
  refine TO.nil ?_
  refine T.seq ?_
  refine T.region ?_
  refine oN (EvN.mv (.hp 0 0 2 0 0) rfl) ?_
  refine oN (EvN.mv (.hp 0 0 2 0 0) rfl) ?_
  obtain ⟨v2, cv2, h⟩ := bindL h
  refine oA (EvA.call rfl rfl rfl ((F_spec_l1Draw_P (⟨v1.b, v1.p⟩ : Xspec_l17Rd) 0 cv2).one 0 rfl (.cons (.hp rfl) .nil) (rowsF_row rfl) (rowsF_row rfl) rfl)) ?_
  obtain ⟨v3, cv3, h⟩ := bindL h
  refine oA (EvA.call rfl rfl rfl ((F_spec_l1Mutate_P (⟨v2.1.b, v2.1.p⟩ : Xspec_l17Rd) v2.2 0 cv3).one 0 rfl (.cons (.hp rfl) (.cons (.pF rfl) .nil)) (rowsF_row rfl) (rowsF_row rfl) rfl)) ?_
  refine oN (EvN.asg (eL (cL Ximpl_Instr.c) v3.2) rfl) ?_
  refine TO.nil ?_
  refine T.seq ?_
  refine T.clean (H0 := [some ⟨0, 2, 61, [[eL cY v3.1.b, I v3.1.p]]⟩]) (e0 := envOf [(5, eL (cL Ximpl_Instr.c) v3.2), (4, .hp 0 0 2 0 0)]) rfl (weak_cons rfl (weak_cons rfl weak_nil)) ?_
  refine T.region ?_
  refine oN (EvN.mv (eL (cL Ximpl_Instr.c) v3.2) rfl) ?_
  refine oN (EvN.mv (.hp 0 0 2 0 0) rfl) ?_
  refine oN (EvN.mkF (c := cI) ([(3 : Int), (0 : Int), (4 : Int), (5 : Int), (6 : Int), (-1 : Int), (20 : Int)] : List Int) [[I (3 : Int)], [I (0 : Int)], [I (4 : Int)], [I (5 : Int)], [I (6 : Int)], [I (-1 : Int)], [I (20 : Int)]] sl52 rfl rfl rfl (fun _ => rfl) (fun _ => rfl) rfl) ?_
  obtain ⟨v4, cv4, h⟩ := bindL h
  refine oA (EvA.call rfl rfl rfl ((F_spec_l17Rd_num_P (⟨v3.1.b, v3.1.p⟩ : Xspec_l17Rd) ([(3 : Int), (0 : Int), (4 : Int), (5 : Int), (6 : Int), (-1 : Int), (20 : Int)] : List Int) 0 cv4).one 0 rfl (.cons (.hp rfl) (.cons (.pF rfl) .nil)) (rowsF_row rfl) (rowsF_row rfl) rfl)) ?_
  refine oN (EvN.asg (eL (cL Ximpl_Instr.c) v3.2) rfl) ?_
  refine oN (EvN.asg (I v4.2) rfl) ?_
  refine TO.nil ?_
  refine T.ret ?_
  obtain rfl := Option.some.inj h
  repeat first | refine retS ?_ | refine retB ?_
  exact Fin.ret (vs := [eL (cL Ximpl_Instr.c) v3.2, I v4.2]) (.cons (.tmp rfl) (.cons (.tmp rfl) .nil)) (.tupL (.cons (.of_isF 9 _ rfl) (.cons (.of_isF 9 _ rfl) .nil)))

theorem F_laws_FnEventText_P (code : List Int) {q : Bool} (h : F_laws_FnEventText code = some q) : PCall Tryd.prog 4 [eL cY code] (Bo q) := by
  refine PCall.mkT Tryd.func4 rfl (by kernel_rfl) rfl (by kernel_rfl) (e0 := envOf [(0, eL cY code)]) (weak_cons rfl weak_nil) ?_
  refine T.seq ?_
  refine T.region ?_
  refine oN (EvN.asg (Bo false) rfl) ?_
  refine TO.nil ?_
  refine T.seq ?_
  refine T.seq ?_
  refine T.region ?_
  refine oN (EvN.mv (eL cY code) rfl) ?_
  refine oN (EvN.lenL sl29 rfl) ?_
  refine oN (EvN.igt rfl rfl) ?_
  refine TO.nil ?_
  refine T.cond rfl (fun q1 => ?_) (fun q1 => ?_)
  · replace h := condT q1 h
    refine T.seq ?_
    refine T.region ?_
    refine oN (EvN.asg (Bo true) rfl) ?_
    refine TO.nil ?_
    refine T.ret ?_
    obtain rfl := Option.some.inj h
    repeat first | refine retS ?_ | refine retB ?_
    exact Fin.ret (vs := [Bo true]) (.cons (.tmp rfl) .nil) (.of_isF 9 _ rfl)
  · replace h := condF q1 h
    refine T.skip ?_
    refine T.seq ?_
    refine T.region ?_
    refine oN (EvN.mv (eL cY code) rfl) ?_
    obtain ⟨v2, cv2, h⟩ := bindL h
    refine oN (EvN.call rfl rfl rfl (F_spec_DrawEventText_P code cv2) rfl) ?_
    refine oN (EvN.mv (.tup [eL (cL Ximpl_Instr.c) v2.1, I v2.2]) rfl) ?_
    refine oN (EvN.ext (eL (cL Ximpl_Instr.c) v2.1) rfl rfl) ?_
    refine oN (EvN.ext (I v2.2) rfl rfl) ?_
    refine oN (EvN.asg (eL (cL Ximpl_Instr.c) v2.1) rfl) ?_
    refine oN (EvN.asg (I v2.2) rfl) ?_
    refine TO.nil ?_
    refine T.seq ?_
    refine T.clean (H0 := []) (e0 := envOf [(4, I v2.2), (3, eL (cL Ximpl_Instr.c) v2.1)]) rfl (weak_cons rfl (weak_cons rfl weak_nil)) ?_
    refine T.region ?_
    refine oN (EvN.mv (eL (cL Ximpl_Instr.c) v2.1) rfl) ?_
    refine oN (EvN.mv (I v2.2) rfl) ?_
    obtain ⟨v3, cv3, h⟩ := bindL h
    refine oN (EvN.call rfl rfl rfl (F_impl_EventText_P v2.1 v2.2 cv3) rfl) ?_
    refine oN (EvN.asg (St v3) rfl) ?_
    refine TO.nil ?_
    refine T.seq ?_
    refine T.region ?_
    refine oN (EvN.mv (eL (cL Ximpl_Instr.c) v2.1) rfl) ?_
    obtain ⟨v4, cv4, h⟩ := bindL h
    refine oN (EvN.call rfl rfl rfl (F_impl_EventsOf_P v2.1 cv4) rfl) ?_
    refine oN (EvN.asg (eL Ximpl_Event.c v4) rfl) ?_
    refine TO.nil ?_
    refine T.seq ?_
    refine T.seq ?_
    refine T.region ?_
    refine oN (EvN.mv (St v3) rfl) ?_
    refine oN (EvN.mv (eL (cL Ximpl_Instr.c) v2.1) rfl) ?_
    refine oN (EvN.mv (I v2.2) rfl) ?_
    obtain ⟨v5, cv5, h⟩ := bindL h
    refine oN (EvN.call rfl rfl rfl (F_spec_EventText_P v2.1 v2.2 cv5) rfl) ?_
    refine oN (EvN.sne rfl rfl) ?_
    refine oN (EvN.mv (Bo (!decide (v3 = v5))) rfl) ?_
    obtain ⟨s6, h, ks6⟩ := bindL h
    refine TO.joinF (G := Unit) 3 (fun _ => True) (fun _ => [(29, Bo s6), (6, eL Ximpl_Event.c v4), (5, St v3), (4, I v2.2), (3, eL (cL Ximpl_Instr.c) v2.1)]) (fun _ => []) ?_ (fun js6 => ?_)
    rotate_left
    · clear ks6
      rcases bifL h with ⟨q7, h⟩ | ⟨q7, h⟩
      · refine gS rfl q7 ?_
        refine gS rfl q7 ?_
        refine oN (EvN.pickT rfl q7 (Bo true) rfl) ?_
        obtain rfl := Option.some.inj h
        exact js6 _ _ ⟨(), trivial, cutW rfl (weak_cons rfl (weak_cons rfl (weak_cons rfl (weak_cons rfl (weak_cons rfl weak_nil)))))⟩
      · refine gN rfl q7 (EvN.mv (St v3) rfl) ?_
        refine gN rfl q7 (EvN.seq rfl rfl) ?_
        refine oN (EvN.pickF rfl q7 (Bo (decide (v3 = (⟨#[]⟩ : ByteArray)))) rfl) ?_
        obtain rfl := Option.some.inj h
        exact js6 _ _ ⟨(), trivial, cutW rfl (weak_cons rfl (weak_cons rfl (weak_cons rfl (weak_cons rfl (weak_cons rfl weak_nil)))))⟩
    · intro _ _
      replace h := ks6
      clear ks6
      refine TO.nil ?_
      refine T.cond rfl (fun q8 => ?_) (fun q8 => ?_)
      · replace h := condT q8 h
        refine T.seq ?_
        refine T.region ?_
        refine oN (EvN.mv (St v3) rfl) ?_
        refine oN (EvN.mv (eL (cL Ximpl_Instr.c) v2.1) rfl) ?_
        refine oN (EvN.mv (I v2.2) rfl) ?_
        obtain ⟨v9, cv9, h⟩ := bindL h
        refine oN (EvN.call rfl rfl rfl (F_spec_EventText_P v2.1 v2.2 cv9) rfl) ?_
        refine oN (EvN.seq rfl rfl) ?_
        refine oN (EvN.mv (Bo (decide (v3 = v9))) rfl) ?_
        obtain ⟨s10, h, ks10⟩ := bindL h
        refine TO.joinF (G := Unit) 9 (fun _ => True) (fun _ => [(44, Bo s10)]) (fun _ => []) ?_ (fun js10 => ?_)
        rotate_left
        · clear ks10
          rcases bifL h with ⟨q11, h⟩ | ⟨q11, h⟩
          · refine gN rfl q11 (EvN.mv (I v2.2) rfl) ?_
            refine gN rfl q11 (EvN.ilt rfl rfl) ?_
            refine gN rfl q11 (EvN.mv (Bo (decide (v2.2 < (0 : Int)))) rfl) ?_
            obtain ⟨s12, h, ks12⟩ := bindL h
            refine TO.joinF (G := Unit) 5 (fun _ => True) (fun _ => [(43, Bo s12), (35, Bo (decide (v3 = v9)))]) (fun _ => []) ?_ (fun js12 => ?_)
            rotate_left
            · clear ks12
              rcases bifL h with ⟨q13, h⟩ | ⟨q13, h⟩
              · refine gS rfl q13 ?_
                refine gS rfl q13 ?_
                refine gS rfl q13 ?_
                refine gS rfl q13 ?_
                refine gN rfl q11 (EvN.pickT rfl q13 (Bo true) rfl) ?_
                obtain rfl := Option.some.inj h
                exact js12 _ _ ⟨(), trivial, cutW rfl (weak_cons rfl (weak_cons rfl weak_nil))⟩
              · refine gN rfl q13 (EvN.mv (I v2.2) rfl) ?_
                refine gN rfl q13 (EvN.mv (eL Ximpl_Event.c v4) rfl) ?_
                refine gN rfl q13 (EvN.lenL sl32 rfl) ?_
                refine gN rfl q13 (EvN.ige rfl rfl) ?_
                refine gN rfl q11 (EvN.pickF rfl q13 (Bo (decide ((v4.length : Int) ≤ v2.2))) rfl) ?_
                obtain rfl := Option.some.inj h
                exact js12 _ _ ⟨(), trivial, cutW rfl (weak_cons rfl (weak_cons rfl weak_nil))⟩
            · intro _ _
              replace h := ks12
              clear ks12
              refine oN (EvN.pickT rfl q11 (Bo s12) rfl) ?_
              obtain rfl := Option.some.inj h
              exact js10 _ _ ⟨(), trivial, cutW rfl (weak_cons rfl weak_nil)⟩
          · refine gS rfl q11 ?_
            refine gS rfl q11 ?_
            refine gS rfl q11 ?_
            refine gU rfl ?_
            refine gU rfl ?_
            refine gU rfl ?_
            refine gU rfl ?_
            refine gS rfl q11 ?_
            refine oN (EvN.pickF rfl q11 (Bo false) rfl) ?_
            obtain rfl := Option.some.inj h
            exact js10 _ _ ⟨(), trivial, cutW rfl (weak_cons rfl weak_nil)⟩
        · intro _ _
          replace h := ks10
          clear ks10
          refine oN (EvN.asg (Bo s10) rfl) ?_
          refine TO.nil ?_
          refine T.ret ?_
          obtain rfl := Option.some.inj h
          repeat first | refine retS ?_ | refine retB ?_
          exact Fin.ret (vs := [Bo s10]) (.cons (.tmp rfl) .nil) (.of_isF 9 _ rfl)
      · replace h := condF q8 h
        refine T.skip ?_
        obtain ⟨Ks14, es14, ws14, h, ks14⟩ := sumL h
        refine T.join (S := Unit) (G := Unit) (fun s14 => Ks14 s14 = some q) (fun s14 gh => True) (fun s14 gh => []) (fun s14 gh => []) (fun s14 gh h hg => ?_) ?_
        · clear ks14
          subst es14
          refine T.seq ?_
          refine T.region ?_
          refine oN (EvN.asg (Bo true) rfl) ?_
          refine TO.nil ?_
          refine T.ret ?_
          obtain rfl := Option.some.inj h
          repeat first | refine retS ?_ | refine retB ?_
          exact Fin.ret (vs := [Bo true]) (.cons (.tmp rfl) .nil) (.of_isF 9 _ rfl)
        · refine T.seq ?_
          refine T.region ?_
          refine oN (EvN.asg (I (0 : Int)) rfl) ?_
          refine TO.nil ?_
          refine T.block ?_
          refine T.loop (S := Int) (G := Unit) (F_laws_FnEventText_L16 v2 v3 v4) (fun s15 gh => True) (fun s15 gh => [(7, I s15), (6, eL Ximpl_Event.c v4), (5, St v3), (4, I v2.2), (3, eL (cL Ximpl_Instr.c) v2.1)]) (fun s15 gh => []) (s0 := (0 : Int)) () h trivial (cutW rfl (weak_cons rfl (weak_cons rfl (weak_cons rfl (weak_cons rfl (weak_cons rfl weak_nil)))))) (fun s15 gh ws15 h hg => ?_)
          refine T.seq ?_
          refine T.seq ?_
          refine T.region ?_
          refine oN (EvN.mv (I s15) rfl) ?_
          refine oN (EvN.mv (eL Ximpl_Event.c v4) rfl) ?_
          refine oN (EvN.lenL sl32 rfl) ?_
          refine oN (EvN.ilt rfl rfl) ?_
          refine TO.nil ?_
          refine T.cond rfl (fun q17 => ?_) (fun q17 => ?_)
          · replace h := condT q17 h
            refine T.skip ?_
            obtain ⟨Ks18, es18, ws18, h, ks18⟩ := sumL h
            refine T.join (S := Unit) (G := Unit) (fun s18 => Ks18 s18 = some ws15) (fun s18 gh => True) (fun s18 gh => [(7, I s15), (6, eL Ximpl_Event.c v4), (5, St v3), (4, I v2.2), (3, eL (cL Ximpl_Instr.c) v2.1)]) (fun s18 gh => []) (fun s18 gh h hg => ?_) ?_
            · clear ks18
              subst es18
              refine T.region ?_
              refine oN (EvN.mv (I s15) rfl) ?_
              obtain ⟨g25, h⟩ := gdW h
              refine oN (EvN.add rfl rfl g25) ?_
              refine oN (EvN.asg (I (s15 + (1 : Int))) rfl) ?_
              refine TO.nil ?_
              obtain rfl := Option.some.inj h
              exact ⟨(s15 + (1 : Int)), (), rfl, trivial, cutW rfl (weak_cons rfl (weak_cons rfl (weak_cons rfl (weak_cons rfl (weak_cons rfl weak_nil)))))⟩
            · refine T.block ?_
              obtain ⟨s19, h, ks19⟩ := bindL h
              refine T.joinF (G := Unit) (fun gh => True) (fun gh => [(68, Bo s19), (7, I s15), (6, eL Ximpl_Event.c v4), (5, St v3), (4, I v2.2), (3, eL (cL Ximpl_Instr.c) v2.1)]) (fun gh => []) (fun gh hg => ?_) ?_
              · clear h
                have h := ks19
                clear ks19
                refine T.cond rfl (fun q24 => ?_) (fun q24 => ?_)
                · replace h := condT q24 h
                  refine T.seq ?_
                  refine T.clean (H0 := []) (e0 := envOf []) rfl weak_nil ?_
                  refine T.region ?_
                  refine oN (EvN.asg (Bo false) rfl) ?_
                  refine TO.nil ?_
                  refine T.ret ?_
                  obtain rfl := Option.some.inj h
                  replace h := congrArg some (show _ = _ from ks18)
                  refine ⟨_, (Option.some.inj h).symm, fun h => ?_⟩
                  replace h := congrArg some h
                  obtain rfl := Option.some.inj h
                  replace h := congrArg some (show _ = _ from ks14)
                  obtain rfl := Option.some.inj h
                  repeat first | refine retS ?_ | refine retB ?_
                  exact Fin.ret (vs := [Bo false]) (.cons (.tmp rfl) .nil) (.of_isF 9 _ rfl)
                · replace h := condF q24 h
                  refine T.skip ?_
                  obtain rfl := Option.some.inj h
                  exact ⟨(), (), ks18, trivial, cutW rfl (weak_cons rfl (weak_cons rfl (weak_cons rfl (weak_cons rfl (weak_cons rfl weak_nil)))))⟩
              · clear ks19
                refine T.drawG (fun _ => ([], false)) (by kernel_rfl) (by kernel_rfl) ?_
                refine tN rfl (EvN.mv (eL Ximpl_Event.c v4) rfl) ?_
                refine tN rfl (EvN.mv (I s15) rfl) ?_
                obtain ⟨g20, h⟩ := gdD h
                refine tN rfl (EvN.ixL sl32 rfl rfl g20 (fun _ => rfl)) ?_
                refine tN rfl (EvN.fafp Tryd.underlying35 rfl (by kernel_rfl) rfl) ?_
                refine tN rfl (EvN.loadfp (I ((v4.getD s15.toNat default).Thread)) ty3 rfl rfl) ?_
                refine tN rfl (EvN.mv (eL Ximpl_Event.c v4) rfl) ?_
                refine tN rfl (EvN.mv (I v2.2) rfl) ?_
                obtain ⟨g21, h⟩ := gdD h
                refine tN rfl (EvN.ixL sl32 rfl rfl g21 (fun _ => rfl)) ?_
                refine tN rfl (EvN.fafp Tryd.underlying35 rfl (by kernel_rfl) rfl) ?_
                refine tN rfl (EvN.loadfp (I ((v4.getD v2.2.toNat default).Thread)) ty3 rfl rfl) ?_
                refine tN rfl (EvN.ine rfl rfl) ?_
                refine tN rfl (EvN.mv (Bo (((v4.getD s15.toNat default).Thread) != ((v4.getD v2.2.toNat default).Thread))) rfl) ?_
                rcases bifL h with ⟨q22, h⟩ | ⟨q22, h⟩
                · refine tgN rfl q22 rfl (EvN.mv (eL (cL Ximpl_Instr.c) v2.1) rfl) ?_
                  refine tgN rfl q22 rfl (EvN.mv (I s15) rfl) ?_
                  obtain ⟨v23, cv23, h⟩ := bindL h
                  refine tgN rfl q22 rfl (EvN.call rfl rfl rfl (F_impl_EventText_P v2.1 s15 cv23) rfl) ?_
                  refine tgN rfl q22 rfl (EvN.mv (St v3) rfl) ?_
                  refine tgN rfl q22 rfl (EvN.seq rfl rfl) ?_
                  refine tN rfl (EvN.pickT rfl q22 (Bo (decide (v23 = v3))) rfl) ?_
                  refine TG.nil ?_
                  obtain rfl := Option.some.inj h
                  exact ⟨(), trivial, cutW rfl (weak_cons rfl (weak_cons rfl (weak_cons rfl (weak_cons rfl (weak_cons rfl (weak_cons rfl weak_nil))))))⟩
                · refine tgS rfl q22 ?_
                  refine tgS rfl q22 ?_
                  refine tgS rfl q22 ?_
                  refine tgS rfl q22 ?_
                  refine tgS rfl q22 ?_
                  refine tN rfl (EvN.pickF rfl q22 (Bo false) rfl) ?_
                  refine TG.nil ?_
                  obtain rfl := Option.some.inj h
                  exact ⟨(), trivial, cutW rfl (weak_cons rfl (weak_cons rfl (weak_cons rfl (weak_cons rfl (weak_cons rfl (weak_cons rfl weak_nil))))))⟩
          · replace h := condF q17 h
            refine T.exit ?_
            refine ⟨_, (Option.some.inj h).symm, fun h => ?_⟩
            replace h := congrArg some h
            obtain rfl := Option.some.inj h
            exact ⟨(), (), ks14, trivial, cutW rfl weak_nil⟩
end Go.Proofs.YtjogdblionfmiaaDoor
