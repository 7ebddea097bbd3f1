/-
  The program's code computes the functions over plain values; printed by lift.py. No conditions.
-/
import Derived.Test.YtjogdblionfmiaaDoorS20d
import Derived.Test.YtjogdblionfmiaaDoorSf
import Derived.Test.YtjogdblionfmiaaDoorMu2
import Derived.Test.YtjogdblionfmiaaDoorSE1
import Derived.Test.YtjogdblionfmiaaDoorSQ1
import Derived.Test.YtjogdblionfmiaaDoorSR1
namespace Go.Proofs.YtjogdblionfmiaaDoor
open Go.RowKit
set_option maxRecDepth 100000
theorem F_spec_DrawEventText_P (code : List Int) {q : (List (List Ximpl_Instr)) × Int} (h : F_spec_DrawEventText code = some q) : PCall Tryd.prog 11 [eL cY code] (.tup [eL (cL Ximpl_Instr.c) q.1, I q.2]) := by
  refine PCall.mkT Tryd.func11 rfl (by kernel_rfl) rfl (by kernel_rfl) (e0 := envOf [(0, eL cY code)]) (weak_cons rfl weak_nil) ?_
  refine T.seq ?_
  refine T.region ?_
  refine oN (EvN.asg (.nil) rfl) ?_
  refine oN (EvN.asg (I (0 : Int)) rfl) ?_
  refine TO.nil ?_
  refine T.seq ?_
  refine T.region ?_
  refine oN (EvN.mv (eL cY code) rfl) ?_
  obtain ⟨v1, cv1, h⟩ := bindL h
  refine oA (EvA.call rfl rfl rfl ((F_spec_l17Open_P code cv1).fresh rfl (rowsF_row rfl) 0 rfl)) ?_
  refine oN (EvN.asg (.hp 0 0 2 0 0) rfl) ?_
  refine TO.nil ?_
  refine T.seq ?_
  refine T.region ?_
  refine oN (EvN.mv (.hp 0 0 2 0 0) rfl) ?_
  refine oN (EvN.mv (.hp 0 0 2 0 0) rfl) ?_
  obtain ⟨v2, cv2, h⟩ := bindL h
  refine oA (EvA.call rfl rfl rfl ((F_spec_l1Draw_P (⟨v1.b, v1.p⟩ : Xspec_l17Rd) 0 cv2).one 0 rfl (.cons (.hp rfl) .nil) (rowsF_row rfl) (rowsF_row rfl) rfl)) ?_
  obtain ⟨v3, cv3, h⟩ := bindL h
  refine oA (EvA.call rfl rfl rfl ((F_spec_l1Mutate_P (⟨v2.1.b, v2.1.p⟩ : Xspec_l17Rd) v2.2 0 cv3).one 0 rfl (.cons (.hp rfl) (.cons (.pF rfl) .nil)) (rowsF_row rfl) (rowsF_row rfl) rfl)) ?_
  refine oN (EvN.asg (eL (cL Ximpl_Instr.c) v3.2) rfl) ?_
  refine TO.nil ?_
  refine T.seq ?_
  refine T.clean (H0 := [some ⟨0, 2, 61, [[eL cY v3.1.b, I v3.1.p]]⟩]) (e0 := envOf [(5, eL (cL Ximpl_Instr.c) v3.2), (4, .hp 0 0 2 0 0)]) rfl (weak_cons rfl (weak_cons rfl weak_nil)) ?_
  refine T.region ?_
  refine oN (EvN.mv (eL (cL Ximpl_Instr.c) v3.2) rfl) ?_
  refine oN (EvN.mv (.hp 0 0 2 0 0) rfl) ?_
  refine oN (EvN.mkF (c := cI) ([(3 : Int), (0 : Int), (4 : Int), (5 : Int), (6 : Int), (-1 : Int), (20 : Int)] : List Int) [[I (3 : Int)], [I (0 : Int)], [I (4 : Int)], [I (5 : Int)], [I (6 : Int)], [I (-1 : Int)], [I (20 : Int)]] sl52 rfl rfl rfl (fun _ => rfl) (fun _ => rfl) rfl) ?_
  obtain ⟨v4, cv4, h⟩ := bindL h
  refine oA (EvA.call rfl rfl rfl ((F_spec_l17Rd_num_P (⟨v3.1.b, v3.1.p⟩ : Xspec_l17Rd) ([(3 : Int), (0 : Int), (4 : Int), (5 : Int), (6 : Int), (-1 : Int), (20 : Int)] : List Int) 0 cv4).one 0 rfl (.cons (.hp rfl) (.cons (.pF rfl) .nil)) (rowsF_row rfl) (rowsF_row rfl) rfl)) ?_
  refine oN (EvN.asg (eL (cL Ximpl_Instr.c) v3.2) rfl) ?_
  refine oN (EvN.asg (I v4.2) rfl) ?_
  refine TO.nil ?_
  refine T.ret ?_
  obtain rfl := Option.some.inj h
  repeat first | refine retS ?_ | refine retB ?_
  exact Fin.ret (vs := [eL (cL Ximpl_Instr.c) v3.2, I v4.2]) (.cons (.tmp rfl) (.cons (.tmp rfl) .nil)) (.tupL (.cons (.of_isF 9 _ rfl) (.cons (.of_isF 9 _ rfl) .nil)))

theorem F_laws_FnEventThread_P (code : List Int) {q : Bool} (h : F_laws_FnEventThread code = some q) : PCall Tryd.prog 5 [eL cY code] (Bo q) := by
  refine PCall.mkT Tryd.func5 rfl (by kernel_rfl) rfl (by kernel_rfl) (e0 := envOf [(0, eL cY code)]) (weak_cons rfl weak_nil) ?_
  refine T.seq ?_
  refine T.region ?_
  refine oN (EvN.asg (Bo false) rfl) ?_
  refine TO.nil ?_
  refine T.seq ?_
  refine T.seq ?_
  refine T.region ?_
  refine oN (EvN.mv (eL cY code) rfl) ?_
  refine oN (EvN.lenL sl29 rfl) ?_
  refine oN (EvN.igt rfl rfl) ?_
  refine TO.nil ?_
  refine T.cond rfl (fun q1 => ?_) (fun q1 => ?_)
  · replace h := condT q1 h
    refine T.seq ?_
    refine T.region ?_
    refine oN (EvN.asg (Bo true) rfl) ?_
    refine TO.nil ?_
    refine T.ret ?_
    obtain rfl := Option.some.inj h
    repeat first | refine retS ?_ | refine retB ?_
    exact Fin.ret (vs := [Bo true]) (.cons (.tmp rfl) .nil) (.of_isF 9 _ rfl)
  · replace h := condF q1 h
    refine T.skip ?_
    refine T.seq ?_
    refine T.region ?_
    refine oN (EvN.mv (eL cY code) rfl) ?_
    obtain ⟨v2, cv2, h⟩ := bindL h
    refine oN (EvN.call rfl rfl rfl (F_spec_DrawEventText_P code cv2) rfl) ?_
    refine oN (EvN.mv (.tup [eL (cL Ximpl_Instr.c) v2.1, I v2.2]) rfl) ?_
    refine oN (EvN.ext (eL (cL Ximpl_Instr.c) v2.1) rfl rfl) ?_
    refine oN (EvN.ext (I v2.2) rfl rfl) ?_
    refine oN (EvN.asg (eL (cL Ximpl_Instr.c) v2.1) rfl) ?_
    refine oN (EvN.asg (I v2.2) rfl) ?_
    refine TO.nil ?_
    refine T.seq ?_
    refine T.clean (H0 := []) (e0 := envOf [(4, I v2.2), (3, eL (cL Ximpl_Instr.c) v2.1)]) rfl (weak_cons rfl (weak_cons rfl weak_nil)) ?_
    refine T.region ?_
    refine oN (EvN.mv (eL (cL Ximpl_Instr.c) v2.1) rfl) ?_
    refine oN (EvN.mv (I v2.2) rfl) ?_
    obtain ⟨v3, cv3, h⟩ := bindL h
    refine oN (EvN.call rfl rfl rfl (F_impl_EventText_P v2.1 v2.2 cv3) rfl) ?_
    refine oN (EvN.asg (St v3) rfl) ?_
    refine TO.nil ?_
    refine T.seq ?_
    refine T.region ?_
    refine oN (EvN.mv (eL (cL Ximpl_Instr.c) v2.1) rfl) ?_
    obtain ⟨v4, cv4, h⟩ := bindL h
    refine oN (EvN.call rfl rfl rfl (F_impl_EventsOf_P v2.1 cv4) rfl) ?_
    refine oN (EvN.asg (eL Ximpl_Event.c v4) rfl) ?_
    refine TO.nil ?_
    refine T.seq ?_
    refine T.seq ?_
    refine T.region ?_
    refine oN (EvN.mv (St v3) rfl) ?_
    refine oN (EvN.mv (eL (cL Ximpl_Instr.c) v2.1) rfl) ?_
    refine oN (EvN.mv (I v2.2) rfl) ?_
    obtain ⟨v5, cv5, h⟩ := bindL h
    refine oN (EvN.call rfl rfl rfl (F_spec_EventText_P v2.1 v2.2 cv5) rfl) ?_
    refine oN (EvN.sne rfl rfl) ?_
    refine oN (EvN.mv (Bo (!decide (v3 = v5))) rfl) ?_
    obtain ⟨s6, h, ks6⟩ := bindL h
    refine TO.joinF (G := Unit) 3 (fun _ => True) (fun _ => [(29, Bo s6), (6, eL Ximpl_Event.c v4), (5, St v3), (4, I v2.2), (3, eL (cL Ximpl_Instr.c) v2.1)]) (fun _ => []) ?_ (fun js6 => ?_)
    rotate_left
    · clear ks6
      rcases bifL h with ⟨q7, h⟩ | ⟨q7, h⟩
      · refine gS rfl q7 ?_
        refine gS rfl q7 ?_
        refine oN (EvN.pickT rfl q7 (Bo true) rfl) ?_
        obtain rfl := Option.some.inj h
        exact js6 _ _ ⟨(), trivial, cutW rfl (weak_cons rfl (weak_cons rfl (weak_cons rfl (weak_cons rfl (weak_cons rfl weak_nil)))))⟩
      · refine gN rfl q7 (EvN.mv (St v3) rfl) ?_
        refine gN rfl q7 (EvN.seq rfl rfl) ?_
        refine oN (EvN.pickF rfl q7 (Bo (decide (v3 = (⟨#[]⟩ : ByteArray)))) rfl) ?_
        obtain rfl := Option.some.inj h
        exact js6 _ _ ⟨(), trivial, cutW rfl (weak_cons rfl (weak_cons rfl (weak_cons rfl (weak_cons rfl (weak_cons rfl weak_nil)))))⟩
    · intro _ _
      replace h := ks6
      clear ks6
      refine oN (EvN.mv (Bo s6) rfl) ?_
      obtain ⟨s8, h, ks8⟩ := bindL h
      refine TO.joinF (G := Unit) 7 (fun _ => True) (fun _ => [(37, Bo s8), (6, eL Ximpl_Event.c v4), (5, St v3), (4, I v2.2), (3, eL (cL Ximpl_Instr.c) v2.1)]) (fun _ => []) ?_ (fun js8 => ?_)
      rotate_left
      · clear ks8
        rcases bifL h with ⟨q9, h⟩ | ⟨q9, h⟩
        · refine gS rfl q9 ?_
          refine gS rfl q9 ?_
          refine gS rfl q9 ?_
          refine gS rfl q9 ?_
          refine gS rfl q9 ?_
          refine gS rfl q9 ?_
          refine oN (EvN.pickT rfl q9 (Bo true) rfl) ?_
          obtain rfl := Option.some.inj h
          exact js8 _ _ ⟨(), trivial, cutW rfl (weak_cons rfl (weak_cons rfl (weak_cons rfl (weak_cons rfl (weak_cons rfl weak_nil)))))⟩
        · refine gN rfl q9 (EvN.mv (eL Ximpl_Event.c v4) rfl) ?_
          refine gN rfl q9 (EvN.mv (I v2.2) rfl) ?_
          obtain ⟨g10, h⟩ := gdD h
          refine gN rfl q9 (EvN.ixL sl32 rfl rfl g10 (fun _ => rfl)) ?_
          refine gN rfl q9 (EvN.fafp Tryd.underlying35 rfl (by kernel_rfl) rfl) ?_
          refine gN rfl q9 (EvN.loadfp (I ((v4.getD v2.2.toNat default).Thread)) ty3 rfl rfl) ?_
          refine gN rfl q9 (EvN.ilt rfl rfl) ?_
          refine oN (EvN.pickF rfl q9 (Bo (decide (((v4.getD v2.2.toNat default).Thread) < (0 : Int)))) rfl) ?_
          obtain rfl := Option.some.inj h
          exact js8 _ _ ⟨(), trivial, cutW rfl (weak_cons rfl (weak_cons rfl (weak_cons rfl (weak_cons rfl (weak_cons rfl weak_nil)))))⟩
      · intro _ _
        replace h := ks8
        clear ks8
        refine TO.nil ?_
        refine T.cond rfl (fun q11 => ?_) (fun q11 => ?_)
        · replace h := condT q11 h
          refine T.seq ?_
          refine T.region ?_
          refine oN (EvN.mv (St v3) rfl) ?_
          refine oN (EvN.mv (eL (cL Ximpl_Instr.c) v2.1) rfl) ?_
          refine oN (EvN.mv (I v2.2) rfl) ?_
          obtain ⟨v12, cv12, h⟩ := bindL h
          refine oN (EvN.call rfl rfl rfl (F_spec_EventText_P v2.1 v2.2 cv12) rfl) ?_
          refine oN (EvN.seq rfl rfl) ?_
          refine oN (EvN.asg (Bo (decide (v3 = v12))) rfl) ?_
          refine TO.nil ?_
          refine T.ret ?_
          obtain rfl := Option.some.inj h
          repeat first | refine retS ?_ | refine retB ?_
          exact Fin.ret (vs := [Bo (decide (v3 = v12))]) (.cons (.tmp rfl) .nil) (.of_isF 9 _ rfl)
        · replace h := condF q11 h
          refine T.skip ?_
          refine T.seq ?_
          refine T.drawF (fun _ => ([], false)) (by kernel_rfl) (by kernel_rfl) ?_
          refine fN rfl (EvN.mv (eL (cL Ximpl_Instr.c) v2.1) rfl) ?_
          refine fN rfl (EvN.mv (eL Ximpl_Event.c v4) rfl) ?_
          refine fN rfl (EvN.mv (I v2.2) rfl) ?_
          obtain ⟨g13, h⟩ := gdD h
          refine fN rfl (EvN.ixL sl32 rfl rfl g13 (fun _ => rfl)) ?_
          refine fN rfl (EvN.fafp Tryd.underlying35 rfl (by kernel_rfl) rfl) ?_
          refine fN rfl (EvN.loadfp (I ((v4.getD v2.2.toNat default).Thread)) ty3 rfl rfl) ?_
          obtain ⟨g14, h⟩ := gdD h
          refine fN rfl (EvN.ixL sl25 rfl rfl g14 (fun _ => rfl)) ?_
          refine fN rfl (EvN.loadfp (eL Ximpl_Instr.c (v2.1.getD ((v4.getD v2.2.toNat default).Thread).toNat default)) ty40 rfl rfl) ?_
          refine fN rfl (EvN.mv (eL Ximpl_Event.c v4) rfl) ?_
          refine fN rfl (EvN.mv (I v2.2) rfl) ?_
          refine fN rfl (EvN.ixL sl32 rfl rfl g13 (fun _ => rfl)) ?_
          refine fN rfl (EvN.fafp Tryd.underlying35 rfl (by kernel_rfl) rfl) ?_
          refine fN rfl (EvN.loadfp (I ((v4.getD v2.2.toNat default).Index)) ty3 rfl rfl) ?_
          obtain ⟨g15, h⟩ := gdD h
          refine fN rfl (EvN.ixL sl40 rfl rfl g15 (fun _ => rfl)) ?_
          refine fN rfl (EvN.loadfp (.agg (Ximpl_Instr.c ((v2.1.getD ((v4.getD v2.2.toNat default).Thread).toNat default).getD ((v4.getD v2.2.toNat default).Index).toNat default))) ty39 rfl rfl) ?_
          obtain ⟨v16, cv16, h⟩ := bindL h
          refine fN rfl (EvN.call rfl rfl rfl (F_impl_FormatInstr_P ((v2.1.getD ((v4.getD v2.2.toNat default).Thread).toNat default).getD ((v4.getD v2.2.toNat default).Index).toNat default) cv16) rfl) ?_
          refine fN rfl (EvN.asg (St v16) rfl) ?_
          refine TF.nil ?_
          refine T.seq ?_
          refine T.clean (H0 := []) (e0 := envOf [(7, St v16), (5, St v3)]) rfl (weak_cons rfl (weak_cons rfl weak_nil)) ?_
          refine T.region ?_
          refine oN (EvN.mv (St v3) rfl) ?_
          refine oN (EvN.lenst Tryd.underlying9 rfl) ?_
          refine oN (EvN.mv (St v16) rfl) ?_
          refine oN (EvN.lenst Tryd.underlying9 rfl) ?_
          obtain ⟨g17, h⟩ := gdW h
          refine oN (EvN.add rfl rfl g17) ?_
          refine oN (EvN.ieq rfl rfl) ?_
          refine oN (EvN.mv (Bo ((v3.size : Int) == ((v16.size : Int) + (2 : Int)))) rfl) ?_
          obtain ⟨s18, h, ks18⟩ := bindL h
          refine TO.joinF (G := Unit) 5 (fun _ => True) (fun _ => [(70, Bo s18)]) (fun _ => []) ?_ (fun js18 => ?_)
          rotate_left
          · clear ks18
            rcases bifL h with ⟨q19, h⟩ | ⟨q19, h⟩
            · refine gN rfl q19 (EvN.mv (St v3) rfl) ?_
              obtain ⟨g20, h⟩ := gdD h
              refine gN rfl q19 (EvN.slst Tryd.underlying9 rfl (.yes rfl) .no g20) ?_
              refine gN rfl q19 (EvN.mv (St v16) rfl) ?_
              refine gN rfl q19 (EvN.seq rfl rfl) ?_
              refine oN (EvN.pickT rfl q19 (Bo (decide ((v3.extract (2 : Int).toNat (v3.size : Int).toNat) = v16))) rfl) ?_
              obtain rfl := Option.some.inj h
              exact js18 _ _ ⟨(), trivial, cutW rfl (weak_cons rfl weak_nil)⟩
            · refine gS rfl q19 ?_
              refine gS rfl q19 ?_
              refine gS rfl q19 ?_
              refine gS rfl q19 ?_
              refine oN (EvN.pickF rfl q19 (Bo false) rfl) ?_
              obtain rfl := Option.some.inj h
              exact js18 _ _ ⟨(), trivial, cutW rfl (weak_cons rfl weak_nil)⟩
          · intro _ _
            replace h := ks18
            clear ks18
            refine oN (EvN.asg (Bo s18) rfl) ?_
            refine TO.nil ?_
            refine T.ret ?_
            obtain rfl := Option.some.inj h
            repeat first | refine retS ?_ | refine retB ?_
            exact Fin.ret (vs := [Bo s18]) (.cons (.tmp rfl) .nil) (.of_isF 9 _ rfl)
end Go.Proofs.YtjogdblionfmiaaDoor
