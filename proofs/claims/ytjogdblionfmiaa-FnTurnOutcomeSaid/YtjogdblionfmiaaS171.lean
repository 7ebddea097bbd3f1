/-
  The program's code computes the functions over plain values; printed by lift.py. No conditions.
-/
import Derived.Test.YtjogdblionfmiaaS17d
import Derived.Test.YtjogdblionfmiaaSf
import Derived.Test.YtjogdblionfmiaaBrTi
import Derived.Test.YtjogdblionfmiaaSP1
import Derived.Test.YtjogdblionfmiaaST1
namespace Go.Proofs.Ytjogdblionfmiaa
open Go.RowKit
set_option maxRecDepth 100000
theorem F_laws_FnTurnOutcome_P (code : List Int) {q : Bool} (h : F_laws_FnTurnOutcome code = some q) : PCall Try.prog 6 [eL cY code] (Bo q) := by
  refine PCall.mkT Try.func6 rfl (by kernel_rfl) rfl (by kernel_rfl) (e0 := envOf [(0, eL cY code)]) (weak_cons rfl weak_nil) ?_
  refine T.seq ?_
  refine T.region ?_
  refine oN (EvN.asg (Bo false) rfl) ?_
  refine TO.nil ?_
  refine T.seq ?_
  refine T.seq ?_
  refine T.region ?_
  refine oN (EvN.mv (eL cY code) rfl) ?_
  refine oN (EvN.lenL sl22 rfl) ?_
  refine oN (EvN.igt rfl rfl) ?_
  refine TO.nil ?_
  refine T.cond rfl (fun q1 => ?_) (fun q1 => ?_)
  · replace h := condT q1 h
    refine T.seq ?_
    refine T.region ?_
    refine oN (EvN.asg (Bo true) rfl) ?_
    refine TO.nil ?_
    refine T.ret ?_
    obtain rfl := Option.some.inj h
    repeat first | refine retS ?_ | refine retB ?_
    exact Fin.ret (vs := [Bo true]) (.cons (.tmp rfl) .nil) (.of_isF 9 _ rfl)
  · replace h := condF q1 h
    refine T.skip ?_
    refine T.seq ?_
    refine T.region ?_
    refine oN (EvN.mv (eL cY code) rfl) ?_
    obtain ⟨v2, cv2, h⟩ := bindL h
    refine oN (EvN.call rfl rfl rfl (F_spec_DrawTurnOutcome_P code cv2) rfl) ?_
    refine oN (EvN.mv (.tup [eL (cL Ximpl_Instr.c) v2.1, eL cI v2.2.1, I v2.2.2.1, I v2.2.2.2.1, I v2.2.2.2.2.1, I v2.2.2.2.2.2]) rfl) ?_
    refine oN (EvN.ext (eL (cL Ximpl_Instr.c) v2.1) rfl rfl) ?_
    refine oN (EvN.ext (eL cI v2.2.1) rfl rfl) ?_
    refine oN (EvN.ext (I v2.2.2.1) rfl rfl) ?_
    refine oN (EvN.ext (I v2.2.2.2.1) rfl rfl) ?_
    refine oN (EvN.ext (I v2.2.2.2.2.1) rfl rfl) ?_
    refine oN (EvN.ext (I v2.2.2.2.2.2) rfl rfl) ?_
    refine oN (EvN.asg (eL (cL Ximpl_Instr.c) v2.1) rfl) ?_
    refine oN (EvN.asg (eL cI v2.2.1) rfl) ?_
    refine oN (EvN.asg (I v2.2.2.1) rfl) ?_
    refine oN (EvN.asg (I v2.2.2.2.1) rfl) ?_
    refine oN (EvN.asg (I v2.2.2.2.2.1) rfl) ?_
    refine oN (EvN.asg (I v2.2.2.2.2.2) rfl) ?_
    refine TO.nil ?_
    refine T.seq ?_
    refine T.clean (H0 := []) (e0 := envOf [(8, I v2.2.2.2.2.2), (7, I v2.2.2.2.2.1), (6, I v2.2.2.2.1), (5, I v2.2.2.1), (4, eL cI v2.2.1), (3, eL (cL Ximpl_Instr.c) v2.1)]) rfl (weak_cons rfl (weak_cons rfl (weak_cons rfl (weak_cons rfl (weak_cons rfl (weak_cons rfl weak_nil)))))) ?_
    refine T.region ?_
    refine oN (EvN.mv (eL (cL Ximpl_Instr.c) v2.1) rfl) ?_
    refine oN (EvN.mv (eL cI v2.2.1) rfl) ?_
    refine oN (EvN.mv (I v2.2.2.1) rfl) ?_
    refine oN (EvN.mv (I v2.2.2.2.1) rfl) ?_
    refine oN (EvN.mv (I v2.2.2.2.2.1) rfl) ?_
    refine oN (EvN.mv (I v2.2.2.2.2.2) rfl) ?_
    obtain ⟨v3, cv3, h⟩ := bindL h
    refine oN (EvN.call rfl rfl rfl (F_impl_TurnOutcome_P v2.1 v2.2.1 v2.2.2.1 v2.2.2.2.1 v2.2.2.2.2.1 v2.2.2.2.2.2 cv3) rfl) ?_
    refine oN (EvN.mv (.tup [eL cI v3.1, Bo v3.2]) rfl) ?_
    refine oN (EvN.ext (eL cI v3.1) rfl rfl) ?_
    refine oN (EvN.ext (Bo v3.2) rfl rfl) ?_
    refine oN (EvN.asg (eL cI v3.1) rfl) ?_
    refine oN (EvN.asg (Bo v3.2) rfl) ?_
    refine TO.nil ?_
    refine T.seq ?_
    refine T.clean (H0 := []) (e0 := envOf [(10, Bo v3.2), (9, eL cI v3.1), (8, I v2.2.2.2.2.2), (7, I v2.2.2.2.2.1), (6, I v2.2.2.2.1), (5, I v2.2.2.1), (4, eL cI v2.2.1), (3, eL (cL Ximpl_Instr.c) v2.1)]) rfl (weak_cons rfl (weak_cons rfl (weak_cons rfl (weak_cons rfl (weak_cons rfl (weak_cons rfl (weak_cons rfl (weak_cons rfl weak_nil)))))))) ?_
    refine T.region ?_
    refine oN (EvN.mv (eL (cL Ximpl_Instr.c) v2.1) rfl) ?_
    refine oN (EvN.mv (eL cI v2.2.1) rfl) ?_
    refine oN (EvN.mv (I v2.2.2.1) rfl) ?_
    refine oN (EvN.mv (I v2.2.2.2.1) rfl) ?_
    refine oN (EvN.mv (I v2.2.2.2.2.1) rfl) ?_
    refine oN (EvN.mv (I v2.2.2.2.2.2) rfl) ?_
    obtain ⟨v4, cv4, h⟩ := bindL h
    refine oN (EvN.call rfl rfl rfl (F_spec_TurnOutcome_P v2.1 v2.2.1 v2.2.2.1 v2.2.2.2.1 v2.2.2.2.2.1 v2.2.2.2.2.2 cv4) rfl) ?_
    refine oN (EvN.mv (.tup [eL cI v4.1, Bo v4.2]) rfl) ?_
    refine oN (EvN.ext (eL cI v4.1) rfl rfl) ?_
    refine oN (EvN.ext (Bo v4.2) rfl rfl) ?_
    refine oN (EvN.asg (eL cI v4.1) rfl) ?_
    refine oN (EvN.asg (Bo v4.2) rfl) ?_
    refine TO.nil ?_
    refine T.seq ?_
    refine T.seq ?_
    refine T.clean (H0 := []) (e0 := envOf [(12, Bo v4.2), (11, eL cI v4.1), (10, Bo v3.2), (9, eL cI v3.1), (8, I v2.2.2.2.2.2), (7, I v2.2.2.2.2.1), (6, I v2.2.2.2.1), (5, I v2.2.2.1), (4, eL cI v2.2.1), (3, eL (cL Ximpl_Instr.c) v2.1)]) rfl (weak_cons rfl (weak_cons rfl (weak_cons rfl (weak_cons rfl (weak_cons rfl (weak_cons rfl (weak_cons rfl (weak_cons rfl (weak_cons rfl (weak_cons rfl weak_nil)))))))))) ?_
    refine T.region ?_
    refine oN (EvN.mv (Bo v3.2) rfl) ?_
    refine oN (EvN.mv (Bo v4.2) rfl) ?_
    refine oN (EvN.bne bt4 rfl rfl) ?_
    refine oN (EvN.mv (Bo (!(v3.2 == v4.2))) rfl) ?_
    obtain ⟨s5, h, ks5⟩ := bindL h
    refine TO.joinF (G := Unit) 5 (fun _ => True) (fun _ => [(59, Bo s5), (12, Bo v4.2), (11, eL cI v4.1), (10, Bo v3.2), (9, eL cI v3.1), (8, I v2.2.2.2.2.2), (7, I v2.2.2.2.2.1), (6, I v2.2.2.2.1), (5, I v2.2.2.1), (4, eL cI v2.2.1), (3, eL (cL Ximpl_Instr.c) v2.1)]) (fun _ => []) ?_ (fun js5 => ?_)
    rotate_left
    · clear ks5
      rcases bifL h with ⟨q6, h⟩ | ⟨q6, h⟩
      · refine gS rfl q6 ?_
        refine gS rfl q6 ?_
        refine gS rfl q6 ?_
        refine gS rfl q6 ?_
        refine oN (EvN.pickT rfl q6 (Bo true) rfl) ?_
        obtain rfl := Option.some.inj h
        exact js5 _ _ ⟨(), trivial, cutW rfl (weak_cons rfl (weak_cons rfl (weak_cons rfl (weak_cons rfl (weak_cons rfl (weak_cons rfl (weak_cons rfl (weak_cons rfl (weak_cons rfl (weak_cons rfl (weak_cons rfl weak_nil)))))))))))⟩
      · refine gN rfl q6 (EvN.mv (eL cI v3.1) rfl) ?_
        refine gN rfl q6 (EvN.mv (eL cI v4.1) rfl) ?_
        obtain ⟨v7, cv7, h⟩ := bindL h
        refine gN rfl q6 (EvN.call rfl rfl rfl (F_laws_wmInts_P v3.1 v4.1 cv7) rfl) ?_
        refine gN rfl q6 (EvN.not rfl) ?_
        refine oN (EvN.pickF rfl q6 (Bo (!v7)) rfl) ?_
        obtain rfl := Option.some.inj h
        exact js5 _ _ ⟨(), trivial, cutW rfl (weak_cons rfl (weak_cons rfl (weak_cons rfl (weak_cons rfl (weak_cons rfl (weak_cons rfl (weak_cons rfl (weak_cons rfl (weak_cons rfl (weak_cons rfl (weak_cons rfl weak_nil)))))))))))⟩
    · intro _ _
      replace h := ks5
      clear ks5
      refine oN (EvN.mv (Bo s5) rfl) ?_
      obtain ⟨s8, h, ks8⟩ := bindL h
      refine TO.joinF (G := Unit) 3 (fun _ => True) (fun _ => [(63, Bo s8), (12, Bo v4.2), (11, eL cI v4.1), (10, Bo v3.2), (9, eL cI v3.1), (8, I v2.2.2.2.2.2), (7, I v2.2.2.2.2.1), (6, I v2.2.2.2.1), (5, I v2.2.2.1), (4, eL cI v2.2.1), (3, eL (cL Ximpl_Instr.c) v2.1)]) (fun _ => []) ?_ (fun js8 => ?_)
      rotate_left
      · clear ks8
        rcases bifL h with ⟨q9, h⟩ | ⟨q9, h⟩
        · refine gS rfl q9 ?_
          refine gS rfl q9 ?_
          refine oN (EvN.pickT rfl q9 (Bo true) rfl) ?_
          obtain rfl := Option.some.inj h
          exact js8 _ _ ⟨(), trivial, cutW rfl (weak_cons rfl (weak_cons rfl (weak_cons rfl (weak_cons rfl (weak_cons rfl (weak_cons rfl (weak_cons rfl (weak_cons rfl (weak_cons rfl (weak_cons rfl (weak_cons rfl weak_nil)))))))))))⟩
        · refine gN rfl q9 (EvN.mv (Bo v3.2) rfl) ?_
          refine gN rfl q9 (EvN.not rfl) ?_
          refine oN (EvN.pickF rfl q9 (Bo (!v3.2)) rfl) ?_
          obtain rfl := Option.some.inj h
          exact js8 _ _ ⟨(), trivial, cutW rfl (weak_cons rfl (weak_cons rfl (weak_cons rfl (weak_cons rfl (weak_cons rfl (weak_cons rfl (weak_cons rfl (weak_cons rfl (weak_cons rfl (weak_cons rfl (weak_cons rfl weak_nil)))))))))))⟩
      · intro _ _
        replace h := ks8
        clear ks8
        refine TO.nil ?_
        refine T.cond rfl (fun q10 => ?_) (fun q10 => ?_)
        · replace h := condT q10 h
          refine T.seq ?_
          refine T.clean (H0 := []) (e0 := envOf [(12, Bo v4.2), (11, eL cI v4.1), (10, Bo v3.2), (9, eL cI v3.1)]) rfl (weak_cons rfl (weak_cons rfl (weak_cons rfl (weak_cons rfl weak_nil)))) ?_
          refine T.region ?_
          refine oN (EvN.mv (Bo v3.2) rfl) ?_
          refine oN (EvN.mv (Bo v4.2) rfl) ?_
          refine oN (EvN.beq bt4 rfl rfl) ?_
          refine oN (EvN.mv (Bo (v3.2 == v4.2)) rfl) ?_
          obtain ⟨s11, h, ks11⟩ := bindL h
          refine TO.joinF (G := Unit) 4 (fun _ => True) (fun _ => [(71, Bo s11)]) (fun _ => []) ?_ (fun js11 => ?_)
          rotate_left
          · clear ks11
            rcases bifL h with ⟨q12, h⟩ | ⟨q12, h⟩
            · refine gN rfl q12 (EvN.mv (eL cI v3.1) rfl) ?_
              refine gN rfl q12 (EvN.mv (eL cI v4.1) rfl) ?_
              obtain ⟨v13, cv13, h⟩ := bindL h
              refine gN rfl q12 (EvN.call rfl rfl rfl (F_laws_wmInts_P v3.1 v4.1 cv13) rfl) ?_
              refine oN (EvN.pickT rfl q12 (Bo v13) rfl) ?_
              obtain rfl := Option.some.inj h
              exact js11 _ _ ⟨(), trivial, cutW rfl (weak_cons rfl weak_nil)⟩
            · refine gS rfl q12 ?_
              refine gS rfl q12 ?_
              refine gS rfl q12 ?_
              refine oN (EvN.pickF rfl q12 (Bo false) rfl) ?_
              obtain rfl := Option.some.inj h
              exact js11 _ _ ⟨(), trivial, cutW rfl (weak_cons rfl weak_nil)⟩
          · intro _ _
            replace h := ks11
            clear ks11
            refine oN (EvN.asg (Bo s11) rfl) ?_
            refine TO.nil ?_
            refine T.ret ?_
            obtain rfl := Option.some.inj h
            repeat first | refine retS ?_ | refine retB ?_
            exact Fin.ret (vs := [Bo s11]) (.cons (.tmp rfl) .nil) (.of_isF 9 _ rfl)
        · replace h := condF q10 h
          refine T.skip ?_
          refine T.seq ?_
          refine T.region ?_
          refine oN (EvN.mv (eL (cL Ximpl_Instr.c) v2.1) rfl) ?_
          refine oN (EvN.mv (eL cI v3.1) rfl) ?_
          refine oN (EvN.mv (I v2.2.2.1) rfl) ?_
          refine oN (EvN.mv (I v2.2.2.2.1) rfl) ?_
          refine oN (EvN.mv (I v2.2.2.2.2.1) rfl) ?_
          refine oN (EvN.mv (I v2.2.2.2.2.2) rfl) ?_
          obtain ⟨v14, cv14, h⟩ := bindL h
          refine oN (EvN.call rfl rfl rfl (F_impl_TurnOutcome_P v2.1 v3.1 v2.2.2.1 v2.2.2.2.1 v2.2.2.2.2.1 v2.2.2.2.2.2 cv14) rfl) ?_
          refine oN (EvN.mv (.tup [eL cI v14.1, Bo v14.2]) rfl) ?_
          refine oN (EvN.ext (eL cI v14.1) rfl rfl) ?_
          refine oN (EvN.ext (Bo v14.2) rfl rfl) ?_
          refine oN (EvN.asg (eL cI v14.1) rfl) ?_
          refine oN (EvN.asg (Bo v14.2) rfl) ?_
          refine TO.nil ?_
          refine T.seq ?_
          refine T.clean (H0 := []) (e0 := envOf [(14, Bo v14.2), (13, eL cI v14.1), (6, I v2.2.2.2.1), (5, I v2.2.2.1), (4, eL cI v2.2.1), (3, eL (cL Ximpl_Instr.c) v2.1)]) rfl (weak_cons rfl (weak_cons rfl (weak_cons rfl (weak_cons rfl (weak_cons rfl (weak_cons rfl weak_nil)))))) ?_
          refine T.region ?_
          refine oN (EvN.mv (eL (cL Ximpl_Instr.c) v2.1) rfl) ?_
          refine oN (EvN.mv (I v2.2.2.1) rfl) ?_
          refine oN (EvN.mv (I v2.2.2.2.1) rfl) ?_
          obtain ⟨v15, cv15, h⟩ := bindL h
          refine oN (EvN.call rfl rfl rfl (F_impl_TurnThreads_P v2.1 v2.2.2.1 v2.2.2.2.1 cv15) rfl) ?_
          refine oN (EvN.mv (.tup [eL (cL Ximpl_Instr.c) v15.1, Bo v15.2]) rfl) ?_
          refine oN (EvN.ext (eL (cL Ximpl_Instr.c) v15.1) rfl rfl) ?_
          refine oN (EvN.ext (Bo v15.2) rfl rfl) ?_
          refine oN (EvN.asg (eL (cL Ximpl_Instr.c) v15.1) rfl) ?_
          refine oN (EvN.asg (Bo v15.2) rfl) ?_
          refine TO.nil ?_
          refine T.seq ?_
          refine T.clean (H0 := []) (e0 := envOf [(16, Bo v15.2), (15, eL (cL Ximpl_Instr.c) v15.1), (14, Bo v14.2), (13, eL cI v14.1), (6, I v2.2.2.2.1), (5, I v2.2.2.1), (4, eL cI v2.2.1), (3, eL (cL Ximpl_Instr.c) v2.1)]) rfl (weak_cons rfl (weak_cons rfl (weak_cons rfl (weak_cons rfl (weak_cons rfl (weak_cons rfl (weak_cons rfl (weak_cons rfl weak_nil)))))))) ?_
          refine T.region ?_
          refine oN (EvN.mv (eL (cL Ximpl_Instr.c) v15.1) rfl) ?_
          refine oN (EvN.mv (I v2.2.2.1) rfl) ?_
          refine oN (EvN.mv (I v2.2.2.2.1) rfl) ?_
          obtain ⟨v16, cv16, h⟩ := bindL h
          refine oN (EvN.call rfl rfl rfl (F_impl_TurnThreads_P v15.1 v2.2.2.1 v2.2.2.2.1 cv16) rfl) ?_
          refine oN (EvN.mv (.tup [eL (cL Ximpl_Instr.c) v16.1, Bo v16.2]) rfl) ?_
          refine oN (EvN.ext (eL (cL Ximpl_Instr.c) v16.1) rfl rfl) ?_
          refine oN (EvN.ext (Bo v16.2) rfl rfl) ?_
          refine oN (EvN.asg (eL (cL Ximpl_Instr.c) v16.1) rfl) ?_
          refine oN (EvN.asg (Bo v16.2) rfl) ?_
          refine TO.nil ?_
          refine T.seq ?_
          refine T.clean (H0 := []) (e0 := envOf [(18, Bo v16.2), (17, eL (cL Ximpl_Instr.c) v16.1), (16, Bo v15.2), (14, Bo v14.2), (13, eL cI v14.1), (4, eL cI v2.2.1), (3, eL (cL Ximpl_Instr.c) v2.1)]) rfl (weak_cons rfl (weak_cons rfl (weak_cons rfl (weak_cons rfl (weak_cons rfl (weak_cons rfl (weak_cons rfl weak_nil))))))) ?_
          refine T.region ?_
          refine oN (EvN.mv (Bo v14.2) rfl) ?_
          refine oN (EvN.mv (Bo v14.2) rfl) ?_
          obtain ⟨s17, h, ks17⟩ := bindL h
          refine TO.joinF (G := Unit) 4 (fun _ => True) (fun _ => [(101, Bo s17), (18, Bo v16.2), (17, eL (cL Ximpl_Instr.c) v16.1), (16, Bo v15.2), (3, eL (cL Ximpl_Instr.c) v2.1)]) (fun _ => []) ?_ (fun js17 => ?_)
          rotate_left
          · clear ks17
            rcases bifL h with ⟨q18, h⟩ | ⟨q18, h⟩
            · refine gN rfl q18 (EvN.mv (eL cI v14.1) rfl) ?_
              refine gN rfl q18 (EvN.mv (eL cI v2.2.1) rfl) ?_
              obtain ⟨v19, cv19, h⟩ := bindL h
              refine gN rfl q18 (EvN.call rfl rfl rfl (F_laws_wmInts_P v14.1 v2.2.1 cv19) rfl) ?_
              refine oN (EvN.pickT rfl q18 (Bo v19) rfl) ?_
              obtain rfl := Option.some.inj h
              exact js17 _ _ ⟨(), trivial, cutW rfl (weak_cons rfl (weak_cons rfl (weak_cons rfl (weak_cons rfl (weak_cons rfl weak_nil)))))⟩
            · refine gS rfl q18 ?_
              refine gS rfl q18 ?_
              refine gS rfl q18 ?_
              refine oN (EvN.pickF rfl q18 (Bo false) rfl) ?_
              obtain rfl := Option.some.inj h
              exact js17 _ _ ⟨(), trivial, cutW rfl (weak_cons rfl (weak_cons rfl (weak_cons rfl (weak_cons rfl (weak_cons rfl weak_nil)))))⟩
          · intro _ _
            replace h := ks17
            clear ks17
            refine oN (EvN.mv (Bo s17) rfl) ?_
            obtain ⟨s20, h, ks20⟩ := bindL h
            refine TO.joinF (G := Unit) 2 (fun _ => True) (fun _ => [(104, Bo s20), (18, Bo v16.2), (17, eL (cL Ximpl_Instr.c) v16.1), (3, eL (cL Ximpl_Instr.c) v2.1)]) (fun _ => []) ?_ (fun js20 => ?_)
            rotate_left
            · clear ks20
              rcases bifL h with ⟨q21, h⟩ | ⟨q21, h⟩
              · refine gN rfl q21 (EvN.mv (Bo v15.2) rfl) ?_
                refine oN (EvN.pickT rfl q21 (Bo v15.2) rfl) ?_
                obtain rfl := Option.some.inj h
                exact js20 _ _ ⟨(), trivial, cutW rfl (weak_cons rfl (weak_cons rfl (weak_cons rfl (weak_cons rfl weak_nil))))⟩
              · refine gS rfl q21 ?_
                refine oN (EvN.pickF rfl q21 (Bo false) rfl) ?_
                obtain rfl := Option.some.inj h
                exact js20 _ _ ⟨(), trivial, cutW rfl (weak_cons rfl (weak_cons rfl (weak_cons rfl (weak_cons rfl weak_nil))))⟩
            · intro _ _
              replace h := ks20
              clear ks20
              refine oN (EvN.mv (Bo s20) rfl) ?_
              obtain ⟨s22, h, ks22⟩ := bindL h
              refine TO.joinF (G := Unit) 2 (fun _ => True) (fun _ => [(107, Bo s22), (17, eL (cL Ximpl_Instr.c) v16.1), (3, eL (cL Ximpl_Instr.c) v2.1)]) (fun _ => []) ?_ (fun js22 => ?_)
              rotate_left
              · clear ks22
                rcases bifL h with ⟨q23, h⟩ | ⟨q23, h⟩
                · refine gN rfl q23 (EvN.mv (Bo v16.2) rfl) ?_
                  refine oN (EvN.pickT rfl q23 (Bo v16.2) rfl) ?_
                  obtain rfl := Option.some.inj h
                  exact js22 _ _ ⟨(), trivial, cutW rfl (weak_cons rfl (weak_cons rfl (weak_cons rfl weak_nil)))⟩
                · refine gS rfl q23 ?_
                  refine oN (EvN.pickF rfl q23 (Bo false) rfl) ?_
                  obtain rfl := Option.some.inj h
                  exact js22 _ _ ⟨(), trivial, cutW rfl (weak_cons rfl (weak_cons rfl (weak_cons rfl weak_nil)))⟩
              · intro _ _
                replace h := ks22
                clear ks22
                refine oN (EvN.mv (Bo s22) rfl) ?_
                obtain ⟨s24, h, ks24⟩ := bindL h
                refine TO.joinF (G := Unit) 4 (fun _ => True) (fun _ => [(112, Bo s24)]) (fun _ => []) ?_ (fun js24 => ?_)
                rotate_left
                · clear ks24
                  rcases bifL h with ⟨q25, h⟩ | ⟨q25, h⟩
                  · refine gN rfl q25 (EvN.mv (eL (cL Ximpl_Instr.c) v16.1) rfl) ?_
                    refine gN rfl q25 (EvN.mv (eL (cL Ximpl_Instr.c) v2.1) rfl) ?_
                    obtain ⟨v26, cv26, h⟩ := bindL h
                    refine gN rfl q25 (EvN.call rfl rfl rfl (F_impl_ProgramSame_P v16.1 v2.1 cv26) rfl) ?_
                    refine oN (EvN.pickT rfl q25 (Bo v26) rfl) ?_
                    obtain rfl := Option.some.inj h
                    exact js24 _ _ ⟨(), trivial, cutW rfl (weak_cons rfl weak_nil)⟩
                  · refine gS rfl q25 ?_
                    refine gS rfl q25 ?_
                    refine gS rfl q25 ?_
                    refine oN (EvN.pickF rfl q25 (Bo false) rfl) ?_
                    obtain rfl := Option.some.inj h
                    exact js24 _ _ ⟨(), trivial, cutW rfl (weak_cons rfl weak_nil)⟩
                · intro _ _
                  replace h := ks24
                  clear ks24
                  refine oN (EvN.asg (Bo s24) rfl) ?_
                  refine TO.nil ?_
                  refine T.ret ?_
                  obtain rfl := Option.some.inj h
                  repeat first | refine retS ?_ | refine retB ?_
                  exact Fin.ret (vs := [Bo s24]) (.cons (.tmp rfl) .nil) (.of_isF 9 _ rfl)
end Go.Proofs.Ytjogdblionfmiaa
