/-
  The program's code computes the functions over plain values; printed by lift.py. No conditions.
-/
import Derived.Test.YtjogdblionfmiaaS18d
import Derived.Test.YtjogdblionfmiaaSf
import Derived.Test.YtjogdblionfmiaaST1
namespace Go.Proofs.Ytjogdblionfmiaa
open Go.RowKit
set_option maxRecDepth 100000
theorem ty43 : TyF Try.prog 43 false 1 := ⟨by kernel_rfl, by kernel_rfl, by kernel_rfl, by kernel_rfl⟩
theorem zs43 : TyZ Try.prog 43 [.nil] := ⟨by kernel_rfl, by kernel_rfl⟩
theorem ty45 : TyF Try.prog 45 true 5 := ⟨by kernel_rfl, by kernel_rfl, by kernel_rfl, by kernel_rfl⟩
theorem zs45 : TyZ Try.prog 45 [I (0 : Int), I (0 : Int), I (0 : Int), I (0 : Int), .nil] := ⟨by kernel_rfl, by kernel_rfl⟩
theorem fs45 : TyS Try.prog 45 [(0, 1), (1, 1), (2, 1), (3, 1), (4, 1)] := ⟨by kernel_rfl⟩
theorem sl43 : SlT Try.prog 43 45 true 5 [I (0 : Int), I (0 : Int), I (0 : Int), I (0 : Int), .nil] 56 := ⟨Try.underlying43, ty45, zs45, rfl, rfl, by kernel_rfl⟩
theorem F_impl_isCondNode_P (c : Ximpl_Cond) {q : Bool} (h : F_impl_isCondNode c = some q) : PCall Try.prog 194 [.agg (Ximpl_Cond.c c)] (Bo q) := by
  refine PCall.mkT Try.func194 rfl (by kernel_rfl) rfl (by kernel_rfl) (e0 := envOf [(0, .agg (Ximpl_Cond.c c))]) (weak_cons rfl weak_nil) ?_
  refine T.seq ?_
  refine T.region ?_
  refine oN (EvN.bxF [I c.Op, I c.Thread, I c.Place, I c.Val, .nil] rfl rfl rfl) ?_
  refine oN (EvN.asg (Bo false) rfl) ?_
  refine TO.nil ?_
  refine T.seq ?_
  refine T.seq ?_
  refine T.region ?_
  refine oN (EvN.fafp Try.underlying45 rfl (by kernel_rfl) rfl) ?_
  refine oN (EvN.loadfp (I c.Op) ty3 rfl rfl) ?_
  refine TO.nil ?_
  refine T.block ?_
  refine T.seq ?_
  refine T.region ?_
  refine oN (EvN.ieq rfl rfl) ?_
  refine oN (EvN.asg (Bo (c.Op == (1 : Int))) rfl) ?_
  refine TO.nil ?_
  refine T.cond rfl (fun q1 => ?_) (fun q1 => ?_)
  · replace h := condT q1 h
    refine T.seq ?_
    refine T.clean (H0 := []) (e0 := envOf [(1, .fp (Ximpl_Cond.c c) 0)]) rfl (weak_cons rfl weak_nil) ?_
    refine T.region ?_
    refine oN (EvN.fafp Try.underlying45 rfl (by kernel_rfl) rfl) ?_
    refine oN (EvN.loadfp (I c.Thread) ty3 rfl rfl) ?_
    obtain ⟨v2, cv2, h⟩ := bindL h
    refine oN (EvN.call rfl rfl rfl (F_impl_within_P c.Thread (0 : Int) (2 : Int) cv2) rfl) ?_
    refine oN (EvN.mv (Bo v2) rfl) ?_
    obtain ⟨s3, h, ks3⟩ := bindL h
    refine TO.joinF (G := Unit) 4 (fun _ => True) (fun _ => [(14, Bo s3), (1, .fp (Ximpl_Cond.c c) 0)]) (fun _ => []) ?_ (fun js3 => ?_)
    rotate_left
    · clear ks3
      rcases bifL h with ⟨q4, h⟩ | ⟨q4, h⟩
      · refine gN rfl q4 (EvN.fafp Try.underlying45 rfl (by kernel_rfl) rfl) ?_
        refine gN rfl q4 (EvN.loadfp (I c.Place) ty3 rfl rfl) ?_
        obtain ⟨v5, cv5, h⟩ := bindL h
        refine gN rfl q4 (EvN.call rfl rfl rfl (F_impl_within_P c.Place (0 : Int) (2 : Int) cv5) rfl) ?_
        refine oN (EvN.pickT rfl q4 (Bo v5) rfl) ?_
        obtain rfl := Option.some.inj h
        exact js3 _ _ ⟨(), trivial, cutW rfl (weak_cons rfl (weak_cons rfl weak_nil))⟩
      · refine gS rfl q4 ?_
        refine gS rfl q4 ?_
        refine gS rfl q4 ?_
        refine oN (EvN.pickF rfl q4 (Bo false) rfl) ?_
        obtain rfl := Option.some.inj h
        exact js3 _ _ ⟨(), trivial, cutW rfl (weak_cons rfl (weak_cons rfl weak_nil))⟩
    · intro _ _
      replace h := ks3
      clear ks3
      refine oN (EvN.mv (Bo s3) rfl) ?_
      obtain ⟨s6, h, ks6⟩ := bindL h
      refine TO.joinF (G := Unit) 4 (fun _ => True) (fun _ => [(19, Bo s6), (1, .fp (Ximpl_Cond.c c) 0)]) (fun _ => []) ?_ (fun js6 => ?_)
      rotate_left
      · clear ks6
        rcases bifL h with ⟨q7, h⟩ | ⟨q7, h⟩
        · refine gN rfl q7 (EvN.fafp Try.underlying45 rfl (by kernel_rfl) rfl) ?_
          refine gN rfl q7 (EvN.loadfp (I c.Val) ty3 rfl rfl) ?_
          obtain ⟨v8, cv8, h⟩ := bindL h
          refine gN rfl q7 (EvN.call rfl rfl rfl (F_impl_within_P c.Val (0 : Int) (3 : Int) cv8) rfl) ?_
          refine oN (EvN.pickT rfl q7 (Bo v8) rfl) ?_
          obtain rfl := Option.some.inj h
          exact js6 _ _ ⟨(), trivial, cutW rfl (weak_cons rfl (weak_cons rfl weak_nil))⟩
        · refine gS rfl q7 ?_
          refine gS rfl q7 ?_
          refine gS rfl q7 ?_
          refine oN (EvN.pickF rfl q7 (Bo false) rfl) ?_
          obtain rfl := Option.some.inj h
          exact js6 _ _ ⟨(), trivial, cutW rfl (weak_cons rfl (weak_cons rfl weak_nil))⟩
      · intro _ _
        replace h := ks6
        clear ks6
        refine oN (EvN.mv (Bo s6) rfl) ?_
        obtain ⟨s9, h, ks9⟩ := bindL h
        refine TO.joinF (G := Unit) 5 (fun _ => True) (fun _ => [(25, Bo s9)]) (fun _ => []) ?_ (fun js9 => ?_)
        rotate_left
        · clear ks9
          rcases bifL h with ⟨q10, h⟩ | ⟨q10, h⟩
          · refine gN rfl q10 (EvN.fafp Try.underlying45 rfl (by kernel_rfl) rfl) ?_
            refine gN rfl q10 (EvN.loadfp (.nil) ty43 rfl rfl) ?_
            refine gN rfl q10 (EvN.lenZ sl43 rfl) ?_
            refine gN rfl q10 (EvN.ieq rfl rfl) ?_
            refine oN (EvN.pickT rfl q10 (Bo ((0 : Int) == (0 : Int))) rfl) ?_
            obtain rfl := Option.some.inj h
            exact js9 _ _ ⟨(), trivial, cutW rfl (weak_cons rfl weak_nil)⟩
          · refine gS rfl q10 ?_
            refine gS rfl q10 ?_
            refine gS rfl q10 ?_
            refine gS rfl q10 ?_
            refine oN (EvN.pickF rfl q10 (Bo false) rfl) ?_
            obtain rfl := Option.some.inj h
            exact js9 _ _ ⟨(), trivial, cutW rfl (weak_cons rfl weak_nil)⟩
        · intro _ _
          replace h := ks9
          clear ks9
          refine oN (EvN.asg (Bo s9) rfl) ?_
          refine TO.nil ?_
          refine T.ret ?_
          obtain rfl := Option.some.inj h
          repeat first | refine retS ?_ | refine retB ?_
          exact Fin.ret (vs := [Bo s9]) (.cons (.tmp rfl) .nil) (.of_isF 9 _ rfl)
  · replace h := condF q1 h
    refine T.seq ?_
    refine T.region ?_
    refine oN (EvN.ieq rfl rfl) ?_
    refine oN (EvN.asg (Bo (c.Op == (2 : Int))) rfl) ?_
    refine TO.nil ?_
    refine T.cond rfl (fun q11 => ?_) (fun q11 => ?_)
    · replace h := condT q11 h
      refine T.seq ?_
      refine T.clean (H0 := []) (e0 := envOf [(1, .fp (Ximpl_Cond.c c) 0)]) rfl (weak_cons rfl weak_nil) ?_
      refine T.region ?_
      refine oN (EvN.fafp Try.underlying45 rfl (by kernel_rfl) rfl) ?_
      refine oN (EvN.loadfp (I c.Thread) ty3 rfl rfl) ?_
      refine oN (EvN.ieq rfl rfl) ?_
      refine oN (EvN.mv (Bo (c.Thread == (0 : Int))) rfl) ?_
      obtain ⟨s12, h, ks12⟩ := bindL h
      refine TO.joinF (G := Unit) 4 (fun _ => True) (fun _ => [(35, Bo s12), (1, .fp (Ximpl_Cond.c c) 0)]) (fun _ => []) ?_ (fun js12 => ?_)
      rotate_left
      · clear ks12
        rcases bifL h with ⟨q13, h⟩ | ⟨q13, h⟩
        · refine gN rfl q13 (EvN.fafp Try.underlying45 rfl (by kernel_rfl) rfl) ?_
          refine gN rfl q13 (EvN.loadfp (I c.Place) ty3 rfl rfl) ?_
          obtain ⟨v14, cv14, h⟩ := bindL h
          refine gN rfl q13 (EvN.call rfl rfl rfl (F_impl_within_P c.Place (0 : Int) (2 : Int) cv14) rfl) ?_
          refine oN (EvN.pickT rfl q13 (Bo v14) rfl) ?_
          obtain rfl := Option.some.inj h
          exact js12 _ _ ⟨(), trivial, cutW rfl (weak_cons rfl (weak_cons rfl weak_nil))⟩
        · refine gS rfl q13 ?_
          refine gS rfl q13 ?_
          refine gS rfl q13 ?_
          refine oN (EvN.pickF rfl q13 (Bo false) rfl) ?_
          obtain rfl := Option.some.inj h
          exact js12 _ _ ⟨(), trivial, cutW rfl (weak_cons rfl (weak_cons rfl weak_nil))⟩
      · intro _ _
        replace h := ks12
        clear ks12
        refine oN (EvN.mv (Bo s12) rfl) ?_
        obtain ⟨s15, h, ks15⟩ := bindL h
        refine TO.joinF (G := Unit) 4 (fun _ => True) (fun _ => [(40, Bo s15), (1, .fp (Ximpl_Cond.c c) 0)]) (fun _ => []) ?_ (fun js15 => ?_)
        rotate_left
        · clear ks15
          rcases bifL h with ⟨q16, h⟩ | ⟨q16, h⟩
          · refine gN rfl q16 (EvN.fafp Try.underlying45 rfl (by kernel_rfl) rfl) ?_
            refine gN rfl q16 (EvN.loadfp (I c.Val) ty3 rfl rfl) ?_
            obtain ⟨v17, cv17, h⟩ := bindL h
            refine gN rfl q16 (EvN.call rfl rfl rfl (F_impl_within_P c.Val (0 : Int) (3 : Int) cv17) rfl) ?_
            refine oN (EvN.pickT rfl q16 (Bo v17) rfl) ?_
            obtain rfl := Option.some.inj h
            exact js15 _ _ ⟨(), trivial, cutW rfl (weak_cons rfl (weak_cons rfl weak_nil))⟩
          · refine gS rfl q16 ?_
            refine gS rfl q16 ?_
            refine gS rfl q16 ?_
            refine oN (EvN.pickF rfl q16 (Bo false) rfl) ?_
            obtain rfl := Option.some.inj h
            exact js15 _ _ ⟨(), trivial, cutW rfl (weak_cons rfl (weak_cons rfl weak_nil))⟩
        · intro _ _
          replace h := ks15
          clear ks15
          refine oN (EvN.mv (Bo s15) rfl) ?_
          obtain ⟨s18, h, ks18⟩ := bindL h
          refine TO.joinF (G := Unit) 5 (fun _ => True) (fun _ => [(46, Bo s18)]) (fun _ => []) ?_ (fun js18 => ?_)
          rotate_left
          · clear ks18
            rcases bifL h with ⟨q19, h⟩ | ⟨q19, h⟩
            · refine gN rfl q19 (EvN.fafp Try.underlying45 rfl (by kernel_rfl) rfl) ?_
              refine gN rfl q19 (EvN.loadfp (.nil) ty43 rfl rfl) ?_
              refine gN rfl q19 (EvN.lenZ sl43 rfl) ?_
              refine gN rfl q19 (EvN.ieq rfl rfl) ?_
              refine oN (EvN.pickT rfl q19 (Bo ((0 : Int) == (0 : Int))) rfl) ?_
              obtain rfl := Option.some.inj h
              exact js18 _ _ ⟨(), trivial, cutW rfl (weak_cons rfl weak_nil)⟩
            · refine gS rfl q19 ?_
              refine gS rfl q19 ?_
              refine gS rfl q19 ?_
              refine gS rfl q19 ?_
              refine oN (EvN.pickF rfl q19 (Bo false) rfl) ?_
              obtain rfl := Option.some.inj h
              exact js18 _ _ ⟨(), trivial, cutW rfl (weak_cons rfl weak_nil)⟩
          · intro _ _
            replace h := ks18
            clear ks18
            refine oN (EvN.asg (Bo s18) rfl) ?_
            refine TO.nil ?_
            refine T.ret ?_
            obtain rfl := Option.some.inj h
            repeat first | refine retS ?_ | refine retB ?_
            exact Fin.ret (vs := [Bo s18]) (.cons (.tmp rfl) .nil) (.of_isF 9 _ rfl)
    · replace h := condF q11 h
      obtain ⟨s20, h, ks20⟩ := bindL h
      refine T.joinF (G := Unit) (fun gh => True) (fun gh => [(47, Bo s20), (1, .fp (Ximpl_Cond.c c) 0)]) (fun gh => []) (fun gh hg => ?_) ?_
      · clear h
        have h := ks20
        clear ks20
        refine T.cond rfl (fun q22 => ?_) (fun q22 => ?_)
        · replace h := condT q22 h
          refine T.seq ?_
          refine T.region ?_
          refine oN (EvN.fafp Try.underlying45 rfl (by kernel_rfl) rfl) ?_
          refine oN (EvN.loadfp (I c.Thread) ty3 rfl rfl) ?_
          refine oN (EvN.ieq rfl rfl) ?_
          refine oN (EvN.mv (Bo (c.Thread == (0 : Int))) rfl) ?_
          obtain ⟨s23, h, ks23⟩ := bindL h
          refine TO.joinF (G := Unit) 4 (fun _ => True) (fun _ => [(57, Bo s23), (1, .fp (Ximpl_Cond.c c) 0)]) (fun _ => []) ?_ (fun js23 => ?_)
          rotate_left
          · clear ks23
            rcases bifL h with ⟨q24, h⟩ | ⟨q24, h⟩
            · refine gN rfl q24 (EvN.fafp Try.underlying45 rfl (by kernel_rfl) rfl) ?_
              refine gN rfl q24 (EvN.loadfp (I c.Place) ty3 rfl rfl) ?_
              refine gN rfl q24 (EvN.ieq rfl rfl) ?_
              refine oN (EvN.pickT rfl q24 (Bo (c.Place == (0 : Int))) rfl) ?_
              obtain rfl := Option.some.inj h
              exact js23 _ _ ⟨(), trivial, cutW rfl (weak_cons rfl (weak_cons rfl weak_nil))⟩
            · refine gS rfl q24 ?_
              refine gS rfl q24 ?_
              refine gS rfl q24 ?_
              refine oN (EvN.pickF rfl q24 (Bo false) rfl) ?_
              obtain rfl := Option.some.inj h
              exact js23 _ _ ⟨(), trivial, cutW rfl (weak_cons rfl (weak_cons rfl weak_nil))⟩
          · intro _ _
            replace h := ks23
            clear ks23
            refine oN (EvN.mv (Bo s23) rfl) ?_
            obtain ⟨s25, h, ks25⟩ := bindL h
            refine TO.joinF (G := Unit) 4 (fun _ => True) (fun _ => [(62, Bo s25), (1, .fp (Ximpl_Cond.c c) 0)]) (fun _ => []) ?_ (fun js25 => ?_)
            rotate_left
            · clear ks25
              rcases bifL h with ⟨q26, h⟩ | ⟨q26, h⟩
              · refine gN rfl q26 (EvN.fafp Try.underlying45 rfl (by kernel_rfl) rfl) ?_
                refine gN rfl q26 (EvN.loadfp (I c.Val) ty3 rfl rfl) ?_
                refine gN rfl q26 (EvN.ieq rfl rfl) ?_
                refine oN (EvN.pickT rfl q26 (Bo (c.Val == (0 : Int))) rfl) ?_
                obtain rfl := Option.some.inj h
                exact js25 _ _ ⟨(), trivial, cutW rfl (weak_cons rfl (weak_cons rfl weak_nil))⟩
              · refine gS rfl q26 ?_
                refine gS rfl q26 ?_
                refine gS rfl q26 ?_
                refine oN (EvN.pickF rfl q26 (Bo false) rfl) ?_
                obtain rfl := Option.some.inj h
                exact js25 _ _ ⟨(), trivial, cutW rfl (weak_cons rfl (weak_cons rfl weak_nil))⟩
            · intro _ _
              replace h := ks25
              clear ks25
              refine oN (EvN.mv (Bo s25) rfl) ?_
              obtain ⟨s27, h, ks27⟩ := bindL h
              refine TO.joinF (G := Unit) 5 (fun _ => True) (fun _ => [(68, Bo s27)]) (fun _ => []) ?_ (fun js27 => ?_)
              rotate_left
              · clear ks27
                rcases bifL h with ⟨q28, h⟩ | ⟨q28, h⟩
                · refine gN rfl q28 (EvN.fafp Try.underlying45 rfl (by kernel_rfl) rfl) ?_
                  refine gN rfl q28 (EvN.loadfp (.nil) ty43 rfl rfl) ?_
                  refine gN rfl q28 (EvN.lenZ sl43 rfl) ?_
                  refine gN rfl q28 (EvN.ieq rfl rfl) ?_
                  refine oN (EvN.pickT rfl q28 (Bo ((0 : Int) == (2 : Int))) rfl) ?_
                  obtain rfl := Option.some.inj h
                  exact js27 _ _ ⟨(), trivial, cutW rfl (weak_cons rfl weak_nil)⟩
                · refine gS rfl q28 ?_
                  refine gS rfl q28 ?_
                  refine gS rfl q28 ?_
                  refine gS rfl q28 ?_
                  refine oN (EvN.pickF rfl q28 (Bo false) rfl) ?_
                  obtain rfl := Option.some.inj h
                  exact js27 _ _ ⟨(), trivial, cutW rfl (weak_cons rfl weak_nil)⟩
              · intro _ _
                replace h := ks27
                clear ks27
                refine oN (EvN.asg (Bo s27) rfl) ?_
                refine TO.nil ?_
                refine T.ret ?_
                obtain rfl := Option.some.inj h
                repeat first | refine retS ?_ | refine retB ?_
                exact Fin.ret (vs := [Bo s27]) (.cons (.tmp rfl) .nil) (.of_isF 9 _ rfl)
        · replace h := condF q22 h
          refine T.skip ?_
          refine T.seq ?_
          refine T.region ?_
          refine oN (EvN.fafp Try.underlying45 rfl (by kernel_rfl) rfl) ?_
          refine oN (EvN.loadfp (I c.Op) ty3 rfl rfl) ?_
          refine oN (EvN.ieq rfl rfl) ?_
          refine oN (EvN.mv (Bo (c.Op == (5 : Int))) rfl) ?_
          obtain ⟨s29, h, ks29⟩ := bindL h
          refine TO.joinF (G := Unit) 4 (fun _ => True) (fun _ => [(76, Bo s29), (1, .fp (Ximpl_Cond.c c) 0)]) (fun _ => []) ?_ (fun js29 => ?_)
          rotate_left
          · clear ks29
            rcases bifL h with ⟨q30, h⟩ | ⟨q30, h⟩
            · refine gN rfl q30 (EvN.fafp Try.underlying45 rfl (by kernel_rfl) rfl) ?_
              refine gN rfl q30 (EvN.loadfp (I c.Thread) ty3 rfl rfl) ?_
              refine gN rfl q30 (EvN.ieq rfl rfl) ?_
              refine oN (EvN.pickT rfl q30 (Bo (c.Thread == (0 : Int))) rfl) ?_
              obtain rfl := Option.some.inj h
              exact js29 _ _ ⟨(), trivial, cutW rfl (weak_cons rfl (weak_cons rfl weak_nil))⟩
            · refine gS rfl q30 ?_
              refine gS rfl q30 ?_
              refine gS rfl q30 ?_
              refine oN (EvN.pickF rfl q30 (Bo false) rfl) ?_
              obtain rfl := Option.some.inj h
              exact js29 _ _ ⟨(), trivial, cutW rfl (weak_cons rfl (weak_cons rfl weak_nil))⟩
          · intro _ _
            replace h := ks29
            clear ks29
            refine oN (EvN.mv (Bo s29) rfl) ?_
            obtain ⟨s31, h, ks31⟩ := bindL h
            refine TO.joinF (G := Unit) 4 (fun _ => True) (fun _ => [(81, Bo s31), (1, .fp (Ximpl_Cond.c c) 0)]) (fun _ => []) ?_ (fun js31 => ?_)
            rotate_left
            · clear ks31
              rcases bifL h with ⟨q32, h⟩ | ⟨q32, h⟩
              · refine gN rfl q32 (EvN.fafp Try.underlying45 rfl (by kernel_rfl) rfl) ?_
                refine gN rfl q32 (EvN.loadfp (I c.Place) ty3 rfl rfl) ?_
                refine gN rfl q32 (EvN.ieq rfl rfl) ?_
                refine oN (EvN.pickT rfl q32 (Bo (c.Place == (0 : Int))) rfl) ?_
                obtain rfl := Option.some.inj h
                exact js31 _ _ ⟨(), trivial, cutW rfl (weak_cons rfl (weak_cons rfl weak_nil))⟩
              · refine gS rfl q32 ?_
                refine gS rfl q32 ?_
                refine gS rfl q32 ?_
                refine oN (EvN.pickF rfl q32 (Bo false) rfl) ?_
                obtain rfl := Option.some.inj h
                exact js31 _ _ ⟨(), trivial, cutW rfl (weak_cons rfl (weak_cons rfl weak_nil))⟩
            · intro _ _
              replace h := ks31
              clear ks31
              refine oN (EvN.mv (Bo s31) rfl) ?_
              obtain ⟨s33, h, ks33⟩ := bindL h
              refine TO.joinF (G := Unit) 4 (fun _ => True) (fun _ => [(86, Bo s33), (1, .fp (Ximpl_Cond.c c) 0)]) (fun _ => []) ?_ (fun js33 => ?_)
              rotate_left
              · clear ks33
                rcases bifL h with ⟨q34, h⟩ | ⟨q34, h⟩
                · refine gN rfl q34 (EvN.fafp Try.underlying45 rfl (by kernel_rfl) rfl) ?_
                  refine gN rfl q34 (EvN.loadfp (I c.Val) ty3 rfl rfl) ?_
                  refine gN rfl q34 (EvN.ieq rfl rfl) ?_
                  refine oN (EvN.pickT rfl q34 (Bo (c.Val == (0 : Int))) rfl) ?_
                  obtain rfl := Option.some.inj h
                  exact js33 _ _ ⟨(), trivial, cutW rfl (weak_cons rfl (weak_cons rfl weak_nil))⟩
                · refine gS rfl q34 ?_
                  refine gS rfl q34 ?_
                  refine gS rfl q34 ?_
                  refine oN (EvN.pickF rfl q34 (Bo false) rfl) ?_
                  obtain rfl := Option.some.inj h
                  exact js33 _ _ ⟨(), trivial, cutW rfl (weak_cons rfl (weak_cons rfl weak_nil))⟩
              · intro _ _
                replace h := ks33
                clear ks33
                refine oN (EvN.mv (Bo s33) rfl) ?_
                obtain ⟨s35, h, ks35⟩ := bindL h
                refine TO.joinF (G := Unit) 5 (fun _ => True) (fun _ => [(92, Bo s35)]) (fun _ => []) ?_ (fun js35 => ?_)
                rotate_left
                · clear ks35
                  rcases bifL h with ⟨q36, h⟩ | ⟨q36, h⟩
                  · refine gN rfl q36 (EvN.fafp Try.underlying45 rfl (by kernel_rfl) rfl) ?_
                    refine gN rfl q36 (EvN.loadfp (.nil) ty43 rfl rfl) ?_
                    refine gN rfl q36 (EvN.lenZ sl43 rfl) ?_
                    refine gN rfl q36 (EvN.ieq rfl rfl) ?_
                    refine oN (EvN.pickT rfl q36 (Bo ((0 : Int) == (1 : Int))) rfl) ?_
                    obtain rfl := Option.some.inj h
                    exact js35 _ _ ⟨(), trivial, cutW rfl (weak_cons rfl weak_nil)⟩
                  · refine gS rfl q36 ?_
                    refine gS rfl q36 ?_
                    refine gS rfl q36 ?_
                    refine gS rfl q36 ?_
                    refine oN (EvN.pickF rfl q36 (Bo false) rfl) ?_
                    obtain rfl := Option.some.inj h
                    exact js35 _ _ ⟨(), trivial, cutW rfl (weak_cons rfl weak_nil)⟩
                · intro _ _
                  replace h := ks35
                  clear ks35
                  refine oN (EvN.asg (Bo s35) rfl) ?_
                  refine TO.nil ?_
                  refine T.ret ?_
                  obtain rfl := Option.some.inj h
                  repeat first | refine retS ?_ | refine retB ?_
                  exact Fin.ret (vs := [Bo s35]) (.cons (.tmp rfl) .nil) (.of_isF 9 _ rfl)
      · clear ks20
        refine T.seq ?_
        refine T.clean (H0 := []) (e0 := envOf [(4, I c.Op), (1, .fp (Ximpl_Cond.c c) 0)]) rfl (weak_cons rfl (weak_cons rfl weak_nil)) ?_
        refine T.region ?_
        refine oN (EvN.ieq rfl rfl) ?_
        refine oN (EvN.asg (Bo (c.Op == (3 : Int))) rfl) ?_
        refine TO.nil ?_
        refine T.cond rfl (fun q21 => ?_) (fun q21 => ?_)
        · replace h := condT q21 h
          refine T.skip ?_
          obtain rfl := Option.some.inj h
          exact ⟨(), trivial, cutW rfl (weak_cons rfl (weak_cons rfl weak_nil))⟩
        · replace h := condF q21 h
          refine T.region ?_
          refine oN (EvN.ieq rfl rfl) ?_
          refine oN (EvN.asg (Bo (c.Op == (4 : Int))) rfl) ?_
          refine TO.nil ?_
          obtain rfl := Option.some.inj h
          exact ⟨(), trivial, cutW rfl (weak_cons rfl (weak_cons rfl weak_nil))⟩

theorem F_impl_condSize_P (c : Ximpl_Cond) (most : Int) {q : Int} (h : F_impl_condSize c most = some q) : PCall Try.prog 136 [.agg (Ximpl_Cond.c c), I most] (I q) := by
  refine PCall.mkT Try.func136 rfl (by kernel_rfl) rfl (by kernel_rfl) (e0 := envOf [(0, .agg (Ximpl_Cond.c c)), (1, I most)]) (weak_cons rfl (weak_cons rfl weak_nil)) ?_
  refine T.seq ?_
  refine T.region ?_
  refine oN (EvN.bxF [I c.Op, I c.Thread, I c.Place, I c.Val, .nil] rfl rfl rfl) ?_
  refine oN (EvN.asg (I (0 : Int)) rfl) ?_
  refine TO.nil ?_
  refine T.seq ?_
  refine T.seq ?_
  refine T.region ?_
  refine oN (EvN.mv (I most) rfl) ?_
  refine oN (EvN.ieq rfl rfl) ?_
  refine oN (EvN.mv (Bo (most == (0 : Int))) rfl) ?_
  obtain ⟨s1, h, ks1⟩ := bindL h
  refine TO.joinF (G := Unit) 4 (fun _ => True) (fun _ => [(14, Bo s1), (2, .fp (Ximpl_Cond.c c) 0), (1, I most)]) (fun _ => []) ?_ (fun js1 => ?_)
  rotate_left
  · clear ks1
    rcases bifL h with ⟨q2, h⟩ | ⟨q2, h⟩
    · refine gS rfl q2 ?_
      refine gS rfl q2 ?_
      refine gS rfl q2 ?_
      refine oN (EvN.pickT rfl q2 (Bo true) rfl) ?_
      obtain rfl := Option.some.inj h
      exact js1 _ _ ⟨(), trivial, cutW rfl (weak_cons rfl (weak_cons rfl (weak_cons rfl weak_nil)))⟩
    · refine gN rfl q2 (EvN.loadfp (.agg (Ximpl_Cond.c c)) ty45 rfl rfl) ?_
      obtain ⟨v3, cv3, h⟩ := bindL h
      refine gN rfl q2 (EvN.call rfl rfl rfl (F_impl_isCondNode_P c cv3) rfl) ?_
      refine gN rfl q2 (EvN.not rfl) ?_
      refine oN (EvN.pickF rfl q2 (Bo (!v3)) rfl) ?_
      obtain rfl := Option.some.inj h
      exact js1 _ _ ⟨(), trivial, cutW rfl (weak_cons rfl (weak_cons rfl (weak_cons rfl weak_nil)))⟩
  · intro _ _
    replace h := ks1
    clear ks1
    refine TO.nil ?_
    refine T.cond rfl (fun q4 => ?_) (fun q4 => ?_)
    · replace h := condT q4 h
      refine T.seq ?_
      refine T.region ?_
      refine oN (EvN.asg (I (31 : Int)) rfl) ?_
      refine TO.nil ?_
      refine T.ret ?_
      obtain rfl := Option.some.inj h
      repeat first | refine retS ?_ | refine retB ?_
      exact Fin.ret (vs := [I (31 : Int)]) (.cons (.tmp rfl) .nil) (.of_isF 9 _ rfl)
    · replace h := condF q4 h
      refine T.skip ?_
      refine T.seq ?_
      refine T.region ?_
      refine oN (EvN.asg (I (1 : Int)) rfl) ?_
      refine TO.nil ?_
      obtain ⟨s5, h, ks5⟩ := bindL h
      refine T.joinF (G := Unit) (fun gh => True) (fun gh => [(5, I (1 : Int))]) (fun gh => []) (fun gh hg => ?_) ?_
      · clear h
        have h := ks5
        clear ks5
        refine T.seq ?_
        refine T.region ?_
        refine oN (EvN.mv (I (1 : Int)) rfl) ?_
        refine oN (EvN.asg (I (1 : Int)) rfl) ?_
        refine TO.nil ?_
        refine T.ret ?_
        obtain rfl := Option.some.inj h
        repeat first | refine retS ?_ | refine retB ?_
        exact Fin.ret (vs := [I (1 : Int)]) (.cons (.tmp rfl) .nil) (.of_isF 9 _ rfl)
      · clear ks5
        refine T.seq ?_
        refine T.region ?_
        refine oN (EvN.fafp Try.underlying45 rfl (by kernel_rfl) rfl) ?_
        refine oN (EvN.loadfp (.nil) ty43 rfl rfl) ?_
        refine oN (EvN.lenZ sl43 rfl) ?_
        refine oN (EvN.mv (I (0 : Int)) rfl) ?_
        refine TO.nil ?_
        refine T.block ?_
        refine T.loop (S := Unit) (G := Unit) F_impl_condSize_L7 (fun s6 gh => True) (fun s6 gh => [(18, I (0 : Int)), (17, I (0 : Int)), (16, .nil), (5, I (1 : Int)), (1, I most)]) (fun s6 gh => []) (s0 := ()) () h trivial (cutW rfl (weak_cons rfl (weak_cons rfl (weak_cons rfl (weak_cons rfl (weak_cons rfl weak_nil)))))) (fun s6 gh ws6 h hg => ?_)
        refine T.seq ?_
        refine T.region ?_
        refine oN (EvN.ilt rfl rfl) ?_
        refine TO.nil ?_
        refine T.seq ?_
        refine T.cond rfl (fun q8 => ?_) (fun q8 => ?_)
        · replace h := condT q8 h
          cases h
        · replace h := condF q8 h
          refine T.exit ?_
          refine ⟨_, (Option.some.inj h).symm, fun h => ?_⟩
          replace h := congrArg some h
          obtain rfl := Option.some.inj h
          exact ⟨(), trivial, cutW rfl (weak_cons rfl weak_nil)⟩

theorem F_impl_CondValid_P (c : Ximpl_Cond) {q : Bool} (h : F_impl_CondValid c = some q) : PCall Try.prog 90 [.agg (Ximpl_Cond.c c)] (Bo q) := by
  refine PCall.mkT Try.func90 rfl (by kernel_rfl) rfl (by kernel_rfl) (e0 := envOf [(0, .agg (Ximpl_Cond.c c))]) (weak_cons rfl weak_nil) ?_
  refine T.seq ?_
  refine T.region ?_
  refine oN (EvN.bxF [I c.Op, I c.Thread, I c.Place, I c.Val, .nil] rfl rfl rfl) ?_
  refine oN (EvN.asg (Bo false) rfl) ?_
  refine TO.nil ?_
  refine T.seq ?_
  refine T.region ?_
  refine oN (EvN.loadfp (.agg (Ximpl_Cond.c c)) ty45 rfl rfl) ?_
  obtain ⟨v1, cv1, h⟩ := bindL h
  refine oN (EvN.call rfl rfl rfl (F_impl_condSize_P c (10 : Int) cv1) rfl) ?_
  refine oN (EvN.ile rfl rfl) ?_
  refine oN (EvN.asg (Bo (decide (v1 ≤ (30 : Int)))) rfl) ?_
  refine TO.nil ?_
  refine T.ret ?_
  obtain rfl := Option.some.inj h
  repeat first | refine retS ?_ | refine retB ?_
  exact Fin.ret (vs := [Bo (decide (v1 ≤ (30 : Int)))]) (.cons (.tmp rfl) .nil) (.of_isF 9 _ rfl)

theorem F_impl_holds_P (threads : Int) (o_ : List Int) (c : Ximpl_Cond) {q : Bool} (h : F_impl_holds threads o_ c = some q) : PCall Try.prog 91 [I threads, eL cI o_, .agg (Ximpl_Cond.c c)] (Bo q) := by
  refine PCall.mkT Try.func91 rfl (by kernel_rfl) rfl (by kernel_rfl) (e0 := envOf [(0, I threads), (1, eL cI o_), (2, .agg (Ximpl_Cond.c c))]) (weak_cons rfl (weak_cons rfl (weak_cons rfl weak_nil))) ?_
  refine T.seq ?_
  refine T.region ?_
  refine oN (EvN.bxF [I c.Op, I c.Thread, I c.Place, I c.Val, .nil] rfl rfl rfl) ?_
  refine oN (EvN.asg (Bo false) rfl) ?_
  refine TO.nil ?_
  refine T.seq ?_
  refine T.seq ?_
  refine T.region ?_
  refine oN (EvN.fafp Try.underlying45 rfl (by kernel_rfl) rfl) ?_
  refine oN (EvN.loadfp (I c.Op) ty3 rfl rfl) ?_
  refine TO.nil ?_
  refine T.block ?_
  refine T.seq ?_
  refine T.region ?_
  refine oN (EvN.ieq rfl rfl) ?_
  refine oN (EvN.asg (Bo (c.Op == (1 : Int))) rfl) ?_
  refine TO.nil ?_
  refine T.cond rfl (fun q1 => ?_) (fun q1 => ?_)
  · replace h := condT q1 h
    refine T.seq ?_
    refine T.clean (H0 := []) (e0 := envOf [(5, .fp (Ximpl_Cond.c c) 0), (0, I threads), (1, eL cI o_)]) rfl (weak_cons rfl (weak_cons rfl (weak_cons rfl weak_nil))) ?_
    refine T.region ?_
    refine oN (EvN.asg (I (0 : Int)) rfl) ?_
    refine TO.nil ?_
    obtain ⟨s2, h, ks2⟩ := bindL h
    refine T.joinF (G := Unit) (fun gh => True) (fun gh => [(7, I s2), (5, .fp (Ximpl_Cond.c c) 0)]) (fun gh => []) (fun gh hg => ?_) ?_
    · clear h
      have h := ks2
      clear ks2
      refine T.seq ?_
      refine T.region ?_
      refine oN (EvN.mv (I s2) rfl) ?_
      refine oN (EvN.fafp Try.underlying45 rfl (by kernel_rfl) rfl) ?_
      refine oN (EvN.loadfp (I c.Val) ty3 rfl rfl) ?_
      refine oN (EvN.ieq rfl rfl) ?_
      refine oN (EvN.asg (Bo (s2 == c.Val)) rfl) ?_
      refine TO.nil ?_
      refine T.ret ?_
      obtain rfl := Option.some.inj h
      repeat first | refine retS ?_ | refine retB ?_
      exact Fin.ret (vs := [Bo (s2 == c.Val)]) (.cons (.tmp rfl) .nil) (.of_isF 9 _ rfl)
    · clear ks2
      refine T.seq ?_
      refine T.region ?_
      refine oN (EvN.fafp Try.underlying45 rfl (by kernel_rfl) rfl) ?_
      refine oN (EvN.loadfp (I c.Thread) ty3 rfl rfl) ?_
      refine oN (EvN.mv (I threads) rfl) ?_
      refine oN (EvN.ilt rfl rfl) ?_
      refine TO.nil ?_
      refine T.cond rfl (fun q3 => ?_) (fun q3 => ?_)
      · replace h := condT q3 h
        refine T.clean (H0 := []) (e0 := envOf [(5, .fp (Ximpl_Cond.c c) 0), (1, eL cI o_)]) rfl (weak_cons rfl (weak_cons rfl weak_nil)) ?_
        refine T.region ?_
        refine oN (EvN.mv (eL cI o_) rfl) ?_
        refine oN (EvN.fafp Try.underlying45 rfl (by kernel_rfl) rfl) ?_
        refine oN (EvN.loadfp (I c.Thread) ty3 rfl rfl) ?_
        obtain ⟨g4, h⟩ := gdW h
        refine oN (EvN.mul rfl rfl g4) ?_
        refine oN (EvN.fafp Try.underlying45 rfl (by kernel_rfl) rfl) ?_
        refine oN (EvN.loadfp (I c.Place) ty3 rfl rfl) ?_
        obtain ⟨g5, h⟩ := gdW h
        refine oN (EvN.add rfl rfl g5) ?_
        obtain ⟨g6, h⟩ := gdD h
        refine oN (EvN.ixL sl37 rfl rfl g6 (fun _ => rfl)) ?_
        refine oN (EvN.loadfp (I (o_.getD (((3 : Int) * c.Thread) + c.Place).toNat default)) ty3 rfl rfl) ?_
        refine oN (EvN.asg (I (o_.getD (((3 : Int) * c.Thread) + c.Place).toNat default)) rfl) ?_
        refine TO.nil ?_
        obtain rfl := Option.some.inj h
        exact ⟨(), trivial, cutW rfl (weak_cons rfl (weak_cons rfl weak_nil))⟩
      · replace h := condF q3 h
        refine T.skip ?_
        obtain rfl := Option.some.inj h
        exact ⟨(), trivial, cutW rfl (weak_cons rfl (weak_cons rfl weak_nil))⟩
  · replace h := condF q1 h
    refine T.seq ?_
    refine T.region ?_
    refine oN (EvN.ieq rfl rfl) ?_
    refine oN (EvN.asg (Bo (c.Op == (2 : Int))) rfl) ?_
    refine TO.nil ?_
    refine T.cond rfl (fun q7 => ?_) (fun q7 => ?_)
    · replace h := condT q7 h
      refine T.seq ?_
      refine T.clean (H0 := []) (e0 := envOf [(5, .fp (Ximpl_Cond.c c) 0), (0, I threads), (1, eL cI o_)]) rfl (weak_cons rfl (weak_cons rfl (weak_cons rfl weak_nil))) ?_
      refine T.drawF (fun _ => ([], false)) (by kernel_rfl) (by kernel_rfl) ?_
      refine fN rfl (EvN.mv (eL cI o_) rfl) ?_
      refine fN rfl (EvN.mv (I threads) rfl) ?_
      obtain ⟨g8, h⟩ := gdW h
      refine fN rfl (EvN.mul rfl rfl g8) ?_
      refine fN rfl (EvN.fafp Try.underlying45 rfl (by kernel_rfl) rfl) ?_
      refine fN rfl (EvN.loadfp (I c.Place) ty3 rfl rfl) ?_
      obtain ⟨g9, h⟩ := gdW h
      refine fN rfl (EvN.add rfl rfl g9) ?_
      obtain ⟨g10, h⟩ := gdD h
      refine fN rfl (EvN.ixL sl37 rfl rfl g10 (fun _ => rfl)) ?_
      refine fN rfl (EvN.loadfp (I (o_.getD (((3 : Int) * threads) + c.Place).toNat default)) ty3 rfl rfl) ?_
      refine fN rfl (EvN.fafp Try.underlying45 rfl (by kernel_rfl) rfl) ?_
      refine fN rfl (EvN.loadfp (I c.Val) ty3 rfl rfl) ?_
      refine fN rfl (EvN.ieq rfl rfl) ?_
      refine fN rfl (EvN.asg (Bo ((o_.getD (((3 : Int) * threads) + c.Place).toNat default) == c.Val)) rfl) ?_
      refine TF.nil ?_
      refine T.ret ?_
      obtain rfl := Option.some.inj h
      repeat first | refine retS ?_ | refine retB ?_
      exact Fin.ret (vs := [Bo ((o_.getD (((3 : Int) * threads) + c.Place).toNat default) == c.Val)]) (.cons (.tmp rfl) .nil) (.of_isF 9 _ rfl)
    · replace h := condF q7 h
      cases h

theorem F_impl_CondHolds_P (p : List (List Ximpl_Instr)) (o_ : List Int) (c : Ximpl_Cond) {q : Bool} (h : F_impl_CondHolds p o_ c = some q) : PCall Try.prog 30 [eL (cL Ximpl_Instr.c) p, eL cI o_, .agg (Ximpl_Cond.c c)] (Bo q) := by
  refine PCall.mkT Try.func30 rfl (by kernel_rfl) rfl (by kernel_rfl) (e0 := envOf [(0, eL (cL Ximpl_Instr.c) p), (1, eL cI o_), (2, .agg (Ximpl_Cond.c c))]) (weak_cons rfl (weak_cons rfl (weak_cons rfl weak_nil))) ?_
  refine T.seq ?_
  refine T.region ?_
  refine oN (EvN.bxF [I c.Op, I c.Thread, I c.Place, I c.Val, .nil] rfl rfl rfl) ?_
  refine oN (EvN.asg (Bo false) rfl) ?_
  refine TO.nil ?_
  refine T.seq ?_
  refine T.region ?_
  refine oN (EvN.mv (eL (cL Ximpl_Instr.c) p) rfl) ?_
  refine oN (EvN.mv (eL cI o_) rfl) ?_
  obtain ⟨v1, cv1, h⟩ := bindL h
  refine oN (EvN.call rfl rfl rfl (F_impl_OutcomeValid_P p o_ cv1) rfl) ?_
  refine oN (EvN.mv (Bo v1) rfl) ?_
  obtain ⟨s2, h, ks2⟩ := bindL h
  refine TO.joinF (G := Unit) 3 (fun _ => True) (fun _ => [(13, Bo s2), (5, .fp (Ximpl_Cond.c c) 0), (0, eL (cL Ximpl_Instr.c) p), (1, eL cI o_)]) (fun _ => []) ?_ (fun js2 => ?_)
  rotate_left
  · clear ks2
    rcases bifL h with ⟨q3, h⟩ | ⟨q3, h⟩
    · refine gN rfl q3 (EvN.loadfp (.agg (Ximpl_Cond.c c)) ty45 rfl rfl) ?_
      obtain ⟨v4, cv4, h⟩ := bindL h
      refine gN rfl q3 (EvN.call rfl rfl rfl (F_impl_CondValid_P c cv4) rfl) ?_
      refine oN (EvN.pickT rfl q3 (Bo v4) rfl) ?_
      obtain rfl := Option.some.inj h
      exact js2 _ _ ⟨(), trivial, cutW rfl (weak_cons rfl (weak_cons rfl (weak_cons rfl (weak_cons rfl weak_nil))))⟩
    · refine gS rfl q3 ?_
      refine gS rfl q3 ?_
      refine oN (EvN.pickF rfl q3 (Bo false) rfl) ?_
      obtain rfl := Option.some.inj h
      exact js2 _ _ ⟨(), trivial, cutW rfl (weak_cons rfl (weak_cons rfl (weak_cons rfl (weak_cons rfl weak_nil))))⟩
  · intro _ _
    replace h := ks2
    clear ks2
    refine oN (EvN.mv (Bo s2) rfl) ?_
    obtain ⟨s5, h, ks5⟩ := bindL h
    refine TO.joinF (G := Unit) 6 (fun _ => True) (fun _ => [(20, Bo s5)]) (fun _ => []) ?_ (fun js5 => ?_)
    rotate_left
    · clear ks5
      rcases bifL h with ⟨q6, h⟩ | ⟨q6, h⟩
      · refine gN rfl q6 (EvN.mv (eL (cL Ximpl_Instr.c) p) rfl) ?_
        refine gN rfl q6 (EvN.lenL sl23 rfl) ?_
        refine gN rfl q6 (EvN.mv (eL cI o_) rfl) ?_
        refine gN rfl q6 (EvN.loadfp (.agg (Ximpl_Cond.c c)) ty45 rfl rfl) ?_
        obtain ⟨v7, cv7, h⟩ := bindL h
        refine gN rfl q6 (EvN.call rfl rfl rfl (F_impl_holds_P (p.length : Int) o_ c cv7) rfl) ?_
        refine oN (EvN.pickT rfl q6 (Bo v7) rfl) ?_
        obtain rfl := Option.some.inj h
        exact js5 _ _ ⟨(), trivial, cutW rfl (weak_cons rfl weak_nil)⟩
      · refine gS rfl q6 ?_
        refine gS rfl q6 ?_
        refine gS rfl q6 ?_
        refine gS rfl q6 ?_
        refine gS rfl q6 ?_
        refine oN (EvN.pickF rfl q6 (Bo false) rfl) ?_
        obtain rfl := Option.some.inj h
        exact js5 _ _ ⟨(), trivial, cutW rfl (weak_cons rfl weak_nil)⟩
    · intro _ _
      replace h := ks5
      clear ks5
      refine oN (EvN.asg (Bo s5) rfl) ?_
      refine TO.nil ?_
      refine T.ret ?_
      obtain rfl := Option.some.inj h
      repeat first | refine retS ?_ | refine retB ?_
      exact Fin.ret (vs := [Bo s5]) (.cons (.tmp rfl) .nil) (.of_isF 9 _ rfl)

theorem F_laws_FnCondTurn_P (code : List Int) {q : Bool} (h : F_laws_FnCondTurn code = some q) : PCall Try.prog 7 [eL cY code] (Bo q) := by
  refine PCall.mkT Try.func7 rfl (by kernel_rfl) rfl (by kernel_rfl) (e0 := envOf [(0, eL cY code)]) (weak_cons rfl weak_nil) ?_
  refine T.seq ?_
  refine T.region ?_
  refine oN (EvN.asg (Bo false) rfl) ?_
  refine TO.nil ?_
  refine T.seq ?_
  refine T.seq ?_
  refine T.region ?_
  refine oN (EvN.mv (eL cY code) rfl) ?_
  refine oN (EvN.lenL sl22 rfl) ?_
  refine oN (EvN.igt rfl rfl) ?_
  refine TO.nil ?_
  refine T.cond rfl (fun q1 => ?_) (fun q1 => ?_)
  · replace h := condT q1 h
    refine T.seq ?_
    refine T.region ?_
    refine oN (EvN.asg (Bo true) rfl) ?_
    refine TO.nil ?_
    refine T.ret ?_
    obtain rfl := Option.some.inj h
    repeat first | refine retS ?_ | refine retB ?_
    exact Fin.ret (vs := [Bo true]) (.cons (.tmp rfl) .nil) (.of_isF 9 _ rfl)
  · replace h := condF q1 h
    refine T.skip ?_
    refine T.seq ?_
    refine T.region ?_
    refine oN (EvN.mv (eL cY code) rfl) ?_
    obtain ⟨v2, cv2, h⟩ := bindL h
    refine oN (EvN.call rfl rfl rfl (F_spec_DrawTurnOutcome_P code cv2) rfl) ?_
    refine oN (EvN.mv (.tup [eL (cL Ximpl_Instr.c) v2.1, eL cI v2.2.1, I v2.2.2.1, I v2.2.2.2.1, I v2.2.2.2.2.1, I v2.2.2.2.2.2]) rfl) ?_
    refine oN (EvN.ext (eL (cL Ximpl_Instr.c) v2.1) rfl rfl) ?_
    refine oN (EvN.ext (eL cI v2.2.1) rfl rfl) ?_
    refine oN (EvN.ext (I v2.2.2.1) rfl rfl) ?_
    refine oN (EvN.ext (I v2.2.2.2.1) rfl rfl) ?_
    refine oN (EvN.ext (I v2.2.2.2.2.1) rfl rfl) ?_
    refine oN (EvN.ext (I v2.2.2.2.2.2) rfl rfl) ?_
    refine oN (EvN.asg (eL (cL Ximpl_Instr.c) v2.1) rfl) ?_
    refine oN (EvN.asg (eL cI v2.2.1) rfl) ?_
    refine oN (EvN.asg (I v2.2.2.1) rfl) ?_
    refine oN (EvN.asg (I v2.2.2.2.1) rfl) ?_
    refine oN (EvN.asg (I v2.2.2.2.2.1) rfl) ?_
    refine oN (EvN.asg (I v2.2.2.2.2.2) rfl) ?_
    refine TO.nil ?_
    refine T.seq ?_
    refine T.clean (H0 := []) (e0 := envOf [(8, I v2.2.2.2.2.2), (7, I v2.2.2.2.2.1), (6, I v2.2.2.2.1), (5, I v2.2.2.1), (4, eL cI v2.2.1), (3, eL (cL Ximpl_Instr.c) v2.1)]) rfl (weak_cons rfl (weak_cons rfl (weak_cons rfl (weak_cons rfl (weak_cons rfl (weak_cons rfl weak_nil)))))) ?_
    refine T.region ?_
    refine oN (EvN.mv (eL (cL Ximpl_Instr.c) v2.1) rfl) ?_
    refine oN (EvN.mv (eL cI v2.2.1) rfl) ?_
    refine oN (EvN.mv (I v2.2.2.1) rfl) ?_
    refine oN (EvN.mv (I v2.2.2.2.1) rfl) ?_
    refine oN (EvN.mv (I v2.2.2.2.2.1) rfl) ?_
    refine oN (EvN.mv (I v2.2.2.2.2.2) rfl) ?_
    obtain ⟨v3, cv3, h⟩ := bindL h
    refine oN (EvN.call rfl rfl rfl (F_impl_TurnOutcome_P v2.1 v2.2.1 v2.2.2.1 v2.2.2.2.1 v2.2.2.2.2.1 v2.2.2.2.2.2 cv3) rfl) ?_
    refine oN (EvN.mv (.tup [eL cI v3.1, Bo v3.2]) rfl) ?_
    refine oN (EvN.ext (eL cI v3.1) rfl rfl) ?_
    refine oN (EvN.ext (Bo v3.2) rfl rfl) ?_
    refine oN (EvN.asg (eL cI v3.1) rfl) ?_
    refine oN (EvN.asg (Bo v3.2) rfl) ?_
    refine TO.nil ?_
    refine T.seq ?_
    refine T.clean (H0 := []) (e0 := envOf [(10, Bo v3.2), (9, eL cI v3.1), (8, I v2.2.2.2.2.2), (7, I v2.2.2.2.2.1), (6, I v2.2.2.2.1), (5, I v2.2.2.1), (4, eL cI v2.2.1), (3, eL (cL Ximpl_Instr.c) v2.1)]) rfl (weak_cons rfl (weak_cons rfl (weak_cons rfl (weak_cons rfl (weak_cons rfl (weak_cons rfl (weak_cons rfl (weak_cons rfl weak_nil)))))))) ?_
    refine T.region ?_
    refine oN (EvN.mv (eL (cL Ximpl_Instr.c) v2.1) rfl) ?_
    refine oN (EvN.mv (eL cI v2.2.1) rfl) ?_
    refine oN (EvN.mv (I v2.2.2.1) rfl) ?_
    refine oN (EvN.mv (I v2.2.2.2.1) rfl) ?_
    refine oN (EvN.mv (I v2.2.2.2.2.1) rfl) ?_
    refine oN (EvN.mv (I v2.2.2.2.2.2) rfl) ?_
    obtain ⟨v4, cv4, h⟩ := bindL h
    refine oN (EvN.call rfl rfl rfl (F_spec_TurnOutcome_P v2.1 v2.2.1 v2.2.2.1 v2.2.2.2.1 v2.2.2.2.2.1 v2.2.2.2.2.2 cv4) rfl) ?_
    refine oN (EvN.mv (.tup [eL cI v4.1, Bo v4.2]) rfl) ?_
    refine oN (EvN.ext (eL cI v4.1) rfl rfl) ?_
    refine oN (EvN.ext (Bo v4.2) rfl rfl) ?_
    refine oN (EvN.asg (eL cI v4.1) rfl) ?_
    refine oN (EvN.asg (Bo v4.2) rfl) ?_
    refine TO.nil ?_
    refine T.seq ?_
    refine T.seq ?_
    refine T.clean (H0 := []) (e0 := envOf [(12, Bo v4.2), (11, eL cI v4.1), (10, Bo v3.2), (9, eL cI v3.1), (6, I v2.2.2.2.1), (5, I v2.2.2.1), (4, eL cI v2.2.1), (3, eL (cL Ximpl_Instr.c) v2.1)]) rfl (weak_cons rfl (weak_cons rfl (weak_cons rfl (weak_cons rfl (weak_cons rfl (weak_cons rfl (weak_cons rfl (weak_cons rfl weak_nil)))))))) ?_
    refine T.region ?_
    refine oN (EvN.mv (Bo v3.2) rfl) ?_
    refine oN (EvN.mv (Bo v4.2) rfl) ?_
    refine oN (EvN.bne bt4 rfl rfl) ?_
    refine oN (EvN.mv (Bo (!(v3.2 == v4.2))) rfl) ?_
    obtain ⟨s5, h, ks5⟩ := bindL h
    refine TO.joinF (G := Unit) 5 (fun _ => True) (fun _ => [(57, Bo s5), (12, Bo v4.2), (11, eL cI v4.1), (10, Bo v3.2), (9, eL cI v3.1), (6, I v2.2.2.2.1), (5, I v2.2.2.1), (4, eL cI v2.2.1), (3, eL (cL Ximpl_Instr.c) v2.1)]) (fun _ => []) ?_ (fun js5 => ?_)
    rotate_left
    · clear ks5
      rcases bifL h with ⟨q6, h⟩ | ⟨q6, h⟩
      · refine gS rfl q6 ?_
        refine gS rfl q6 ?_
        refine gS rfl q6 ?_
        refine gS rfl q6 ?_
        refine oN (EvN.pickT rfl q6 (Bo true) rfl) ?_
        obtain rfl := Option.some.inj h
        exact js5 _ _ ⟨(), trivial, cutW rfl (weak_cons rfl (weak_cons rfl (weak_cons rfl (weak_cons rfl (weak_cons rfl (weak_cons rfl (weak_cons rfl (weak_cons rfl (weak_cons rfl weak_nil)))))))))⟩
      · refine gN rfl q6 (EvN.mv (eL cI v3.1) rfl) ?_
        refine gN rfl q6 (EvN.mv (eL cI v4.1) rfl) ?_
        obtain ⟨v7, cv7, h⟩ := bindL h
        refine gN rfl q6 (EvN.call rfl rfl rfl (F_laws_wmInts_P v3.1 v4.1 cv7) rfl) ?_
        refine gN rfl q6 (EvN.not rfl) ?_
        refine oN (EvN.pickF rfl q6 (Bo (!v7)) rfl) ?_
        obtain rfl := Option.some.inj h
        exact js5 _ _ ⟨(), trivial, cutW rfl (weak_cons rfl (weak_cons rfl (weak_cons rfl (weak_cons rfl (weak_cons rfl (weak_cons rfl (weak_cons rfl (weak_cons rfl (weak_cons rfl weak_nil)))))))))⟩
    · intro _ _
      replace h := ks5
      clear ks5
      refine oN (EvN.mv (Bo s5) rfl) ?_
      obtain ⟨s8, h, ks8⟩ := bindL h
      refine TO.joinF (G := Unit) 3 (fun _ => True) (fun _ => [(61, Bo s8), (12, Bo v4.2), (11, eL cI v4.1), (10, Bo v3.2), (9, eL cI v3.1), (6, I v2.2.2.2.1), (5, I v2.2.2.1), (4, eL cI v2.2.1), (3, eL (cL Ximpl_Instr.c) v2.1)]) (fun _ => []) ?_ (fun js8 => ?_)
      rotate_left
      · clear ks8
        rcases bifL h with ⟨q9, h⟩ | ⟨q9, h⟩
        · refine gS rfl q9 ?_
          refine gS rfl q9 ?_
          refine oN (EvN.pickT rfl q9 (Bo true) rfl) ?_
          obtain rfl := Option.some.inj h
          exact js8 _ _ ⟨(), trivial, cutW rfl (weak_cons rfl (weak_cons rfl (weak_cons rfl (weak_cons rfl (weak_cons rfl (weak_cons rfl (weak_cons rfl (weak_cons rfl (weak_cons rfl weak_nil)))))))))⟩
        · refine gN rfl q9 (EvN.mv (Bo v3.2) rfl) ?_
          refine gN rfl q9 (EvN.not rfl) ?_
          refine oN (EvN.pickF rfl q9 (Bo (!v3.2)) rfl) ?_
          obtain rfl := Option.some.inj h
          exact js8 _ _ ⟨(), trivial, cutW rfl (weak_cons rfl (weak_cons rfl (weak_cons rfl (weak_cons rfl (weak_cons rfl (weak_cons rfl (weak_cons rfl (weak_cons rfl (weak_cons rfl weak_nil)))))))))⟩
      · intro _ _
        replace h := ks8
        clear ks8
        refine TO.nil ?_
        refine T.cond rfl (fun q10 => ?_) (fun q10 => ?_)
        · replace h := condT q10 h
          refine T.seq ?_
          refine T.region ?_
          refine oN (EvN.mv (Bo v3.2) rfl) ?_
          refine oN (EvN.mv (Bo v4.2) rfl) ?_
          refine oN (EvN.beq bt4 rfl rfl) ?_
          refine oN (EvN.mv (Bo (v3.2 == v4.2)) rfl) ?_
          obtain ⟨s11, h, ks11⟩ := bindL h
          refine TO.joinF (G := Unit) 4 (fun _ => True) (fun _ => [(69, Bo s11)]) (fun _ => []) ?_ (fun js11 => ?_)
          rotate_left
          · clear ks11
            rcases bifL h with ⟨q12, h⟩ | ⟨q12, h⟩
            · refine gN rfl q12 (EvN.mv (eL cI v3.1) rfl) ?_
              refine gN rfl q12 (EvN.mv (eL cI v4.1) rfl) ?_
              obtain ⟨v13, cv13, h⟩ := bindL h
              refine gN rfl q12 (EvN.call rfl rfl rfl (F_laws_wmInts_P v3.1 v4.1 cv13) rfl) ?_
              refine oN (EvN.pickT rfl q12 (Bo v13) rfl) ?_
              obtain rfl := Option.some.inj h
              exact js11 _ _ ⟨(), trivial, cutW rfl (weak_cons rfl weak_nil)⟩
            · refine gS rfl q12 ?_
              refine gS rfl q12 ?_
              refine gS rfl q12 ?_
              refine oN (EvN.pickF rfl q12 (Bo false) rfl) ?_
              obtain rfl := Option.some.inj h
              exact js11 _ _ ⟨(), trivial, cutW rfl (weak_cons rfl weak_nil)⟩
          · intro _ _
            replace h := ks11
            clear ks11
            refine oN (EvN.asg (Bo s11) rfl) ?_
            refine TO.nil ?_
            refine T.ret ?_
            obtain rfl := Option.some.inj h
            repeat first | refine retS ?_ | refine retB ?_
            exact Fin.ret (vs := [Bo s11]) (.cons (.tmp rfl) .nil) (.of_isF 9 _ rfl)
        · replace h := condF q10 h
          refine T.skip ?_
          obtain ⟨Ks14, es14, ws14, h, ks14⟩ := sumL h
          refine T.join (S := Unit) (G := Unit) (fun s14 => Ks14 s14 = some q) (fun s14 gh => True) (fun s14 gh => []) (fun s14 gh => []) (fun s14 gh h hg => ?_) ?_
          · clear ks14
            subst es14
            refine T.seq ?_
            refine T.region ?_
            refine oN (EvN.asg (Bo true) rfl) ?_
            refine TO.nil ?_
            refine T.ret ?_
            obtain rfl := Option.some.inj h
            repeat first | refine retS ?_ | refine retB ?_
            exact Fin.ret (vs := [Bo true]) (.cons (.tmp rfl) .nil) (.of_isF 9 _ rfl)
          · refine T.seq ?_
            refine T.region ?_
            refine oN (EvN.asg (I (0 : Int)) rfl) ?_
            refine TO.nil ?_
            refine T.block ?_
            refine T.loop (S := Int) (G := Unit) (F_laws_FnCondTurn_L16 v2 v3) (fun s15 gh => True) (fun s15 gh => [(13, I s15), (9, eL cI v3.1), (6, I v2.2.2.2.1), (5, I v2.2.2.1), (4, eL cI v2.2.1), (3, eL (cL Ximpl_Instr.c) v2.1)]) (fun s15 gh => []) (s0 := (0 : Int)) () h trivial (cutW rfl (weak_cons rfl (weak_cons rfl (weak_cons rfl (weak_cons rfl (weak_cons rfl (weak_cons rfl weak_nil))))))) (fun s15 gh ws15 h hg => ?_)
            refine T.seq ?_
            refine T.seq ?_
            refine T.region ?_
            refine oN (EvN.mv (I s15) rfl) ?_
            refine oN (EvN.ile rfl rfl) ?_
            refine TO.nil ?_
            refine T.cond rfl (fun q17 => ?_) (fun q17 => ?_)
            · replace h := condT q17 h
              refine T.skip ?_
              obtain ⟨Ks18, es18, ws18, h, ks18⟩ := sumL h
              refine T.join (S := Unit) (G := Unit) (fun s18 => Ks18 s18 = some ws15) (fun s18 gh => True) (fun s18 gh => [(13, I s15), (9, eL cI v3.1), (6, I v2.2.2.2.1), (5, I v2.2.2.1), (4, eL cI v2.2.1), (3, eL (cL Ximpl_Instr.c) v2.1)]) (fun s18 gh => []) (fun s18 gh h hg => ?_) ?_
              · clear ks18
                subst es18
                refine T.region ?_
                refine oN (EvN.mv (I s15) rfl) ?_
                obtain ⟨g26, h⟩ := gdW h
                refine oN (EvN.add rfl rfl g26) ?_
                refine oN (EvN.asg (I (s15 + (1 : Int))) rfl) ?_
                refine TO.nil ?_
                obtain rfl := Option.some.inj h
                exact ⟨(s15 + (1 : Int)), (), rfl, trivial, cutW rfl (weak_cons rfl (weak_cons rfl (weak_cons rfl (weak_cons rfl (weak_cons rfl (weak_cons rfl weak_nil))))))⟩
              · refine T.block ?_
                refine T.seq ?_
                refine T.region ?_
                refine oN (EvN.asg (I (0 : Int)) rfl) ?_
                refine TO.nil ?_
                refine T.block ?_
                refine T.loop (S := Int) (G := Unit) (F_laws_FnCondTurn_L20 v2 v3 s15) (fun s19 gh => True) (fun s19 gh => [(14, I s19), (13, I s15), (9, eL cI v3.1), (6, I v2.2.2.2.1), (5, I v2.2.2.1), (4, eL cI v2.2.1), (3, eL (cL Ximpl_Instr.c) v2.1)]) (fun s19 gh => []) (s0 := (0 : Int)) () h trivial (cutW rfl (weak_cons rfl (weak_cons rfl (weak_cons rfl (weak_cons rfl (weak_cons rfl (weak_cons rfl (weak_cons rfl weak_nil)))))))) (fun s19 gh ws19 h hg => ?_)
                refine T.seq ?_
                refine T.seq ?_
                refine T.region ?_
                refine oN (EvN.mv (I s19) rfl) ?_
                refine oN (EvN.ile rfl rfl) ?_
                refine TO.nil ?_
                refine T.cond rfl (fun q21 => ?_) (fun q21 => ?_)
                · replace h := condT q21 h
                  refine T.skip ?_
                  refine T.seq ?_
                  refine T.block ?_
                  refine T.seq ?_
                  refine T.region ?_
                  refine oN (EvN.mv (I v2.2.2.1) rfl) ?_
                  refine oN (EvN.mv (I s15) rfl) ?_
                  refine oN (EvN.mv (I s19) rfl) ?_
                  refine oN (EvN.build [I (1 : Int), I v2.2.2.1, I s15, I s19, .nil] Try.underlying45 zs45 fs45 rfl rfl) ?_
                  refine oA (EvA.al zs45 rfl rfl) ?_
                  refine oV (EvA.st (cs := [I (1 : Int), I v2.2.2.1, I s15, I s19, .nil]) ⟨0, 5, 45, [[I (1 : Int), I v2.2.2.1, I s15, I s19, .nil]]⟩ ty45 rfl rfl rfl rfl rfl rfl rfl rfl rfl) ?_
                  refine TO.nil ?_
                  refine T.seq ?_
                  refine T.clean (H0 := [some ⟨0, 5, 45, [[I (1 : Int), I v2.2.2.1, I s15, I s19, .nil]]⟩]) (e0 := envOf [(15, .hp 0 0 5 0 0), (14, I s19), (13, I s15), (9, eL cI v3.1), (6, I v2.2.2.2.1), (5, I v2.2.2.1), (4, eL cI v2.2.1), (3, eL (cL Ximpl_Instr.c) v2.1)]) rfl (weak_cons rfl (weak_cons rfl (weak_cons rfl (weak_cons rfl (weak_cons rfl (weak_cons rfl (weak_cons rfl (weak_cons rfl weak_nil)))))))) ?_
                  refine T.region ?_
                  refine oN (EvN.mv (I v2.2.2.2.1) rfl) ?_
                  refine oN (EvN.mv (I s15) rfl) ?_
                  refine oN (EvN.mv (I s19) rfl) ?_
                  refine oN (EvN.build [I (1 : Int), I v2.2.2.2.1, I s15, I s19, .nil] Try.underlying45 zs45 fs45 rfl rfl) ?_
                  refine oA (EvA.al zs45 rfl rfl) ?_
                  refine oV (EvA.st (cs := [I (1 : Int), I v2.2.2.2.1, I s15, I s19, .nil]) ⟨0, 5, 45, [[I (1 : Int), I v2.2.2.2.1, I s15, I s19, .nil]]⟩ ty45 rfl rfl rfl rfl rfl rfl rfl rfl rfl) ?_
                  refine TO.nil ?_
                  refine T.seq ?_
                  refine T.drawF (fun i => [([], false), ([], false), ([0], false), ([], false), ([], false), ([], false), ([1], false), ([], false), ([], false)].getD i ([], false)) (by kernel_rfl) (by kernel_rfl) ?_
                  refine fN rfl (EvN.mv (eL (cL Ximpl_Instr.c) v2.1) rfl) ?_
                  refine fN rfl (EvN.mv (eL cI v2.2.1) rfl) ?_
                  refine fR [0] rfl (fun G hG => EvA.loadhp (.agg [I (1 : Int), I v2.2.2.1, I s15, I s19, .nil]) ty45 rfl (hG.a0 rfl) rfl rfl rfl rfl) ?_
                  obtain ⟨v22, cv22, h⟩ := bindL h
                  refine fN rfl (EvN.call rfl rfl rfl (F_impl_CondHolds_P v2.1 v2.2.1 (⟨(1 : Int), v2.2.2.1, s15, s19, ()⟩ : Ximpl_Cond) cv22) rfl) ?_
                  refine fN rfl (EvN.mv (eL (cL Ximpl_Instr.c) v2.1) rfl) ?_
                  refine fN rfl (EvN.mv (eL cI v3.1) rfl) ?_
                  refine fR [1] rfl (fun G hG => EvA.loadhp (.agg [I (1 : Int), I v2.2.2.2.1, I s15, I s19, .nil]) ty45 rfl (hG.a0 rfl) rfl rfl rfl rfl) ?_
                  obtain ⟨v23, cv23, h⟩ := bindL h
                  refine fN rfl (EvN.call rfl rfl rfl (F_impl_CondHolds_P v2.1 v3.1 (⟨(1 : Int), v2.2.2.2.1, s15, s19, ()⟩ : Ximpl_Cond) cv23) rfl) ?_
                  refine fN rfl (EvN.bne bt4 rfl rfl) ?_
                  refine TF.nil ?_
                  refine T.cond rfl (fun q24 => ?_) (fun q24 => ?_)
                  · replace h := condT q24 h
                    refine T.seq ?_
                    refine T.clean (H0 := [some ⟨0, 5, 45, [[I (1 : Int), I v2.2.2.1, I s15, I s19, .nil]]⟩, some ⟨0, 5, 45, [[I (1 : Int), I v2.2.2.2.1, I s15, I s19, .nil]]⟩]) (e0 := envOf []) rfl weak_nil ?_
                    refine T.region ?_
                    refine oN (EvN.asg (Bo false) rfl) ?_
                    refine TO.nil ?_
                    refine T.ret ?_
                    refine ⟨_, (Option.some.inj h).symm, fun h => ?_⟩
                    replace h := congrArg some h
                    obtain rfl := Option.some.inj h
                    replace h := congrArg some (show _ = _ from ks18)
                    refine ⟨_, (Option.some.inj h).symm, fun h => ?_⟩
                    replace h := congrArg some h
                    obtain rfl := Option.some.inj h
                    replace h := congrArg some (show _ = _ from ks14)
                    obtain rfl := Option.some.inj h
                    repeat first | refine retS ?_ | refine retB ?_
                    exact Fin.ret (vs := [Bo false]) (.cons (.tmp rfl) .nil) (.of_isF 9 _ rfl)
                  · replace h := condF q24 h
                    refine T.skip ?_
                    refine T.clean (H0 := [some ⟨0, 5, 45, [[I (1 : Int), I v2.2.2.1, I s15, I s19, .nil]]⟩, some ⟨0, 5, 45, [[I (1 : Int), I v2.2.2.2.1, I s15, I s19, .nil]]⟩]) (e0 := envOf [(14, I s19), (13, I s15), (9, eL cI v3.1), (6, I v2.2.2.2.1), (5, I v2.2.2.1), (4, eL cI v2.2.1), (3, eL (cL Ximpl_Instr.c) v2.1)]) rfl (weak_cons rfl (weak_cons rfl (weak_cons rfl (weak_cons rfl (weak_cons rfl (weak_cons rfl (weak_cons rfl weak_nil))))))) ?_
                    refine T.region ?_
                    refine oN (EvN.mv (I s19) rfl) ?_
                    obtain ⟨g25, h⟩ := gdW h
                    refine oN (EvN.add rfl rfl g25) ?_
                    refine oN (EvN.asg (I (s19 + (1 : Int))) rfl) ?_
                    refine TO.nil ?_
                    obtain rfl := Option.some.inj h
                    exact ⟨(s19 + (1 : Int)), (), rfl, trivial, cutS rfl .nil (stl_cons (.fz (.of_isF 9 _ rfl)) (stl_cons (.fz (.of_isF 9 _ rfl)) (stl_cons (.fz (.of_isF 9 _ rfl)) (stl_cons (.fz (.of_isF 9 _ rfl)) (stl_cons (.fz (.of_isF 9 _ rfl)) (stl_cons (.fz (.of_isF 9 _ rfl)) (stl_cons (.fz (.of_isF 9 _ rfl)) stl_nil)))))))⟩
                · replace h := condF q21 h
                  refine T.exit ?_
                  refine ⟨_, (Option.some.inj h).symm, fun h => ?_⟩
                  replace h := congrArg some h
                  obtain rfl := Option.some.inj h
                  exact ⟨(), (), ks18, trivial, cutW rfl (weak_cons rfl (weak_cons rfl (weak_cons rfl (weak_cons rfl (weak_cons rfl (weak_cons rfl weak_nil))))))⟩
            · replace h := condF q17 h
              refine T.exit ?_
              refine ⟨_, (Option.some.inj h).symm, fun h => ?_⟩
              replace h := congrArg some h
              obtain rfl := Option.some.inj h
              exact ⟨(), (), ks14, trivial, cutW rfl weak_nil⟩
end Go.Proofs.Ytjogdblionfmiaa
