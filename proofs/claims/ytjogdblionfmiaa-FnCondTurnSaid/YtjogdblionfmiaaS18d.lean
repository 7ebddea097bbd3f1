/-
  Functions over plain values, as the program's code computes; printed by lift.py. No conditions.
-/
import Derived.Test.YtjogdblionfmiaaSt
import Derived.Test.YtjogdblionfmiaaSTd
namespace Go.Proofs.Ytjogdblionfmiaa
open Go.RowKit
set_option maxRecDepth 100000
structure Ximpl_Cond where
  Op : Int
  Thread : Int
  Place : Int
  Val : Int
  Kids : Unit
instance : Inhabited Ximpl_Cond := ⟨⟨default, default, default, default, default⟩⟩
def Ximpl_Cond.c (x : Ximpl_Cond) : List AV := [I x.Op, I x.Thread, I x.Place, I x.Val, .nil]
theorem Ximpl_Cond.len (x : Ximpl_Cond) : (Ximpl_Cond.c x).length = 5 := rfl
theorem Ximpl_Cond.isF (x : Ximpl_Cond) : (Ximpl_Cond.c x).all (isF 9) = true := rfl
noncomputable def F_impl_isCondNode (c : Ximpl_Cond) : Option Bool :=
  bif (c.Op == (1 : Int)) then
    Option.bind (F_impl_within c.Thread (0 : Int) (2 : Int)) fun v2 =>
    Option.bind (bif v2 then
      Option.bind (F_impl_within c.Place (0 : Int) (2 : Int)) fun v5 =>
      some v5
    else
      some false
    ) fun s3 =>
    Option.bind (bif s3 then
      Option.bind (F_impl_within c.Val (0 : Int) (3 : Int)) fun v8 =>
      some v8
    else
      some false
    ) fun s6 =>
    Option.bind (bif s6 then
      some ((0 : Int) == (0 : Int))
    else
      some false
    ) fun s9 =>
    some s9
  else
    bif (c.Op == (2 : Int)) then
      Option.bind (bif (c.Thread == (0 : Int)) then
        Option.bind (F_impl_within c.Place (0 : Int) (2 : Int)) fun v14 =>
        some v14
      else
        some false
      ) fun s12 =>
      Option.bind (bif s12 then
        Option.bind (F_impl_within c.Val (0 : Int) (3 : Int)) fun v17 =>
        some v17
      else
        some false
      ) fun s15 =>
      Option.bind (bif s15 then
        some ((0 : Int) == (0 : Int))
      else
        some false
      ) fun s18 =>
      some s18
    else
      Option.bind (
        bif (c.Op == (3 : Int)) then
          some (c.Op == (3 : Int))
        else
          some (c.Op == (4 : Int))
      ) fun s20 =>
      bif s20 then
        Option.bind (bif (c.Thread == (0 : Int)) then
          some (c.Place == (0 : Int))
        else
          some false
        ) fun s23 =>
        Option.bind (bif s23 then
          some (c.Val == (0 : Int))
        else
          some false
        ) fun s25 =>
        Option.bind (bif s25 then
          some ((0 : Int) == (2 : Int))
        else
          some false
        ) fun s27 =>
        some s27
      else
        Option.bind (bif (c.Op == (5 : Int)) then
          some (c.Thread == (0 : Int))
        else
          some false
        ) fun s29 =>
        Option.bind (bif s29 then
          some (c.Place == (0 : Int))
        else
          some false
        ) fun s31 =>
        Option.bind (bif s31 then
          some (c.Val == (0 : Int))
        else
          some false
        ) fun s33 =>
        Option.bind (bif s33 then
          some ((0 : Int) == (1 : Int))
        else
          some false
        ) fun s35 =>
        some s35

noncomputable def F_impl_condSize_L7  : Unit → Option (Unit ⊕ Unit) := fun s6 =>
  bif decide ((0 : Int) < (0 : Int)) then
    none
  else
    some (.inr ())

noncomputable def F_impl_condSize (c : Ximpl_Cond) (most : Int) : Option Int :=
  Option.bind (bif (most == (0 : Int)) then
    some true
  else
    Option.bind (F_impl_isCondNode c) fun v3 =>
    some (!v3)
  ) fun s1 =>
  bif s1 then
    some (31 : Int)
  else
    Option.bind (
      loopO F_impl_condSize_L7 ()
    ) fun s5 =>
    some (1 : Int)

noncomputable def F_impl_CondValid (c : Ximpl_Cond) : Option Bool :=
  Option.bind (F_impl_condSize c (10 : Int)) fun v1 =>
  some (decide (v1 ≤ (30 : Int)))

noncomputable def F_impl_holds (threads : Int) (o_ : List Int) (c : Ximpl_Cond) : Option Bool :=
  bif (c.Op == (1 : Int)) then
    Option.bind (
      bif decide (c.Thread < threads) then
        gd (inK .i64 ((3 : Int) * c.Thread)) <|
        gd (inK .i64 (((3 : Int) * c.Thread) + c.Place)) <|
        gd (decide (0 ≤ (((3 : Int) * c.Thread) + c.Place) ∧ (((3 : Int) * c.Thread) + c.Place) < (o_.length : Int))) <|
        some (o_.getD (((3 : Int) * c.Thread) + c.Place).toNat default)
      else
        some (0 : Int)
    ) fun s2 =>
    some (s2 == c.Val)
  else
    bif (c.Op == (2 : Int)) then
      gd (inK .i64 ((3 : Int) * threads)) <|
      gd (inK .i64 (((3 : Int) * threads) + c.Place)) <|
      gd (decide (0 ≤ (((3 : Int) * threads) + c.Place) ∧ (((3 : Int) * threads) + c.Place) < (o_.length : Int))) <|
      some ((o_.getD (((3 : Int) * threads) + c.Place).toNat default) == c.Val)
    else
      none

noncomputable def F_impl_CondHolds (p : List (List Ximpl_Instr)) (o_ : List Int) (c : Ximpl_Cond) : Option Bool :=
  Option.bind (F_impl_OutcomeValid p o_) fun v1 =>
  Option.bind (bif v1 then
    Option.bind (F_impl_CondValid c) fun v4 =>
    some v4
  else
    some false
  ) fun s2 =>
  Option.bind (bif s2 then
    Option.bind (F_impl_holds (p.length : Int) o_ c) fun v7 =>
    some v7
  else
    some false
  ) fun s5 =>
  some s5

noncomputable def F_laws_FnCondTurn_L20 (v2 : (List (List Ximpl_Instr)) × (List Int) × Int × Int × Int × Int) (v3 : (List Int) × Bool) (s15 : Int) : Int → Option (Int ⊕ (Unit ⊕ (Int ⊕ (Unit ⊕ Bool)))) := fun s19 =>
  bif decide (s19 ≤ (3 : Int)) then
    Option.bind (F_impl_CondHolds v2.1 v2.2.1 (⟨(1 : Int), v2.2.2.1, s15, s19, ()⟩ : Ximpl_Cond)) fun v22 =>
    Option.bind (F_impl_CondHolds v2.1 v3.1 (⟨(1 : Int), v2.2.2.2.1, s15, s19, ()⟩ : Ximpl_Cond)) fun v23 =>
    bif (!(v22 == v23)) then
      some (.inr (.inr (.inr (.inr false))))
    else
      gd (inK .i64 (s19 + (1 : Int))) <|
      some (.inl (s19 + (1 : Int)))
  else
    some (.inr (.inl ()))

noncomputable def F_laws_FnCondTurn_L16 (v2 : (List (List Ximpl_Instr)) × (List Int) × Int × Int × Int × Int) (v3 : (List Int) × Bool) : Int → Option (Int ⊕ (Unit ⊕ Bool)) := fun s15 =>
  bif decide (s15 ≤ (2 : Int)) then
    sumK (
      loopO (F_laws_FnCondTurn_L20 v2 v3 s15) (0 : Int)
    ) fun s18 =>
    gd (inK .i64 (s15 + (1 : Int))) <|
    some (.inl (s15 + (1 : Int)))
  else
    some (.inr (.inl ()))

noncomputable def F_laws_FnCondTurn (code : List Int) : Option Bool :=
  bif decide ((1048576 : Int) < (code.length : Int)) then
    some true
  else
    Option.bind (F_spec_DrawTurnOutcome code) fun v2 =>
    Option.bind (F_impl_TurnOutcome v2.1 v2.2.1 v2.2.2.1 v2.2.2.2.1 v2.2.2.2.2.1 v2.2.2.2.2.2) fun v3 =>
    Option.bind (F_spec_TurnOutcome v2.1 v2.2.1 v2.2.2.1 v2.2.2.2.1 v2.2.2.2.2.1 v2.2.2.2.2.2) fun v4 =>
    Option.bind (bif (!(v3.2 == v4.2)) then
      some true
    else
      Option.bind (F_laws_wmInts v3.1 v4.1) fun v7 =>
      some (!v7)
    ) fun s5 =>
    Option.bind (bif s5 then
      some true
    else
      some (!v3.2)
    ) fun s8 =>
    bif s8 then
      Option.bind (bif (v3.2 == v4.2) then
        Option.bind (F_laws_wmInts v3.1 v4.1) fun v13 =>
        some v13
      else
        some false
      ) fun s11 =>
      some s11
    else
      sumK (
        loopO (F_laws_FnCondTurn_L16 v2 v3) (0 : Int)
      ) fun s14 =>
      some true
end Go.Proofs.Ytjogdblionfmiaa
