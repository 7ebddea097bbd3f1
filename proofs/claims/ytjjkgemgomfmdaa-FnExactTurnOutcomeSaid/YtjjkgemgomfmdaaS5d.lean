/-
  Functions over plain values, as the program's code computes; printed by lift.py. No conditions.
-/
import Derived.Test.YtjjkgemgomfmdaaSt
import Derived.Test.YtjjkgemgomfmdaaBrOd
import Derived.Test.YtjjkgemgomfmdaaBrVd
namespace Go.Proofs.Ytjjkgemgomfmdaa
open Go.RowKit
set_option maxRecDepth 100000
noncomputable def F_impl_within (x : Int) (low : Int) (high : Int) : Option Bool :=
  Option.bind (bif decide (low ≤ x) then
    some (decide (x ≤ high))
  else
    some false
  ) fun s1 =>
  some s1

noncomputable def F_impl_isThread (p : List (List Ximpl_Instr)) (t : Int) : Option Bool :=
  Option.bind (F_impl_ProgramValid p) fun v1 =>
  Option.bind (bif v1 then
    gd (inK .i64 ((p.length : Int) - (1 : Int))) <|
    Option.bind (F_impl_within t (0 : Int) ((p.length : Int) - (1 : Int))) fun v5 =>
    some v5
  else
    some false
  ) fun s2 =>
  some s2

noncomputable def F_impl_isLoc (loc : Int) : Option Bool :=
  Option.bind (F_impl_within loc (0 : Int) (2 : Int)) fun v1 =>
  some v1

noncomputable def F_slices_Clone_int_int (s : List Int) : Option (List Int) :=
  nilK (s.isEmpty) (
    some ([] : List Int)
  ) (
    gd (capOK (([] : List Int).length + s.length) 8) <|
    some (([] : List Int) ++ s)
  )



noncomputable def F_impl_turned (x : Int) (i : Int) (k_ : Int) : Option Int :=
  bif (x == i) then
    some k_
  else
    bif (x == k_) then
      some i
    else
      some x

noncomputable def F_impl_TurnOutcome_L37 (o_ : List Int) (i : Int) (k_ : Int) (s26 : (List Int) × Int) : ((List Int) × Int) → Option (((List Int) × Int) ⊕ (List Int)) := fun s36 =>
  bif decide (s36.2 < (3 : Int)) then
    Option.bind (F_impl_turned s26.2 i k_) fun v42 =>
    gd (inK .i64 ((3 : Int) * v42)) <|
    gd (inK .i64 (((3 : Int) * v42) + s36.2)) <|
    gd (inK .i64 ((3 : Int) * s26.2)) <|
    gd (inK .i64 (((3 : Int) * s26.2) + s36.2)) <|
    gd (decide (0 ≤ (((3 : Int) * s26.2) + s36.2) ∧ (((3 : Int) * s26.2) + s36.2) < (o_.length : Int))) <|
    gd (decide (0 ≤ (((3 : Int) * v42) + s36.2) ∧ (((3 : Int) * v42) + s36.2) < (s36.1.length : Int))) <|
    gd (inK .i64 (s36.2 + (1 : Int))) <|
    some (.inl ((s36.1.set ((((3 : Int) * v42) + s36.2).toNat) (o_.getD (((3 : Int) * s26.2) + s36.2).toNat default)), (s36.2 + (1 : Int))))
  else
    some (.inr s36.1)

noncomputable def F_impl_TurnOutcome_L27 (p : List (List Ximpl_Instr)) (o_ : List Int) (i : Int) (k_ : Int) : ((List Int) × Int) → Option (((List Int) × Int) ⊕ (List Int)) := fun s26 =>
  bif decide (s26.2 < (p.length : Int)) then
    Option.bind (
      loopO (F_impl_TurnOutcome_L37 o_ i k_ s26) (s26.1, (0 : Int))
    ) fun s32 =>
    gd (inK .i64 (s26.2 + (1 : Int))) <|
    some (.inl (s32, (s26.2 + (1 : Int))))
  else
    some (.inr s26.1)

noncomputable def F_impl_TurnOutcome (p : List (List Ximpl_Instr)) (o_ : List Int) (i : Int) (k_ : Int) (x : Int) (y : Int) : Option ((List Int) × Bool) :=
  Option.bind (F_impl_OutcomeValid p o_) fun v1 =>
  Option.bind (bif !v1 then
    some true
  else
    Option.bind (F_impl_isThread p i) fun v4 =>
    some (!v4)
  ) fun s2 =>
  Option.bind (bif s2 then
    some true
  else
    Option.bind (F_impl_isThread p k_) fun v7 =>
    some (!v7)
  ) fun s5 =>
  Option.bind (bif s5 then
    some true
  else
    Option.bind (F_impl_isLoc x) fun v10 =>
    some (!v10)
  ) fun s8 =>
  Option.bind (bif s8 then
    some true
  else
    Option.bind (F_impl_isLoc y) fun v13 =>
    some (!v13)
  ) fun s11 =>
  bif s11 then
    some (([] : List Int), false)
  else
    Option.bind (F_slices_Clone_int_int o_) fun v15 =>
    Option.bind (
      loopO (F_impl_TurnOutcome_L27 p o_ i k_) (v15, (0 : Int))
    ) fun s19 =>
    gd (inK .i64 ((3 : Int) * (p.length : Int))) <|
    gd (inK .i64 (((3 : Int) * (p.length : Int)) + x)) <|
    gd (inK .i64 (((3 : Int) * (p.length : Int)) + y)) <|
    gd (decide (0 ≤ (((3 : Int) * (p.length : Int)) + y) ∧ (((3 : Int) * (p.length : Int)) + y) < (o_.length : Int))) <|
    gd (decide (0 ≤ (((3 : Int) * (p.length : Int)) + x) ∧ (((3 : Int) * (p.length : Int)) + x) < (o_.length : Int))) <|
    gd (decide (0 ≤ (((3 : Int) * (p.length : Int)) + x) ∧ (((3 : Int) * (p.length : Int)) + x) < (s19.length : Int))) <|
    gd (decide (0 ≤ (((3 : Int) * (p.length : Int)) + y) ∧ (((3 : Int) * (p.length : Int)) + y) < (s19.length : Int))) <|
    some (((s19.set ((((3 : Int) * (p.length : Int)) + x).toNat) (o_.getD (((3 : Int) * (p.length : Int)) + y).toNat default)).set ((((3 : Int) * (p.length : Int)) + y).toNat) (o_.getD (((3 : Int) * (p.length : Int)) + x).toNat default)), true)



noncomputable def F_spec_l1In (n : Int) (most : Int) : Option Bool :=
  Option.bind (bif decide ((0 : Int) ≤ n) then
    some (decide (n ≤ most))
  else
    some false
  ) fun s1 =>
  some s1

noncomputable def F_spec_l12Turn (n : Int) (i : Int) (k_ : Int) : Option Int :=
  bif (n == i) then
    some k_
  else
    bif (n == k_) then
      some i
    else
      some n

noncomputable def F_spec_l3Reg (t : Int) (reg : Int) : Option Int :=
  gd (inK .i64 (t * (3 : Int))) <|
  gd (inK .i64 ((t * (3 : Int)) + reg)) <|
  some ((t * (3 : Int)) + reg)

noncomputable def F_spec_TurnOutcome_L26 (o_ : List Int) (i : Int) (k_ : Int) (s19 : (List Int) × Int) : ((List Int) × Int) → Option (((List Int) × Int) ⊕ (List Int)) := fun s25 =>
  bif decide (s25.2 ≤ (2 : Int)) then
    Option.bind (F_spec_l12Turn s19.2 i k_) fun v29 =>
    Option.bind (F_spec_l3Reg v29 s25.2) fun v30 =>
    gd (decide (0 ≤ v30 ∧ v30 < (o_.length : Int))) <|
    gd (capOK (s25.1.length + 1) 8) <|
    gd (inK .i64 (s25.2 + (1 : Int))) <|
    some (.inl ((s25.1 ++ [(o_.getD v30.toNat default)]), (s25.2 + (1 : Int))))
  else
    some (.inr s25.1)

noncomputable def F_spec_TurnOutcome_L20 (p : List (List Ximpl_Instr)) (o_ : List Int) (i : Int) (k_ : Int) : ((List Int) × Int) → Option (((List Int) × Int) ⊕ (List Int)) := fun s19 =>
  bif decide (s19.2 < (p.length : Int)) then
    Option.bind (
      loopO (F_spec_TurnOutcome_L26 o_ i k_ s19) (s19.1, (0 : Int))
    ) fun s23 =>
    gd (inK .i64 (s19.2 + (1 : Int))) <|
    some (.inl (s23, (s19.2 + (1 : Int))))
  else
    some (.inr s19.1)

noncomputable def F_spec_TurnOutcome_L40 (p : List (List Ximpl_Instr)) (o_ : List Int) (x : Int) (y : Int) : ((List Int) × Int) → Option (((List Int) × Int) ⊕ (List Int)) := fun s39 =>
  bif decide (s39.2 ≤ (2 : Int)) then
    gd (inK .i64 ((p.length : Int) * (3 : Int))) <|
    Option.bind (F_spec_l12Turn s39.2 x y) fun v44 =>
    gd (inK .i64 (((p.length : Int) * (3 : Int)) + v44)) <|
    gd (decide (0 ≤ (((p.length : Int) * (3 : Int)) + v44) ∧ (((p.length : Int) * (3 : Int)) + v44) < (o_.length : Int))) <|
    gd (capOK (s39.1.length + 1) 8) <|
    gd (inK .i64 (s39.2 + (1 : Int))) <|
    some (.inl ((s39.1 ++ [(o_.getD (((p.length : Int) * (3 : Int)) + v44).toNat default)]), (s39.2 + (1 : Int))))
  else
    some (.inr s39.1)

noncomputable def F_spec_TurnOutcome (p : List (List Ximpl_Instr)) (o_ : List Int) (i : Int) (k_ : Int) (x : Int) (y : Int) : Option ((List Int) × Bool) :=
  Option.bind (F_spec_OutcomeValid p o_) fun v1 =>
  Option.bind (bif !v1 then
    some true
  else
    gd (inK .i64 ((p.length : Int) - (1 : Int))) <|
    Option.bind (F_spec_l1In i ((p.length : Int) - (1 : Int))) fun v5 =>
    some (!v5)
  ) fun s2 =>
  Option.bind (bif s2 then
    some true
  else
    gd (inK .i64 ((p.length : Int) - (1 : Int))) <|
    Option.bind (F_spec_l1In k_ ((p.length : Int) - (1 : Int))) fun v9 =>
    some (!v9)
  ) fun s6 =>
  Option.bind (bif s6 then
    some true
  else
    Option.bind (F_spec_l1In x (2 : Int)) fun v12 =>
    some (!v12)
  ) fun s10 =>
  Option.bind (bif s10 then
    some true
  else
    Option.bind (F_spec_l1In y (2 : Int)) fun v15 =>
    some (!v15)
  ) fun s13 =>
  bif s13 then
    some (([] : List Int), false)
  else
    Option.bind (
      loopO (F_spec_TurnOutcome_L20 p o_ i k_) (([] : List Int), (0 : Int))
    ) fun s17 =>
    Option.bind (
      loopO (F_spec_TurnOutcome_L40 p o_ x y) (s17, (0 : Int))
    ) fun s37 =>
    some (s37, true)
end Go.Proofs.Ytjjkgemgomfmdaa
