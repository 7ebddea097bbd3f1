/-
  Computable twins of plain functions (loops with fuel), and that they answer alike; printed by fuel.py. No conditions.
-/
import Derived.Test.YtjogdblionfmiaaSTd
import Derived.Test.YtjogdblionfmiaaFu
namespace Go.Proofs.Ytjogdblionfmiaa
open Go.RowKit
set_option maxRecDepth 100000
noncomputable def C_slices_Clone_int_int (s : List Int) : Option (List Int) :=
  nilK' (s.isEmpty) (
    some ([] : List Int)
  ) (
    gd (capOK (([] : List Int).length + s.length) 8) <|
    some (([] : List Int) ++ s)
  )
theorem C_slices_Clone_int_int_le (s : List Int) : Le (C_slices_Clone_int_int s) (F_slices_Clone_int_int s) := by
  unfold C_slices_Clone_int_int F_slices_Clone_int_int
  repeat' (first | with_reducible exact Le.refl _ | with_reducible refine Le.gd _ ?_ | with_reducible refine Le.bif _ ?_ ?_ | with_reducible refine Le.bind ?_ (fun _ => ?_) | with_reducible refine Le.sumK ?_ (fun _ => ?_) | with_reducible refine Le.loop (fun _ => ?_) _ | with_reducible refine Le.nilK ?_ ?_ | with_reducible refine Le.ifc _ ?_ ?_)
noncomputable def C_impl_turned (x : Int) (i : Int) (k_ : Int) : Option Int :=
  bif (x == i) then
    some k_
  else
    bif (x == k_) then
      some i
    else
      some x
theorem C_impl_turned_le (x : Int) (i : Int) (k_ : Int) : Le (C_impl_turned x i k_) (F_impl_turned x i k_) := by
  unfold C_impl_turned F_impl_turned
  repeat' (first | with_reducible exact Le.refl _ | with_reducible refine Le.gd _ ?_ | with_reducible refine Le.bif _ ?_ ?_ | with_reducible refine Le.bind ?_ (fun _ => ?_) | with_reducible refine Le.sumK ?_ (fun _ => ?_) | with_reducible refine Le.loop (fun _ => ?_) _ | with_reducible refine Le.nilK ?_ ?_ | with_reducible refine Le.ifc _ ?_ ?_)
noncomputable def C_impl_TurnOutcome_L37 (o_ : List Int) (i : Int) (k_ : Int) (s26 : (List Int) × Int) : ((List Int) × Int) → Option (((List Int) × Int) ⊕ (List Int)) := fun s36 =>
  bif decide (s36.2 < (3 : Int)) then
    Option.bind (C_impl_turned s26.2 i k_) fun v42 =>
    gd (inK .i64 ((3 : Int) * v42)) <|
    gd (inK .i64 (((3 : Int) * v42) + s36.2)) <|
    gd (inK .i64 ((3 : Int) * s26.2)) <|
    gd (inK .i64 (((3 : Int) * s26.2) + s36.2)) <|
    gd (decide (0 ≤ (((3 : Int) * s26.2) + s36.2) ∧ (((3 : Int) * s26.2) + s36.2) < (o_.length : Int))) <|
    gd (decide (0 ≤ (((3 : Int) * v42) + s36.2) ∧ (((3 : Int) * v42) + s36.2) < (s36.1.length : Int))) <|
    gd (inK .i64 (s36.2 + (1 : Int))) <|
    some (.inl ((s36.1.set ((((3 : Int) * v42) + s36.2).toNat) (o_.getD (((3 : Int) * s26.2) + s36.2).toNat default)), (s36.2 + (1 : Int))))
  else
    some (.inr s36.1)
theorem C_impl_TurnOutcome_L37_le (o_ : List Int) (i : Int) (k_ : Int) (s26 : (List Int) × Int) (sQ : _) : Le (C_impl_TurnOutcome_L37 o_ i k_ s26 sQ) (F_impl_TurnOutcome_L37 o_ i k_ s26 sQ) := by
  unfold C_impl_TurnOutcome_L37 F_impl_TurnOutcome_L37
  repeat' (first | with_reducible exact Le.refl _ | with_reducible exact C_impl_turned_le .. | with_reducible refine Le.gd _ ?_ | with_reducible refine Le.bif _ ?_ ?_ | with_reducible refine Le.bind ?_ (fun _ => ?_) | with_reducible refine Le.sumK ?_ (fun _ => ?_) | with_reducible refine Le.loop (fun _ => ?_) _ | with_reducible refine Le.nilK ?_ ?_ | with_reducible refine Le.ifc _ ?_ ?_)
noncomputable def C_impl_TurnOutcome_L27 (p : List (List Ximpl_Instr)) (o_ : List Int) (i : Int) (k_ : Int) : ((List Int) × Int) → Option (((List Int) × Int) ⊕ (List Int)) := fun s26 =>
  bif decide (s26.2 < (p.length : Int)) then
    Option.bind (
      loopN' 8 (C_impl_TurnOutcome_L37 o_ i k_ s26) (s26.1, (0 : Int))
    ) fun s32 =>
    gd (inK .i64 (s26.2 + (1 : Int))) <|
    some (.inl (s32, (s26.2 + (1 : Int))))
  else
    some (.inr s26.1)
theorem C_impl_TurnOutcome_L27_le (p : List (List Ximpl_Instr)) (o_ : List Int) (i : Int) (k_ : Int) (sQ : _) : Le (C_impl_TurnOutcome_L27 p o_ i k_ sQ) (F_impl_TurnOutcome_L27 p o_ i k_ sQ) := by
  unfold C_impl_TurnOutcome_L27 F_impl_TurnOutcome_L27
  repeat' (first | with_reducible exact Le.refl _ | with_reducible exact C_impl_TurnOutcome_L37_le .. | with_reducible refine Le.gd _ ?_ | with_reducible refine Le.bif _ ?_ ?_ | with_reducible refine Le.bind ?_ (fun _ => ?_) | with_reducible refine Le.sumK ?_ (fun _ => ?_) | with_reducible refine Le.loop (fun _ => ?_) _ | with_reducible refine Le.nilK ?_ ?_ | with_reducible refine Le.ifc _ ?_ ?_)
noncomputable def F_impl_TurnOutcome_T (p : List (List Ximpl_Instr)) (o_ : List Int) (i : Int) (k_ : Int) (x : Int) (y : Int) : Option ((List Int) × Bool) :=
  Option.bind (F_slices_Clone_int_int o_) fun v15 =>
  Option.bind (
    loopO (F_impl_TurnOutcome_L27 p o_ i k_) (v15, (0 : Int))
  ) fun s19 =>
  gd (inK .i64 ((3 : Int) * (p.length : Int))) <|
  gd (inK .i64 (((3 : Int) * (p.length : Int)) + x)) <|
  gd (inK .i64 (((3 : Int) * (p.length : Int)) + y)) <|
  gd (decide (0 ≤ (((3 : Int) * (p.length : Int)) + y) ∧ (((3 : Int) * (p.length : Int)) + y) < (o_.length : Int))) <|
  gd (decide (0 ≤ (((3 : Int) * (p.length : Int)) + x) ∧ (((3 : Int) * (p.length : Int)) + x) < (o_.length : Int))) <|
  gd (decide (0 ≤ (((3 : Int) * (p.length : Int)) + x) ∧ (((3 : Int) * (p.length : Int)) + x) < (s19.length : Int))) <|
  gd (decide (0 ≤ (((3 : Int) * (p.length : Int)) + y) ∧ (((3 : Int) * (p.length : Int)) + y) < (s19.length : Int))) <|
  some (((s19.set ((((3 : Int) * (p.length : Int)) + x).toNat) (o_.getD (((3 : Int) * (p.length : Int)) + y).toNat default)).set ((((3 : Int) * (p.length : Int)) + y).toNat) (o_.getD (((3 : Int) * (p.length : Int)) + x).toNat default)), true)
noncomputable def C_impl_TurnOutcome_T (p : List (List Ximpl_Instr)) (o_ : List Int) (i : Int) (k_ : Int) (x : Int) (y : Int) : Option ((List Int) × Bool) :=
  Option.bind (C_slices_Clone_int_int o_) fun v15 =>
  Option.bind (
    loopN' 8 (C_impl_TurnOutcome_L27 p o_ i k_) (v15, (0 : Int))
  ) fun s19 =>
  gd (inK .i64 ((3 : Int) * (p.length : Int))) <|
  gd (inK .i64 (((3 : Int) * (p.length : Int)) + x)) <|
  gd (inK .i64 (((3 : Int) * (p.length : Int)) + y)) <|
  gd (decide (0 ≤ (((3 : Int) * (p.length : Int)) + y) ∧ (((3 : Int) * (p.length : Int)) + y) < (o_.length : Int))) <|
  gd (decide (0 ≤ (((3 : Int) * (p.length : Int)) + x) ∧ (((3 : Int) * (p.length : Int)) + x) < (o_.length : Int))) <|
  gd (decide (0 ≤ (((3 : Int) * (p.length : Int)) + x) ∧ (((3 : Int) * (p.length : Int)) + x) < (s19.length : Int))) <|
  gd (decide (0 ≤ (((3 : Int) * (p.length : Int)) + y) ∧ (((3 : Int) * (p.length : Int)) + y) < (s19.length : Int))) <|
  some (((s19.set ((((3 : Int) * (p.length : Int)) + x).toNat) (o_.getD (((3 : Int) * (p.length : Int)) + y).toNat default)).set ((((3 : Int) * (p.length : Int)) + y).toNat) (o_.getD (((3 : Int) * (p.length : Int)) + x).toNat default)), true)
theorem C_impl_TurnOutcome_T_le (p : List (List Ximpl_Instr)) (o_ : List Int) (i : Int) (k_ : Int) (x : Int) (y : Int) : Le (C_impl_TurnOutcome_T p o_ i k_ x y) (F_impl_TurnOutcome_T p o_ i k_ x y) := by
  unfold C_impl_TurnOutcome_T F_impl_TurnOutcome_T
  repeat' (first | with_reducible exact Le.refl _ | with_reducible exact C_slices_Clone_int_int_le .. | with_reducible exact C_impl_TurnOutcome_L27_le .. | with_reducible refine Le.gd _ ?_ | with_reducible refine Le.bif _ ?_ ?_ | with_reducible refine Le.bind ?_ (fun _ => ?_) | with_reducible refine Le.sumK ?_ (fun _ => ?_) | with_reducible refine Le.loop (fun _ => ?_) _ | with_reducible refine Le.nilK ?_ ?_ | with_reducible refine Le.ifc _ ?_ ?_)
noncomputable def C_spec_l12Turn (n : Int) (i : Int) (k_ : Int) : Option Int :=
  bif (n == i) then
    some k_
  else
    bif (n == k_) then
      some i
    else
      some n
theorem C_spec_l12Turn_le (n : Int) (i : Int) (k_ : Int) : Le (C_spec_l12Turn n i k_) (F_spec_l12Turn n i k_) := by
  unfold C_spec_l12Turn F_spec_l12Turn
  repeat' (first | with_reducible exact Le.refl _ | with_reducible refine Le.gd _ ?_ | with_reducible refine Le.bif _ ?_ ?_ | with_reducible refine Le.bind ?_ (fun _ => ?_) | with_reducible refine Le.sumK ?_ (fun _ => ?_) | with_reducible refine Le.loop (fun _ => ?_) _ | with_reducible refine Le.nilK ?_ ?_ | with_reducible refine Le.ifc _ ?_ ?_)
noncomputable def C_spec_TurnOutcome_L26 (o_ : List Int) (i : Int) (k_ : Int) (s19 : (List Int) × Int) : ((List Int) × Int) → Option (((List Int) × Int) ⊕ (List Int)) := fun s25 =>
  bif decide (s25.2 ≤ (2 : Int)) then
    Option.bind (C_spec_l12Turn s19.2 i k_) fun v29 =>
    Option.bind (F_spec_l3Reg v29 s25.2) fun v30 =>
    gd (decide (0 ≤ v30 ∧ v30 < (o_.length : Int))) <|
    gd (capOK (s25.1.length + 1) 8) <|
    gd (inK .i64 (s25.2 + (1 : Int))) <|
    some (.inl ((s25.1 ++ [(o_.getD v30.toNat default)]), (s25.2 + (1 : Int))))
  else
    some (.inr s25.1)
theorem C_spec_TurnOutcome_L26_le (o_ : List Int) (i : Int) (k_ : Int) (s19 : (List Int) × Int) (sQ : _) : Le (C_spec_TurnOutcome_L26 o_ i k_ s19 sQ) (F_spec_TurnOutcome_L26 o_ i k_ s19 sQ) := by
  unfold C_spec_TurnOutcome_L26 F_spec_TurnOutcome_L26
  repeat' (first | with_reducible exact Le.refl _ | with_reducible exact C_spec_l12Turn_le .. | with_reducible refine Le.gd _ ?_ | with_reducible refine Le.bif _ ?_ ?_ | with_reducible refine Le.bind ?_ (fun _ => ?_) | with_reducible refine Le.sumK ?_ (fun _ => ?_) | with_reducible refine Le.loop (fun _ => ?_) _ | with_reducible refine Le.nilK ?_ ?_ | with_reducible refine Le.ifc _ ?_ ?_)
noncomputable def C_spec_TurnOutcome_L20 (p : List (List Ximpl_Instr)) (o_ : List Int) (i : Int) (k_ : Int) : ((List Int) × Int) → Option (((List Int) × Int) ⊕ (List Int)) := fun s19 =>
  bif decide (s19.2 < (p.length : Int)) then
    Option.bind (
      loopN' 8 (C_spec_TurnOutcome_L26 o_ i k_ s19) (s19.1, (0 : Int))
    ) fun s23 =>
    gd (inK .i64 (s19.2 + (1 : Int))) <|
    some (.inl (s23, (s19.2 + (1 : Int))))
  else
    some (.inr s19.1)
theorem C_spec_TurnOutcome_L20_le (p : List (List Ximpl_Instr)) (o_ : List Int) (i : Int) (k_ : Int) (sQ : _) : Le (C_spec_TurnOutcome_L20 p o_ i k_ sQ) (F_spec_TurnOutcome_L20 p o_ i k_ sQ) := by
  unfold C_spec_TurnOutcome_L20 F_spec_TurnOutcome_L20
  repeat' (first | with_reducible exact Le.refl _ | with_reducible exact C_spec_TurnOutcome_L26_le .. | with_reducible refine Le.gd _ ?_ | with_reducible refine Le.bif _ ?_ ?_ | with_reducible refine Le.bind ?_ (fun _ => ?_) | with_reducible refine Le.sumK ?_ (fun _ => ?_) | with_reducible refine Le.loop (fun _ => ?_) _ | with_reducible refine Le.nilK ?_ ?_ | with_reducible refine Le.ifc _ ?_ ?_)
noncomputable def C_spec_TurnOutcome_L40 (p : List (List Ximpl_Instr)) (o_ : List Int) (x : Int) (y : Int) : ((List Int) × Int) → Option (((List Int) × Int) ⊕ (List Int)) := fun s39 =>
  bif decide (s39.2 ≤ (2 : Int)) then
    gd (inK .i64 ((p.length : Int) * (3 : Int))) <|
    Option.bind (C_spec_l12Turn s39.2 x y) fun v44 =>
    gd (inK .i64 (((p.length : Int) * (3 : Int)) + v44)) <|
    gd (decide (0 ≤ (((p.length : Int) * (3 : Int)) + v44) ∧ (((p.length : Int) * (3 : Int)) + v44) < (o_.length : Int))) <|
    gd (capOK (s39.1.length + 1) 8) <|
    gd (inK .i64 (s39.2 + (1 : Int))) <|
    some (.inl ((s39.1 ++ [(o_.getD (((p.length : Int) * (3 : Int)) + v44).toNat default)]), (s39.2 + (1 : Int))))
  else
    some (.inr s39.1)
theorem C_spec_TurnOutcome_L40_le (p : List (List Ximpl_Instr)) (o_ : List Int) (x : Int) (y : Int) (sQ : _) : Le (C_spec_TurnOutcome_L40 p o_ x y sQ) (F_spec_TurnOutcome_L40 p o_ x y sQ) := by
  unfold C_spec_TurnOutcome_L40 F_spec_TurnOutcome_L40
  repeat' (first | with_reducible exact Le.refl _ | with_reducible exact C_spec_l12Turn_le .. | with_reducible refine Le.gd _ ?_ | with_reducible refine Le.bif _ ?_ ?_ | with_reducible refine Le.bind ?_ (fun _ => ?_) | with_reducible refine Le.sumK ?_ (fun _ => ?_) | with_reducible refine Le.loop (fun _ => ?_) _ | with_reducible refine Le.nilK ?_ ?_ | with_reducible refine Le.ifc _ ?_ ?_)
noncomputable def F_spec_TurnOutcome_T (p : List (List Ximpl_Instr)) (o_ : List Int) (i : Int) (k_ : Int) (x : Int) (y : Int) : Option ((List Int) × Bool) :=
  Option.bind (
    loopO (F_spec_TurnOutcome_L20 p o_ i k_) (([] : List Int), (0 : Int))
  ) fun s17 =>
  Option.bind (
    loopO (F_spec_TurnOutcome_L40 p o_ x y) (s17, (0 : Int))
  ) fun s37 =>
  some (s37, true)
noncomputable def C_spec_TurnOutcome_T (p : List (List Ximpl_Instr)) (o_ : List Int) (i : Int) (k_ : Int) (x : Int) (y : Int) : Option ((List Int) × Bool) :=
  Option.bind (
    loopN' 8 (C_spec_TurnOutcome_L20 p o_ i k_) (([] : List Int), (0 : Int))
  ) fun s17 =>
  Option.bind (
    loopN' 8 (C_spec_TurnOutcome_L40 p o_ x y) (s17, (0 : Int))
  ) fun s37 =>
  some (s37, true)
theorem C_spec_TurnOutcome_T_le (p : List (List Ximpl_Instr)) (o_ : List Int) (i : Int) (k_ : Int) (x : Int) (y : Int) : Le (C_spec_TurnOutcome_T p o_ i k_ x y) (F_spec_TurnOutcome_T p o_ i k_ x y) := by
  unfold C_spec_TurnOutcome_T F_spec_TurnOutcome_T
  repeat' (first | with_reducible exact Le.refl _ | with_reducible exact C_spec_TurnOutcome_L20_le .. | with_reducible exact C_spec_TurnOutcome_L40_le .. | with_reducible refine Le.gd _ ?_ | with_reducible refine Le.bif _ ?_ ?_ | with_reducible refine Le.bind ?_ (fun _ => ?_) | with_reducible refine Le.sumK ?_ (fun _ => ?_) | with_reducible refine Le.loop (fun _ => ?_) _ | with_reducible refine Le.nilK ?_ ?_ | with_reducible refine Le.ifc _ ?_ ?_)
end Go.Proofs.Ytjogdblionfmiaa
