/-
  Computable twins of plain functions (loops with fuel), and that they answer alike; printed by fuel.py. No conditions.
-/
import Derived.Test.YtjogdblionfmiaaS13d
import Derived.Test.YtjogdblionfmiaaFu
namespace Go.Proofs.Ytjogdblionfmiaa
open Go.RowKit
set_option maxRecDepth 100000
def C_impl_CountSchedules_L10 (p : List (List Ximpl_Instr)) (s4 : Int × Int × Int) : (Int × Int × Int) → Option ((Int × Int × Int) ⊕ (Int × Int)) := fun s9 =>
  bif decide (s9.1 < ((p.getD s4.1.toNat default).length : Int)) then
    gd (inK .i64 (s9.2.1 + (1 : Int))) <|
    gd (inK .i64 (s9.2.2 * (s9.2.1 + (1 : Int)))) <|
    gd (inK .i64 (s9.1 + (1 : Int))) <|
    gd (decide ((s9.1 + (1 : Int)) ≠ 0)) <|
    gd (inK .i64 ((s9.2.2 * (s9.2.1 + (1 : Int))).tdiv (s9.1 + (1 : Int)))) <|
    some (.inl ((s9.1 + (1 : Int)), (s9.2.1 + (1 : Int)), ((s9.2.2 * (s9.2.1 + (1 : Int))).tdiv (s9.1 + (1 : Int)))))
  else
    some (.inr (s9.2.1, s9.2.2))
theorem C_impl_CountSchedules_L10_le (p : List (List Ximpl_Instr)) (s4 : Int × Int × Int) (sQ : _) : Le (C_impl_CountSchedules_L10 p s4 sQ) (F_impl_CountSchedules_L10 p s4 sQ) := by
  unfold C_impl_CountSchedules_L10 F_impl_CountSchedules_L10
  repeat' (first | with_reducible exact Le.refl _ | with_reducible refine Le.gd _ ?_ | with_reducible refine Le.bif _ ?_ ?_ | with_reducible refine Le.bind ?_ (fun _ => ?_) | with_reducible refine Le.sumK ?_ (fun _ => ?_) | with_reducible refine Le.loop (fun _ => ?_) _ | with_reducible refine Le.nilK ?_ ?_ | with_reducible refine Le.ifc _ ?_ ?_)
def C_impl_CountSchedules_L5 (p : List (List Ximpl_Instr)) : (Int × Int × Int) → Option ((Int × Int × Int) ⊕ Int) := fun s4 =>
  bif decide (s4.1 < (p.length : Int)) then
    Option.bind (
      gd (decide (0 ≤ s4.1 ∧ s4.1 < (p.length : Int))) <|
      loopN' 25 (C_impl_CountSchedules_L10 p s4) ((0 : Int), s4.2.1, s4.2.2)
    ) fun s7 =>
    gd (inK .i64 (s4.1 + (1 : Int))) <|
    some (.inl ((s4.1 + (1 : Int)), s7.1, s7.2))
  else
    some (.inr s4.2.2)
theorem C_impl_CountSchedules_L5_le (p : List (List Ximpl_Instr)) (sQ : _) : Le (C_impl_CountSchedules_L5 p sQ) (F_impl_CountSchedules_L5 p sQ) := by
  unfold C_impl_CountSchedules_L5 F_impl_CountSchedules_L5
  repeat' (first | with_reducible exact Le.refl _ | with_reducible exact C_impl_CountSchedules_L10_le .. | with_reducible refine Le.gd _ ?_ | with_reducible refine Le.bif _ ?_ ?_ | with_reducible refine Le.bind ?_ (fun _ => ?_) | with_reducible refine Le.sumK ?_ (fun _ => ?_) | with_reducible refine Le.loop (fun _ => ?_) _ | with_reducible refine Le.nilK ?_ ?_ | with_reducible refine Le.ifc _ ?_ ?_)
noncomputable def F_impl_CountSchedules_T (p : List (List Ximpl_Instr)) : Option Int :=
  Option.bind (
    loopO (F_impl_CountSchedules_L5 p) ((0 : Int), (0 : Int), (1 : Int))
  ) fun s3 =>
  some s3
def C_impl_CountSchedules_T (p : List (List Ximpl_Instr)) : Option Int :=
  Option.bind (
    loopN' 25 (C_impl_CountSchedules_L5 p) ((0 : Int), (0 : Int), (1 : Int))
  ) fun s3 =>
  some s3
theorem C_impl_CountSchedules_T_le (p : List (List Ximpl_Instr)) : Le (C_impl_CountSchedules_T p) (F_impl_CountSchedules_T p) := by
  unfold C_impl_CountSchedules_T F_impl_CountSchedules_T
  repeat' (first | with_reducible exact Le.refl _ | with_reducible exact C_impl_CountSchedules_L5_le .. | with_reducible refine Le.gd _ ?_ | with_reducible refine Le.bif _ ?_ ?_ | with_reducible refine Le.bind ?_ (fun _ => ?_) | with_reducible refine Le.sumK ?_ (fun _ => ?_) | with_reducible refine Le.loop (fun _ => ?_) _ | with_reducible refine Le.nilK ?_ ?_ | with_reducible refine Le.ifc _ ?_ ?_)
end Go.Proofs.Ytjogdblionfmiaa
