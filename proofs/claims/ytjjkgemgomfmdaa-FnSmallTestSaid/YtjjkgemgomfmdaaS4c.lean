/-
  Computable twins of plain functions (loops with fuel), and that they answer alike; printed by fuel.py. No conditions.
-/
import Derived.Test.YtjjkgemgomfmdaaS4d
import Derived.Test.YtjjkgemgomfmdaaFu
namespace Go.Proofs.Ytjjkgemgomfmdaa
open Go.RowKit
set_option maxRecDepth 100000
def C_impl_SmallTests  : Option Int :=
  some (1296 : Int)
theorem C_impl_SmallTests_le  : Le (C_impl_SmallTests ) (F_impl_SmallTests ) := by
  unfold C_impl_SmallTests F_impl_SmallTests
  repeat' (first | with_reducible exact Le.refl _ | with_reducible refine Le.gd _ ?_ | with_reducible refine Le.bif _ ?_ ?_ | with_reducible refine Le.bind ?_ (fun _ => ?_) | with_reducible refine Le.sumK ?_ (fun _ => ?_) | with_reducible refine Le.loop (fun _ => ?_) _ | with_reducible refine Le.ifc _ ?_ ?_)
def C_impl_within (x : Int) (low : Int) (high : Int) : Option Bool :=
  Option.bind (bif decide (low ≤ x) then
    some (decide (x ≤ high))
  else
    some false
  ) fun s1 =>
  some s1
theorem C_impl_within_le (x : Int) (low : Int) (high : Int) : Le (C_impl_within x low high) (F_impl_within x low high) := by
  unfold C_impl_within F_impl_within
  repeat' (first | with_reducible exact Le.refl _ | with_reducible refine Le.gd _ ?_ | with_reducible refine Le.bif _ ?_ ?_ | with_reducible refine Le.bind ?_ (fun _ => ?_) | with_reducible refine Le.sumK ?_ (fun _ => ?_) | with_reducible refine Le.loop (fun _ => ?_) _ | with_reducible refine Le.ifc _ ?_ ?_)
def C_impl_smallInstrs  : Option (List Ximpl_Instr) :=
  some ([(⟨(2 : Int), (0 : Int), (0 : Int), (1 : Int)⟩ : Ximpl_Instr), (⟨(2 : Int), (1 : Int), (0 : Int), (1 : Int)⟩ : Ximpl_Instr), (⟨(1 : Int), (0 : Int), (0 : Int), (0 : Int)⟩ : Ximpl_Instr), (⟨(1 : Int), (1 : Int), (1 : Int), (0 : Int)⟩ : Ximpl_Instr), (⟨(4 : Int), (0 : Int), (0 : Int), (0 : Int)⟩ : Ximpl_Instr), (⟨(5 : Int), (0 : Int), (2 : Int), (2 : Int)⟩ : Ximpl_Instr)] : List Ximpl_Instr)
theorem C_impl_smallInstrs_le  : Le (C_impl_smallInstrs ) (F_impl_smallInstrs ) := by
  unfold C_impl_smallInstrs F_impl_smallInstrs
  repeat' (first | with_reducible exact Le.refl _ | with_reducible refine Le.gd _ ?_ | with_reducible refine Le.bif _ ?_ ?_ | with_reducible refine Le.bind ?_ (fun _ => ?_) | with_reducible refine Le.sumK ?_ (fun _ => ?_) | with_reducible refine Le.loop (fun _ => ?_) _ | with_reducible refine Le.ifc _ ?_ ?_)
def C_impl_smallTest (n : Int) : Option (List (List Ximpl_Instr)) :=
  Option.bind (C_impl_smallInstrs ) fun v1 =>
  gd (decide ((216 : Int) ≠ 0)) <|
  gd (inK .i64 (n.tdiv (216 : Int))) <|
  gd (decide (0 ≤ (n.tdiv (216 : Int)) ∧ (n.tdiv (216 : Int)) < (v1.length : Int))) <|
  gd (decide ((36 : Int) ≠ 0)) <|
  gd (inK .i64 (n.tdiv (36 : Int))) <|
  gd (decide ((6 : Int) ≠ 0)) <|
  gd (decide (0 ≤ ((n.tdiv (36 : Int)).tmod (6 : Int)) ∧ ((n.tdiv (36 : Int)).tmod (6 : Int)) < (v1.length : Int))) <|
  gd (inK .i64 (n.tdiv (6 : Int))) <|
  gd (decide (0 ≤ ((n.tdiv (6 : Int)).tmod (6 : Int)) ∧ ((n.tdiv (6 : Int)).tmod (6 : Int)) < (v1.length : Int))) <|
  gd (decide (0 ≤ (n.tmod (6 : Int)) ∧ (n.tmod (6 : Int)) < (v1.length : Int))) <|
  some ([([(v1.getD (n.tdiv (216 : Int)).toNat default), (v1.getD ((n.tdiv (36 : Int)).tmod (6 : Int)).toNat default)] : List Ximpl_Instr), ([(v1.getD ((n.tdiv (6 : Int)).tmod (6 : Int)).toNat default), (v1.getD (n.tmod (6 : Int)).toNat default)] : List Ximpl_Instr)] : List (List Ximpl_Instr))
theorem C_impl_smallTest_le (n : Int) : Le (C_impl_smallTest n) (F_impl_smallTest n) := by
  unfold C_impl_smallTest F_impl_smallTest
  repeat' (first | with_reducible exact Le.refl _ | with_reducible exact C_impl_smallInstrs_le .. | with_reducible refine Le.gd _ ?_ | with_reducible refine Le.bif _ ?_ ?_ | with_reducible refine Le.bind ?_ (fun _ => ?_) | with_reducible refine Le.sumK ?_ (fun _ => ?_) | with_reducible refine Le.loop (fun _ => ?_) _ | with_reducible refine Le.ifc _ ?_ ?_)
def C_impl_SmallTest (n : Int) : Option ((List (List Ximpl_Instr)) × Bool) :=
  Option.bind (C_impl_SmallTests ) fun v1 =>
  gd (inK .i64 (v1 - (1 : Int))) <|
  Option.bind (C_impl_within n (0 : Int) (v1 - (1 : Int))) fun v3 =>
  bif !v3 then
    some (([] : List (List Ximpl_Instr)), false)
  else
    Option.bind (C_impl_smallTest n) fun v5 =>
    some (v5, true)
theorem C_impl_SmallTest_le (n : Int) : Le (C_impl_SmallTest n) (F_impl_SmallTest n) := by
  unfold C_impl_SmallTest F_impl_SmallTest
  repeat' (first | with_reducible exact Le.refl _ | with_reducible exact C_impl_SmallTests_le .. | with_reducible exact C_impl_within_le .. | with_reducible exact C_impl_smallTest_le .. | with_reducible refine Le.gd _ ?_ | with_reducible refine Le.bif _ ?_ ?_ | with_reducible refine Le.bind ?_ (fun _ => ?_) | with_reducible refine Le.sumK ?_ (fun _ => ?_) | with_reducible refine Le.loop (fun _ => ?_) _ | with_reducible refine Le.ifc _ ?_ ?_)
def C_spec_l14Instrs  : Option (List Ximpl_Instr) :=
  some ([(⟨(2 : Int), (0 : Int), (0 : Int), (1 : Int)⟩ : Ximpl_Instr), (⟨(2 : Int), (1 : Int), (0 : Int), (1 : Int)⟩ : Ximpl_Instr), (⟨(1 : Int), (0 : Int), (0 : Int), (0 : Int)⟩ : Ximpl_Instr), (⟨(1 : Int), (1 : Int), (1 : Int), (0 : Int)⟩ : Ximpl_Instr), (⟨(4 : Int), (0 : Int), (0 : Int), (0 : Int)⟩ : Ximpl_Instr), (⟨(5 : Int), (0 : Int), (2 : Int), (2 : Int)⟩ : Ximpl_Instr)] : List Ximpl_Instr)
theorem C_spec_l14Instrs_le  : Le (C_spec_l14Instrs ) (F_spec_l14Instrs ) := by
  unfold C_spec_l14Instrs F_spec_l14Instrs
  repeat' (first | with_reducible exact Le.refl _ | with_reducible refine Le.gd _ ?_ | with_reducible refine Le.bif _ ?_ ?_ | with_reducible refine Le.bind ?_ (fun _ => ?_) | with_reducible refine Le.sumK ?_ (fun _ => ?_) | with_reducible refine Le.loop (fun _ => ?_) _ | with_reducible refine Le.ifc _ ?_ ?_)
def C_spec_SmallTests  : Option Int :=
  Option.bind (C_spec_l14Instrs ) fun v1 =>
  gd (inK .i64 ((v1.length : Int) * (v1.length : Int))) <|
  gd (inK .i64 (((v1.length : Int) * (v1.length : Int)) * (v1.length : Int))) <|
  gd (inK .i64 ((((v1.length : Int) * (v1.length : Int)) * (v1.length : Int)) * (v1.length : Int))) <|
  some ((((v1.length : Int) * (v1.length : Int)) * (v1.length : Int)) * (v1.length : Int))
theorem C_spec_SmallTests_le  : Le (C_spec_SmallTests ) (F_spec_SmallTests ) := by
  unfold C_spec_SmallTests F_spec_SmallTests
  repeat' (first | with_reducible exact Le.refl _ | with_reducible exact C_spec_l14Instrs_le .. | with_reducible refine Le.gd _ ?_ | with_reducible refine Le.bif _ ?_ ?_ | with_reducible refine Le.bind ?_ (fun _ => ?_) | with_reducible refine Le.sumK ?_ (fun _ => ?_) | with_reducible refine Le.loop (fun _ => ?_) _ | with_reducible refine Le.ifc _ ?_ ?_)
def C_spec_l14Test_L5 (v1 : (List Ximpl_Instr)) : ((List (List Ximpl_Instr)) × Int × Int) → Option (((List (List Ximpl_Instr)) × Int × Int) ⊕ (List (List Ximpl_Instr))) := fun s4 =>
  bif decide ((0 : Int) ≤ s4.2.1) then
    gd (decide ((2 : Int) ≠ 0)) <|
    gd (inK .i64 (s4.2.1.tdiv (2 : Int))) <|
    gd (decide ((v1.length : Int) ≠ 0)) <|
    gd (decide (0 ≤ (s4.2.2.tmod (v1.length : Int)) ∧ (s4.2.2.tmod (v1.length : Int)) < (v1.length : Int))) <|
    gd (decide (0 ≤ (s4.2.1.tdiv (2 : Int)) ∧ (s4.2.1.tdiv (2 : Int)) < (s4.1.length : Int))) <|
    gd (capOK (([(v1.getD (s4.2.2.tmod (v1.length : Int)).toNat default)] : List Ximpl_Instr).length + (s4.1.getD ((s4.2.1.tdiv (2 : Int)).toNat) default).length) 32) <|
    gd (inK .i64 (s4.2.2.tdiv (v1.length : Int))) <|
    gd (inK .i64 (s4.2.1 - (1 : Int))) <|
    some (.inl ((s4.1.set ((s4.2.1.tdiv (2 : Int)).toNat) (([(v1.getD (s4.2.2.tmod (v1.length : Int)).toNat default)] : List Ximpl_Instr) ++ (s4.1.getD ((s4.2.1.tdiv (2 : Int)).toNat) default))), (s4.2.1 - (1 : Int)), (s4.2.2.tdiv (v1.length : Int))))
  else
    some (.inr s4.1)
theorem C_spec_l14Test_L5_le (v1 : (List Ximpl_Instr)) (s : _) : Le (C_spec_l14Test_L5 v1 s) (F_spec_l14Test_L5 v1 s) := by
  unfold C_spec_l14Test_L5 F_spec_l14Test_L5
  repeat' (first | with_reducible exact Le.refl _ | with_reducible refine Le.gd _ ?_ | with_reducible refine Le.bif _ ?_ ?_ | with_reducible refine Le.bind ?_ (fun _ => ?_) | with_reducible refine Le.sumK ?_ (fun _ => ?_) | with_reducible refine Le.loop (fun _ => ?_) _ | with_reducible refine Le.ifc _ ?_ ?_)
def C_spec_l14Test (n : Int) : Option (List (List Ximpl_Instr)) :=
  Option.bind (C_spec_l14Instrs ) fun v1 =>
  Option.bind (
    loopN' 16 (C_spec_l14Test_L5 v1) (([([] : List Ximpl_Instr), ([] : List Ximpl_Instr)] : List (List Ximpl_Instr)), (3 : Int), n)
  ) fun s2 =>
  some s2
theorem C_spec_l14Test_le (n : Int) : Le (C_spec_l14Test n) (F_spec_l14Test n) := by
  unfold C_spec_l14Test F_spec_l14Test
  repeat' (first | with_reducible exact Le.refl _ | with_reducible exact C_spec_l14Instrs_le .. | with_reducible exact C_spec_l14Test_L5_le .. | with_reducible refine Le.gd _ ?_ | with_reducible refine Le.bif _ ?_ ?_ | with_reducible refine Le.bind ?_ (fun _ => ?_) | with_reducible refine Le.sumK ?_ (fun _ => ?_) | with_reducible refine Le.loop (fun _ => ?_) _ | with_reducible refine Le.ifc _ ?_ ?_)
def C_spec_SmallTest (n : Int) : Option ((List (List Ximpl_Instr)) × Bool) :=
  Option.bind (bif decide (n < (0 : Int)) then
    some true
  else
    Option.bind (C_spec_SmallTests ) fun v3 =>
    some (decide (v3 ≤ n))
  ) fun s1 =>
  bif s1 then
    some (([] : List (List Ximpl_Instr)), false)
  else
    Option.bind (C_spec_l14Test n) fun v5 =>
    some (v5, true)
theorem C_spec_SmallTest_le (n : Int) : Le (C_spec_SmallTest n) (F_spec_SmallTest n) := by
  unfold C_spec_SmallTest F_spec_SmallTest
  repeat' (first | with_reducible exact Le.refl _ | with_reducible exact C_spec_SmallTests_le .. | with_reducible exact C_spec_l14Test_le .. | with_reducible refine Le.gd _ ?_ | with_reducible refine Le.bif _ ?_ ?_ | with_reducible refine Le.bind ?_ (fun _ => ?_) | with_reducible refine Le.sumK ?_ (fun _ => ?_) | with_reducible refine Le.loop (fun _ => ?_) _ | with_reducible refine Le.ifc _ ?_ ?_)
def C_slices_Equal_impl_Instr_impl_Instr_L4 (s1_ : List Ximpl_Instr) (s2_ : List Ximpl_Instr) : Int → Option (Int ⊕ (Unit ⊕ Bool)) := fun s3 =>
  bif decide (s3 < (s1_.length : Int)) then
    gd (decide (0 ≤ s3 ∧ s3 < (s1_.length : Int))) <|
    gd (decide (0 ≤ s3 ∧ s3 < (s2_.length : Int))) <|
    bif (!(((s1_.getD s3.toNat default).Op) == ((s2_.getD s3.toNat default).Op) && (((s1_.getD s3.toNat default).Loc) == ((s2_.getD s3.toNat default).Loc) && (((s1_.getD s3.toNat default).Reg) == ((s2_.getD s3.toNat default).Reg) && (((s1_.getD s3.toNat default).Val) == ((s2_.getD s3.toNat default).Val) && true))))) then
      some (.inr (.inr false))
    else
      gd (inK .i64 (s3 + (1 : Int))) <|
      some (.inl (s3 + (1 : Int)))
  else
    some (.inr (.inl ()))
theorem C_slices_Equal_impl_Instr_impl_Instr_L4_le (s1_ : List Ximpl_Instr) (s2_ : List Ximpl_Instr) (s : _) : Le (C_slices_Equal_impl_Instr_impl_Instr_L4 s1_ s2_ s) (F_slices_Equal_impl_Instr_impl_Instr_L4 s1_ s2_ s) := by
  unfold C_slices_Equal_impl_Instr_impl_Instr_L4 F_slices_Equal_impl_Instr_impl_Instr_L4
  repeat' (first | with_reducible exact Le.refl _ | with_reducible refine Le.gd _ ?_ | with_reducible refine Le.bif _ ?_ ?_ | with_reducible refine Le.bind ?_ (fun _ => ?_) | with_reducible refine Le.sumK ?_ (fun _ => ?_) | with_reducible refine Le.loop (fun _ => ?_) _ | with_reducible refine Le.ifc _ ?_ ?_)
def C_slices_Equal_impl_Instr_impl_Instr (s1_ : List Ximpl_Instr) (s2_ : List Ximpl_Instr) : Option Bool :=
  bif ((s1_.length : Int) != (s2_.length : Int)) then
    some false
  else
    sumK (
      loopN' 16 (C_slices_Equal_impl_Instr_impl_Instr_L4 s1_ s2_) (0 : Int)
    ) fun s2 =>
    some true
theorem C_slices_Equal_impl_Instr_impl_Instr_le (s1_ : List Ximpl_Instr) (s2_ : List Ximpl_Instr) : Le (C_slices_Equal_impl_Instr_impl_Instr s1_ s2_) (F_slices_Equal_impl_Instr_impl_Instr s1_ s2_) := by
  unfold C_slices_Equal_impl_Instr_impl_Instr F_slices_Equal_impl_Instr_impl_Instr
  repeat' (first | with_reducible exact Le.refl _ | with_reducible exact C_slices_Equal_impl_Instr_impl_Instr_L4_le .. | with_reducible refine Le.gd _ ?_ | with_reducible refine Le.bif _ ?_ ?_ | with_reducible refine Le.bind ?_ (fun _ => ?_) | with_reducible refine Le.sumK ?_ (fun _ => ?_) | with_reducible refine Le.loop (fun _ => ?_) _ | with_reducible refine Le.ifc _ ?_ ?_)
def C_impl_ProgramSame_1 (x : List Ximpl_Instr) (y : List Ximpl_Instr) : Option Bool :=
  Option.bind (C_slices_Equal_impl_Instr_impl_Instr x y) fun v1 =>
  some v1
theorem C_impl_ProgramSame_1_le (x : List Ximpl_Instr) (y : List Ximpl_Instr) : Le (C_impl_ProgramSame_1 x y) (F_impl_ProgramSame_1 x y) := by
  unfold C_impl_ProgramSame_1 F_impl_ProgramSame_1
  repeat' (first | with_reducible exact Le.refl _ | with_reducible exact C_slices_Equal_impl_Instr_impl_Instr_le .. | with_reducible refine Le.gd _ ?_ | with_reducible refine Le.bif _ ?_ ?_ | with_reducible refine Le.bind ?_ (fun _ => ?_) | with_reducible refine Le.sumK ?_ (fun _ => ?_) | with_reducible refine Le.loop (fun _ => ?_) _ | with_reducible refine Le.ifc _ ?_ ?_)
def C_slices_EqualFunc_impl_Instr_impl_Instr_impl_Instr_impl_Instr__impl_ProgramSame_1_L4 (s1_ : List (List Ximpl_Instr)) (s2_ : List (List Ximpl_Instr)) : Int → Option (Int ⊕ (Unit ⊕ Bool)) := fun s3 =>
  bif decide (s3 < (s1_.length : Int)) then
    gd (decide (0 ≤ s3 ∧ s3 < (s1_.length : Int))) <|
    gd (decide (0 ≤ s3 ∧ s3 < (s2_.length : Int))) <|
    Option.bind (C_impl_ProgramSame_1 (s1_.getD s3.toNat default) (s2_.getD s3.toNat default)) fun v8 =>
    bif !v8 then
      some (.inr (.inr false))
    else
      gd (inK .i64 (s3 + (1 : Int))) <|
      some (.inl (s3 + (1 : Int)))
  else
    some (.inr (.inl ()))
theorem C_slices_EqualFunc_impl_Instr_impl_Instr_impl_Instr_impl_Instr__impl_ProgramSame_1_L4_le (s1_ : List (List Ximpl_Instr)) (s2_ : List (List Ximpl_Instr)) (s : _) : Le (C_slices_EqualFunc_impl_Instr_impl_Instr_impl_Instr_impl_Instr__impl_ProgramSame_1_L4 s1_ s2_ s) (F_slices_EqualFunc_impl_Instr_impl_Instr_impl_Instr_impl_Instr__impl_ProgramSame_1_L4 s1_ s2_ s) := by
  unfold C_slices_EqualFunc_impl_Instr_impl_Instr_impl_Instr_impl_Instr__impl_ProgramSame_1_L4 F_slices_EqualFunc_impl_Instr_impl_Instr_impl_Instr_impl_Instr__impl_ProgramSame_1_L4
  repeat' (first | with_reducible exact Le.refl _ | with_reducible exact C_impl_ProgramSame_1_le .. | with_reducible refine Le.gd _ ?_ | with_reducible refine Le.bif _ ?_ ?_ | with_reducible refine Le.bind ?_ (fun _ => ?_) | with_reducible refine Le.sumK ?_ (fun _ => ?_) | with_reducible refine Le.loop (fun _ => ?_) _ | with_reducible refine Le.ifc _ ?_ ?_)
def C_slices_EqualFunc_impl_Instr_impl_Instr_impl_Instr_impl_Instr__impl_ProgramSame_1 (s1_ : List (List Ximpl_Instr)) (s2_ : List (List Ximpl_Instr)) : Option Bool :=
  bif ((s1_.length : Int) != (s2_.length : Int)) then
    some false
  else
    sumK (
      loopN' 16 (C_slices_EqualFunc_impl_Instr_impl_Instr_impl_Instr_impl_Instr__impl_ProgramSame_1_L4 s1_ s2_) (0 : Int)
    ) fun s2 =>
    some true
theorem C_slices_EqualFunc_impl_Instr_impl_Instr_impl_Instr_impl_Instr__impl_ProgramSame_1_le (s1_ : List (List Ximpl_Instr)) (s2_ : List (List Ximpl_Instr)) : Le (C_slices_EqualFunc_impl_Instr_impl_Instr_impl_Instr_impl_Instr__impl_ProgramSame_1 s1_ s2_) (F_slices_EqualFunc_impl_Instr_impl_Instr_impl_Instr_impl_Instr__impl_ProgramSame_1 s1_ s2_) := by
  unfold C_slices_EqualFunc_impl_Instr_impl_Instr_impl_Instr_impl_Instr__impl_ProgramSame_1 F_slices_EqualFunc_impl_Instr_impl_Instr_impl_Instr_impl_Instr__impl_ProgramSame_1
  repeat' (first | with_reducible exact Le.refl _ | with_reducible exact C_slices_EqualFunc_impl_Instr_impl_Instr_impl_Instr_impl_Instr__impl_ProgramSame_1_L4_le .. | with_reducible refine Le.gd _ ?_ | with_reducible refine Le.bif _ ?_ ?_ | with_reducible refine Le.bind ?_ (fun _ => ?_) | with_reducible refine Le.sumK ?_ (fun _ => ?_) | with_reducible refine Le.loop (fun _ => ?_) _ | with_reducible refine Le.ifc _ ?_ ?_)
def C_impl_ProgramSame (a : List (List Ximpl_Instr)) (b : List (List Ximpl_Instr)) : Option Bool :=
  Option.bind (C_slices_EqualFunc_impl_Instr_impl_Instr_impl_Instr_impl_Instr__impl_ProgramSame_1 a b) fun v1 =>
  some v1
theorem C_impl_ProgramSame_le (a : List (List Ximpl_Instr)) (b : List (List Ximpl_Instr)) : Le (C_impl_ProgramSame a b) (F_impl_ProgramSame a b) := by
  unfold C_impl_ProgramSame F_impl_ProgramSame
  repeat' (first | with_reducible exact Le.refl _ | with_reducible exact C_slices_EqualFunc_impl_Instr_impl_Instr_impl_Instr_impl_Instr__impl_ProgramSame_1_le .. | with_reducible refine Le.gd _ ?_ | with_reducible refine Le.bif _ ?_ ?_ | with_reducible refine Le.bind ?_ (fun _ => ?_) | with_reducible refine Le.sumK ?_ (fun _ => ?_) | with_reducible refine Le.loop (fun _ => ?_) _ | with_reducible refine Le.ifc _ ?_ ?_)
def C_impl_InstrValid (x : Ximpl_Instr) : Option Bool :=
  sumK (
    Option.bind (
      bif (x.Op == (1 : Int)) then
        some (x.Op == (1 : Int))
      else
        some (x.Op == (3 : Int))
    ) fun s2 =>
    bif s2 then
      some (.inl (x.Loc, x.Reg, (0 : Int)))
    else
      bif (x.Op == (2 : Int)) then
        some (.inl (x.Loc, (0 : Int), x.Val))
      else
        bif (x.Op == (4 : Int)) then
          some (.inl ((0 : Int), (0 : Int), (0 : Int)))
        else
          bif (x.Op == (5 : Int)) then
            some (.inl (x.Loc, x.Reg, x.Val))
          else
            some (.inr false)
  ) fun s1 =>
  Option.bind (bif (x.Op == x.Op && (x.Loc == s1.1 && (x.Reg == s1.2.1 && (x.Val == s1.2.2 && true)))) then
    Option.bind (C_impl_within x.Loc (0 : Int) (2 : Int)) fun v10 =>
    some v10
  else
    some false
  ) fun s8 =>
  Option.bind (bif s8 then
    Option.bind (C_impl_within x.Reg (0 : Int) (2 : Int)) fun v13 =>
    some v13
  else
    some false
  ) fun s11 =>
  Option.bind (bif s11 then
    Option.bind (C_impl_within x.Val (0 : Int) (3 : Int)) fun v16 =>
    some v16
  else
    some false
  ) fun s14 =>
  some s14
theorem C_impl_InstrValid_le (x : Ximpl_Instr) : Le (C_impl_InstrValid x) (F_impl_InstrValid x) := by
  unfold C_impl_InstrValid F_impl_InstrValid
  repeat' (first | with_reducible exact Le.refl _ | with_reducible exact C_impl_within_le .. | with_reducible refine Le.gd _ ?_ | with_reducible refine Le.bif _ ?_ ?_ | with_reducible refine Le.bind ?_ (fun _ => ?_) | with_reducible refine Le.sumK ?_ (fun _ => ?_) | with_reducible refine Le.loop (fun _ => ?_) _ | with_reducible refine Le.ifc _ ?_ ?_)
def C_impl_ProgramValid_L11 (p : List (List Ximpl_Instr)) (s4 : Int × Int) : (Int × Int) → Option ((Int × Int) ⊕ (Int ⊕ (Int ⊕ ((Int × Int) ⊕ (Int ⊕ Bool))))) := fun s10 =>
  bif decide (s10.1 < ((p.getD s4.1.toNat default).length : Int)) then
    sumK (
      gd (decide (0 ≤ s10.1 ∧ s10.1 < ((p.getD s4.1.toNat default).length : Int))) <|
      Option.bind (C_impl_InstrValid (⟨((p.getD s4.1.toNat default).getD s10.1.toNat default).Op, ((p.getD s4.1.toNat default).getD s10.1.toNat default).Loc, ((p.getD s4.1.toNat default).getD s10.1.toNat default).Reg, ((p.getD s4.1.toNat default).getD s10.1.toNat default).Val⟩ : Ximpl_Instr)) fun v15 =>
      bif !v15 then
        some (.inr (.inr (.inr (.inr (.inr (.inr false))))))
      else
        bif ((((p.getD s4.1.toNat default).getD s10.1.toNat default).Op) != (4 : Int)) then
          gd (inK .i64 (s10.2 + (1 : Int))) <|
          some (.inl (s10.2 + (1 : Int)))
        else
          some (.inl s10.2)
    ) fun s13 =>
    gd (inK .i64 (s10.1 + (1 : Int))) <|
    some (.inl ((s10.1 + (1 : Int)), s13))
  else
    some (.inr (.inl s10.2))
theorem C_impl_ProgramValid_L11_le (p : List (List Ximpl_Instr)) (s4 : Int × Int) (s : _) : Le (C_impl_ProgramValid_L11 p s4 s) (F_impl_ProgramValid_L11 p s4 s) := by
  unfold C_impl_ProgramValid_L11 F_impl_ProgramValid_L11
  repeat' (first | with_reducible exact Le.refl _ | with_reducible exact C_impl_InstrValid_le .. | with_reducible refine Le.gd _ ?_ | with_reducible refine Le.bif _ ?_ ?_ | with_reducible refine Le.bind ?_ (fun _ => ?_) | with_reducible refine Le.sumK ?_ (fun _ => ?_) | with_reducible refine Le.loop (fun _ => ?_) _ | with_reducible refine Le.ifc _ ?_ ?_)
def C_impl_ProgramValid_L5 (p : List (List Ximpl_Instr)) : (Int × Int) → Option ((Int × Int) ⊕ (Int ⊕ Bool)) := fun s4 =>
  bif decide (s4.1 < (p.length : Int)) then
    sumK (
      gd (decide (0 ≤ s4.1 ∧ s4.1 < (p.length : Int))) <|
      sumK (
        loopN' 16 (C_impl_ProgramValid_L11 p s4) ((0 : Int), s4.2)
      ) fun s9 =>
      bif decide ((7 : Int) < ((p.getD s4.1.toNat default).length : Int)) then
        some (.inr (.inr (.inr false)))
      else
        some (.inl s9)
    ) fun s7 =>
    gd (inK .i64 (s4.1 + (1 : Int))) <|
    some (.inl ((s4.1 + (1 : Int)), s7))
  else
    some (.inr (.inl s4.2))
theorem C_impl_ProgramValid_L5_le (p : List (List Ximpl_Instr)) (s : _) : Le (C_impl_ProgramValid_L5 p s) (F_impl_ProgramValid_L5 p s) := by
  unfold C_impl_ProgramValid_L5 F_impl_ProgramValid_L5
  repeat' (first | with_reducible exact Le.refl _ | with_reducible exact C_impl_ProgramValid_L11_le .. | with_reducible refine Le.gd _ ?_ | with_reducible refine Le.bif _ ?_ ?_ | with_reducible refine Le.bind ?_ (fun _ => ?_) | with_reducible refine Le.sumK ?_ (fun _ => ?_) | with_reducible refine Le.loop (fun _ => ?_) _ | with_reducible refine Le.ifc _ ?_ ?_)
def C_impl_Instr_reads (x : Ximpl_Instr) : Option Bool :=
  Option.bind (bif (x.Op == (1 : Int)) then
    some true
  else
    some (x.Op == (5 : Int))
  ) fun s1 =>
  some s1
theorem C_impl_Instr_reads_le (x : Ximpl_Instr) : Le (C_impl_Instr_reads x) (F_impl_Instr_reads x) := by
  unfold C_impl_Instr_reads F_impl_Instr_reads
  repeat' (first | with_reducible exact Le.refl _ | with_reducible refine Le.gd _ ?_ | with_reducible refine Le.bif _ ?_ ?_ | with_reducible refine Le.bind ?_ (fun _ => ?_) | with_reducible refine Le.sumK ?_ (fun _ => ?_) | with_reducible refine Le.loop (fun _ => ?_) _ | with_reducible refine Le.ifc _ ?_ ?_)
def C_impl_Instr_writes (x : Ximpl_Instr) : Option Bool :=
  Option.bind (bif (x.Op == (2 : Int)) then
    some true
  else
    some (x.Op == (3 : Int))
  ) fun s1 =>
  Option.bind (bif s1 then
    some true
  else
    some (x.Op == (5 : Int))
  ) fun s3 =>
  some s3
theorem C_impl_Instr_writes_le (x : Ximpl_Instr) : Le (C_impl_Instr_writes x) (F_impl_Instr_writes x) := by
  unfold C_impl_Instr_writes F_impl_Instr_writes
  repeat' (first | with_reducible exact Le.refl _ | with_reducible refine Le.gd _ ?_ | with_reducible refine Le.bif _ ?_ ?_ | with_reducible refine Le.bind ?_ (fun _ => ?_) | with_reducible refine Le.sumK ?_ (fun _ => ?_) | with_reducible refine Le.loop (fun _ => ?_) _ | with_reducible refine Le.ifc _ ?_ ?_)
def C_impl_execs_L13 (p : List (List Ximpl_Instr)) (s2 : Int × Int) (s7 : Int × Int × Int) : (Int × Int × Int) → Option ((Int × Int × Int) ⊕ (Int × Int)) := fun s12 =>
  bif decide (s12.1 < ((p.getD s7.1.toNat default).length : Int)) then
    Option.bind (
      gd (decide (0 ≤ s12.1 ∧ s12.1 < ((p.getD s7.1.toNat default).length : Int))) <|
      Option.bind (
        Option.bind (bif ((((p.getD s7.1.toNat default).getD s12.1.toNat default).Loc) == s2.2) then
          Option.bind (C_impl_Instr_reads (⟨((p.getD s7.1.toNat default).getD s12.1.toNat default).Op, ((p.getD s7.1.toNat default).getD s12.1.toNat default).Loc, ((p.getD s7.1.toNat default).getD s12.1.toNat default).Reg, ((p.getD s7.1.toNat default).getD s12.1.toNat default).Val⟩ : Ximpl_Instr)) fun v20 =>
          some v20
        else
          some false
        ) fun s18 =>
        bif s18 then
          gd (inK .i64 (s12.2.2 + (1 : Int))) <|
          some (s12.2.2 + (1 : Int))
        else
          some s12.2.2
      ) fun s17 =>
      Option.bind (bif ((((p.getD s7.1.toNat default).getD s12.1.toNat default).Loc) == s2.2) then
        Option.bind (C_impl_Instr_writes (⟨((p.getD s7.1.toNat default).getD s12.1.toNat default).Op, ((p.getD s7.1.toNat default).getD s12.1.toNat default).Loc, ((p.getD s7.1.toNat default).getD s12.1.toNat default).Reg, ((p.getD s7.1.toNat default).getD s12.1.toNat default).Val⟩ : Ximpl_Instr)) fun v25 =>
        some v25
      else
        some false
      ) fun s23 =>
      bif s23 then
        gd (inK .i64 (s12.2.1 + (1 : Int))) <|
        some ((s12.2.1 + (1 : Int)), s17)
      else
        some (s12.2.1, s17)
    ) fun s15 =>
    gd (inK .i64 (s12.1 + (1 : Int))) <|
    some (.inl ((s12.1 + (1 : Int)), s15.1, s15.2))
  else
    some (.inr (s12.2.1, s12.2.2))
theorem C_impl_execs_L13_le (p : List (List Ximpl_Instr)) (s2 : Int × Int) (s7 : Int × Int × Int) (s : _) : Le (C_impl_execs_L13 p s2 s7 s) (F_impl_execs_L13 p s2 s7 s) := by
  unfold C_impl_execs_L13 F_impl_execs_L13
  repeat' (first | with_reducible exact Le.refl _ | with_reducible exact C_impl_Instr_reads_le .. | with_reducible exact C_impl_Instr_writes_le .. | with_reducible refine Le.gd _ ?_ | with_reducible refine Le.bif _ ?_ ?_ | with_reducible refine Le.bind ?_ (fun _ => ?_) | with_reducible refine Le.sumK ?_ (fun _ => ?_) | with_reducible refine Le.loop (fun _ => ?_) _ | with_reducible refine Le.ifc _ ?_ ?_)
def C_impl_execs_L8 (p : List (List Ximpl_Instr)) (s2 : Int × Int) : (Int × Int × Int) → Option ((Int × Int × Int) ⊕ (Int × Int)) := fun s7 =>
  bif decide (s7.1 < (p.length : Int)) then
    Option.bind (
      gd (decide (0 ≤ s7.1 ∧ s7.1 < (p.length : Int))) <|
      loopN' 16 (C_impl_execs_L13 p s2 s7) ((0 : Int), s7.2.1, s7.2.2)
    ) fun s10 =>
    gd (inK .i64 (s7.1 + (1 : Int))) <|
    some (.inl ((s7.1 + (1 : Int)), s10.1, s10.2))
  else
    some (.inr (s7.2.1, s7.2.2))
theorem C_impl_execs_L8_le (p : List (List Ximpl_Instr)) (s2 : Int × Int) (s : _) : Le (C_impl_execs_L8 p s2 s) (F_impl_execs_L8 p s2 s) := by
  unfold C_impl_execs_L8 F_impl_execs_L8
  repeat' (first | with_reducible exact Le.refl _ | with_reducible exact C_impl_execs_L13_le .. | with_reducible refine Le.gd _ ?_ | with_reducible refine Le.bif _ ?_ ?_ | with_reducible refine Le.bind ?_ (fun _ => ?_) | with_reducible refine Le.sumK ?_ (fun _ => ?_) | with_reducible refine Le.loop (fun _ => ?_) _ | with_reducible refine Le.ifc _ ?_ ?_)
def C_impl_execs_1 (n : Int) (a1 : Int) : Option Int :=
  gd (inK .i64 (a1 * n)) <|
  some (if (3001 : Int) < (a1 * n) then (3001 : Int) else (a1 * n))
theorem C_impl_execs_1_le (n : Int) (a1 : Int) : Le (C_impl_execs_1 n a1) (F_impl_execs_1 n a1) := by
  unfold C_impl_execs_1 F_impl_execs_1
  repeat' (first | with_reducible exact Le.refl _ | with_reducible refine Le.gd _ ?_ | with_reducible refine Le.bif _ ?_ ?_ | with_reducible refine Le.bind ?_ (fun _ => ?_) | with_reducible refine Le.sumK ?_ (fun _ => ?_) | with_reducible refine Le.loop (fun _ => ?_) _ | with_reducible refine Le.ifc _ ?_ ?_)
def C_impl_execs_L32 (s6 : Int × Int) : (Int × Int) → Option ((Int × Int) ⊕ Int) := fun s31 =>
  bif decide (s31.2 < s6.2) then
    gd (inK .i64 (s6.1 + (1 : Int))) <|
    Option.bind (C_impl_execs_1 (s6.1 + (1 : Int)) s31.1) fun v35 =>
    gd (inK .i64 (s31.2 + (1 : Int))) <|
    some (.inl (v35, (s31.2 + (1 : Int))))
  else
    some (.inr s31.1)
theorem C_impl_execs_L32_le (s6 : Int × Int) (s : _) : Le (C_impl_execs_L32 s6 s) (F_impl_execs_L32 s6 s) := by
  unfold C_impl_execs_L32 F_impl_execs_L32
  repeat' (first | with_reducible exact Le.refl _ | with_reducible exact C_impl_execs_1_le .. | with_reducible refine Le.gd _ ?_ | with_reducible refine Le.bif _ ?_ ?_ | with_reducible refine Le.bind ?_ (fun _ => ?_) | with_reducible refine Le.sumK ?_ (fun _ => ?_) | with_reducible refine Le.loop (fun _ => ?_) _ | with_reducible refine Le.ifc _ ?_ ?_)
def C_impl_execs_L38 (s6 : Int × Int) : (Int × Int) → Option ((Int × Int) ⊕ Int) := fun s37 =>
  bif decide (s37.2 < s6.1) then
    gd (inK .i64 (s37.2 + (1 : Int))) <|
    Option.bind (C_impl_execs_1 (s37.2 + (1 : Int)) s37.1) fun v41 =>
    some (.inl (v41, (s37.2 + (1 : Int))))
  else
    some (.inr s37.1)
theorem C_impl_execs_L38_le (s6 : Int × Int) (s : _) : Le (C_impl_execs_L38 s6 s) (F_impl_execs_L38 s6 s) := by
  unfold C_impl_execs_L38 F_impl_execs_L38
  repeat' (first | with_reducible exact Le.refl _ | with_reducible exact C_impl_execs_1_le .. | with_reducible refine Le.gd _ ?_ | with_reducible refine Le.bif _ ?_ ?_ | with_reducible refine Le.bind ?_ (fun _ => ?_) | with_reducible refine Le.sumK ?_ (fun _ => ?_) | with_reducible refine Le.loop (fun _ => ?_) _ | with_reducible refine Le.ifc _ ?_ ?_)
def C_impl_execs_L3 (p : List (List Ximpl_Instr)) : (Int × Int) → Option ((Int × Int) ⊕ Int) := fun s2 =>
  bif decide (s2.2 < (3 : Int)) then
    Option.bind (
      Option.bind (
        loopN' 16 (C_impl_execs_L8 p s2) ((0 : Int), (0 : Int), (0 : Int))
      ) fun s6 =>
      Option.bind (
        loopN' 16 (C_impl_execs_L32 s6) (s2.1, (0 : Int))
      ) fun s30 =>
      loopN' 16 (C_impl_execs_L38 s6) (s30, (0 : Int))
    ) fun s5 =>
    gd (inK .i64 (s2.2 + (1 : Int))) <|
    some (.inl (s5, (s2.2 + (1 : Int))))
  else
    some (.inr s2.1)
theorem C_impl_execs_L3_le (p : List (List Ximpl_Instr)) (s : _) : Le (C_impl_execs_L3 p s) (F_impl_execs_L3 p s) := by
  unfold C_impl_execs_L3 F_impl_execs_L3
  repeat' (first | with_reducible exact Le.refl _ | with_reducible exact C_impl_execs_L8_le .. | with_reducible exact C_impl_execs_L32_le .. | with_reducible exact C_impl_execs_L38_le .. | with_reducible refine Le.gd _ ?_ | with_reducible refine Le.bif _ ?_ ?_ | with_reducible refine Le.bind ?_ (fun _ => ?_) | with_reducible refine Le.sumK ?_ (fun _ => ?_) | with_reducible refine Le.loop (fun _ => ?_) _ | with_reducible refine Le.ifc _ ?_ ?_)
def C_impl_execs (p : List (List Ximpl_Instr)) : Option Int :=
  Option.bind (
    loopN' 16 (C_impl_execs_L3 p) ((1 : Int), (0 : Int))
  ) fun s1 =>
  some s1
theorem C_impl_execs_le (p : List (List Ximpl_Instr)) : Le (C_impl_execs p) (F_impl_execs p) := by
  unfold C_impl_execs F_impl_execs
  repeat' (first | with_reducible exact Le.refl _ | with_reducible exact C_impl_execs_L3_le .. | with_reducible refine Le.gd _ ?_ | with_reducible refine Le.bif _ ?_ ?_ | with_reducible refine Le.bind ?_ (fun _ => ?_) | with_reducible refine Le.sumK ?_ (fun _ => ?_) | with_reducible refine Le.loop (fun _ => ?_) _ | with_reducible refine Le.ifc _ ?_ ?_)
def C_impl_ProgramValid (p : List (List Ximpl_Instr)) : Option Bool :=
  Option.bind (C_impl_within (p.length : Int) (1 : Int) (3 : Int)) fun v1 =>
  bif !v1 then
    some false
  else
    sumK (
      loopN' 16 (C_impl_ProgramValid_L5 p) ((0 : Int), (0 : Int))
    ) fun s3 =>
    Option.bind (bif decide (s3 ≤ (12 : Int)) then
      Option.bind (C_impl_execs p) fun v24 =>
      some (decide (v24 ≤ (3000 : Int)))
    else
      some false
    ) fun s22 =>
    some s22
theorem C_impl_ProgramValid_le (p : List (List Ximpl_Instr)) : Le (C_impl_ProgramValid p) (F_impl_ProgramValid p) := by
  unfold C_impl_ProgramValid F_impl_ProgramValid
  repeat' (first | with_reducible exact Le.refl _ | with_reducible exact C_impl_within_le .. | with_reducible exact C_impl_ProgramValid_L5_le .. | with_reducible exact C_impl_execs_le .. | with_reducible refine Le.gd _ ?_ | with_reducible refine Le.bif _ ?_ ?_ | with_reducible refine Le.bind ?_ (fun _ => ?_) | with_reducible refine Le.sumK ?_ (fun _ => ?_) | with_reducible refine Le.loop (fun _ => ?_) _ | with_reducible refine Le.ifc _ ?_ ?_)
noncomputable def F_laws_FnSmallTest_T (v2 : Int) : Option Bool :=
  Option.bind (F_impl_SmallTest v2) fun v3 =>
  Option.bind (F_spec_SmallTest v2) fun v4 =>
  Option.bind (bif (!(v3.2 == v4.2)) then
    some true
  else
    Option.bind (F_impl_ProgramSame v3.1 v4.1) fun v7 =>
    some (!v7)
  ) fun s5 =>
  Option.bind (bif s5 then
    some true
  else
    Option.bind (bif decide ((0 : Int) ≤ v2) then
      Option.bind (F_impl_SmallTests ) fun v12 =>
      some (decide (v2 < v12))
    else
      some false
    ) fun s10 =>
    some (!(v3.2 == s10))
  ) fun s8 =>
  Option.bind (bif s8 then
    some true
  else
    some (!v3.2)
  ) fun s13 =>
  bif s13 then
    Option.bind (bif (v3.2 == v4.2) then
      Option.bind (F_impl_ProgramSame v3.1 v4.1) fun v18 =>
      some v18
    else
      some false
    ) fun s16 =>
    Option.bind (bif s16 then
      Option.bind (bif decide ((0 : Int) ≤ v2) then
        Option.bind (F_impl_SmallTests ) fun v23 =>
        some (decide (v2 < v23))
      else
        some false
      ) fun s21 =>
      some (v3.2 == s21)
    else
      some false
    ) fun s19 =>
    some s19
  else
    Option.bind (F_impl_NumberOfTest v3.1) fun v24 =>
    Option.bind (bif v24.2 then
      some (v24.1 == v2)
    else
      some false
    ) fun s25 =>
    Option.bind (bif s25 then
      Option.bind (F_impl_ProgramValid v3.1) fun v29 =>
      Option.bind (F_impl_SmallTests ) fun v30 =>
      gd (inK .i64 (v30 - (1 : Int))) <|
      some (v29 == (decide (v2 < (v30 - (1 : Int)))))
    else
      some false
    ) fun s27 =>
    some s27
def C_laws_FnSmallTest_T (v2 : Int) : Option Bool :=
  Option.bind (C_impl_SmallTest v2) fun v3 =>
  Option.bind (C_spec_SmallTest v2) fun v4 =>
  Option.bind (bif (!(v3.2 == v4.2)) then
    some true
  else
    Option.bind (C_impl_ProgramSame v3.1 v4.1) fun v7 =>
    some (!v7)
  ) fun s5 =>
  Option.bind (bif s5 then
    some true
  else
    Option.bind (bif decide ((0 : Int) ≤ v2) then
      Option.bind (C_impl_SmallTests ) fun v12 =>
      some (decide (v2 < v12))
    else
      some false
    ) fun s10 =>
    some (!(v3.2 == s10))
  ) fun s8 =>
  Option.bind (bif s8 then
    some true
  else
    some (!v3.2)
  ) fun s13 =>
  bif s13 then
    Option.bind (bif (v3.2 == v4.2) then
      Option.bind (C_impl_ProgramSame v3.1 v4.1) fun v18 =>
      some v18
    else
      some false
    ) fun s16 =>
    Option.bind (bif s16 then
      Option.bind (bif decide ((0 : Int) ≤ v2) then
        Option.bind (C_impl_SmallTests ) fun v23 =>
        some (decide (v2 < v23))
      else
        some false
      ) fun s21 =>
      some (v3.2 == s21)
    else
      some false
    ) fun s19 =>
    some s19
  else
    Option.bind (F_impl_NumberOfTest v3.1) fun v24 =>
    Option.bind (bif v24.2 then
      some (v24.1 == v2)
    else
      some false
    ) fun s25 =>
    Option.bind (bif s25 then
      Option.bind (C_impl_ProgramValid v3.1) fun v29 =>
      Option.bind (C_impl_SmallTests ) fun v30 =>
      gd (inK .i64 (v30 - (1 : Int))) <|
      some (v29 == (decide (v2 < (v30 - (1 : Int)))))
    else
      some false
    ) fun s27 =>
    some s27
theorem C_laws_FnSmallTest_T_le (v2 : Int) : Le (C_laws_FnSmallTest_T v2) (F_laws_FnSmallTest_T v2) := by
  unfold C_laws_FnSmallTest_T F_laws_FnSmallTest_T
  repeat' (first | with_reducible exact Le.refl _ | with_reducible exact C_impl_SmallTest_le .. | with_reducible exact C_spec_SmallTest_le .. | with_reducible exact C_impl_ProgramSame_le .. | with_reducible exact C_impl_SmallTests_le .. | with_reducible exact C_impl_ProgramValid_le .. | with_reducible refine Le.gd _ ?_ | with_reducible refine Le.bif _ ?_ ?_ | with_reducible refine Le.bind ?_ (fun _ => ?_) | with_reducible refine Le.sumK ?_ (fun _ => ?_) | with_reducible refine Le.loop (fun _ => ?_) _ | with_reducible refine Le.ifc _ ?_ ?_)
end Go.Proofs.Ytjjkgemgomfmdaa
