/-
 Functions over plain values, as the program's code computes; printed by lift.py. No conditions.
-/
import Derived.Test.YtlgfihlflchhgaaSt
namespace Go.Proofs.Ytlgfihlflchhgaa
open Go.RowKit
set_option maxRecDepth 100000
noncomputable def F_slices_Equal_impl_Instr_impl_Instr_L6 (s1_:List ZIn) (s2_:List ZIn):Int->Option (Int ⊕ (Unit ⊕ Bool)):=fun s5=>
 bif decide (s5<(s1_.length:Int)) then
  gd (decide (0<=s5/\s5<(s1_.length:Int))) <|
  gd (decide (0<=s5/\s5<(s2_.length:Int))) <|
  bif (!(((s1_.getD s5.toNat default).Op)==((s2_.getD s5.toNat default).Op)&&(((s1_.getD s5.toNat default).Loc)==((s2_.getD s5.toNat default).Loc)&&(((s1_.getD s5.toNat default).Reg)==((s2_.getD s5.toNat default).Reg)&&(((s1_.getD s5.toNat default).Val)==((s2_.getD s5.toNat default).Val)&&true))))) then
   some (.inr (.inr false))
  else
   gd (inK .i64 (s5+(1:Int))) <|
   some (.inl (s5+(1:Int)))
 else
  some (.inr (.inl ()))
noncomputable def F_slices_Equal_impl_Instr_impl_Instr (s1_:List ZIn) (s2_:List ZIn):Option Bool:=
 bif ((s1_.length:Int) != (s2_.length:Int)) then
  some false
 else
  sumK (
   loopO (F_slices_Equal_impl_Instr_impl_Instr_L6 s1_ s2_) (0:Int)
  ) fun s2=>
  some true
noncomputable def F_impl_ProgramSame_1 (x:List ZIn) (y:List ZIn):Option Bool:=
 Option.bind (F_slices_Equal_impl_Instr_impl_Instr x y) fun v1=>
 some v1
noncomputable def F_slices_EqualFunc_impl_Instr_impl_Instr_impl_Instr_impl_Instr__impl_ProgramSame_1_L6 (s1_:List (List ZIn)) (s2_:List (List ZIn)):Int->Option (Int ⊕ (Unit ⊕ Bool)):=fun s5=>
 bif decide (s5<(s1_.length:Int)) then
  gd (decide (0<=s5/\s5<(s1_.length:Int))) <|
  gd (decide (0<=s5/\s5<(s2_.length:Int))) <|
  Option.bind (F_impl_ProgramSame_1 (s1_.getD s5.toNat default) (s2_.getD s5.toNat default)) fun v10=>
  bif !v10 then
   some (.inr (.inr false))
  else
   gd (inK .i64 (s5+(1:Int))) <|
   some (.inl (s5+(1:Int)))
 else
  some (.inr (.inl ()))
noncomputable def F_slices_EqualFunc_impl_Instr_impl_Instr_impl_Instr_impl_Instr__impl_ProgramSame_1 (s1_:List (List ZIn)) (s2_:List (List ZIn)):Option Bool:=
 bif ((s1_.length:Int) != (s2_.length:Int)) then
  some false
 else
  sumK (
   loopO (F_slices_EqualFunc_impl_Instr_impl_Instr_impl_Instr_impl_Instr__impl_ProgramSame_1_L6 s1_ s2_) (0:Int)
  ) fun s2=>
  some true
noncomputable def F_impl_ProgramSame (a:List (List ZIn)) (b:List (List ZIn)):Option Bool:=
 Option.bind (F_slices_EqualFunc_impl_Instr_impl_Instr_impl_Instr_impl_Instr__impl_ProgramSame_1 a b) fun v1=>
 some v1
end Go.Proofs.Ytlgfihlflchhgaa
