/-
 Functions over plain values, as the program's code computes; printed by lift.py. No conditions.
-/
import Derived.Test.YtlmjnhnpahicmaaSt
import Derived.Test.YtlmjnhnpahicmaaBrVd
namespace Go.Proofs.Ytlmjnhnpahicmaa
open Go.RowKit
set_option maxRecDepth 100000
noncomputable def F_slices_Index_int_int_L5 (s:List Int) (v:Int):Int->Option (Int ⊕ (Unit ⊕ Int)):=fun s4=>
 bif decide (s4<(s.length:Int)) then
  gd (decide (0<=s4/\s4<(s.length:Int))) <|
  bif (v==(s.getD s4.toNat default)) then
   some (.inr (.inr s4))
  else
   gd (inK .i64 (s4+(1:Int))) <|
   some (.inl (s4+(1:Int)))
 else
  some (.inr (.inl ()))
noncomputable def F_slices_Index_int_int (s:List Int) (v:Int):Option Int:=
 sumK (
  loopO (F_slices_Index_int_int_L5 s v) (0:Int)
 ) fun s1=>
 some (-1:Int)
noncomputable def F_slices_Contains_int_int (s:List Int) (v:Int):Option Bool:=
 Option.bind (F_slices_Index_int_int s v) fun v1=>
 some (decide ((0:Int)<=v1))
noncomputable def F_impl_Instr_reads (x:ZIn):Option Bool:=
 Option.bind (bif (x.Op==(1:Int)) then
  some true
 else
  some (x.Op==(5:Int))
 ) fun s1=>
 some s1
noncomputable def F_impl_Instr_writes (x:ZIn):Option Bool:=
 Option.bind (bif (x.Op==(2:Int)) then
  some true
 else
  some (x.Op==(3:Int))
 ) fun s1=>
 Option.bind (bif s1 then
  some true
 else
  some (x.Op==(5:Int))
 ) fun s3=>
 some s3
end Go.Proofs.Ytlmjnhnpahicmaa
