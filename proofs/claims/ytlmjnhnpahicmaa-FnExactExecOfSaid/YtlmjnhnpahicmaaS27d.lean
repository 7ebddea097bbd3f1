/-
 Functions over plain values, as the program's code computes; printed by lift.py. No conditions.
-/
import Derived.Test.YtlmjnhnpahicmaaSt
import Derived.Test.YtlmjnhnpahicmaaS26d
namespace Go.Proofs.Ytlmjnhnpahicmaa
open Go.RowKit
set_option maxRecDepth 100000
noncomputable def F_slices_Repeat_int_int_O_L17  : ((List Int) × Int) → Option (((List Int) × Int) ⊕ (List Int)) := fun s16 =>
 bif decide (s16.2 < (s16.1.length : Int)) then
  gd (decide (0 ≤ s16.2 ∧ s16.2 ≤ (s16.1.length : Int) ∧ (s16.1.length : Int) ≤ (s16.1.length : Int))) <|
  gd (decide (0 ≤ (0 : Int) ∧ (0 : Int) ≤ s16.2 ∧ s16.2 ≤ (s16.1.length : Int))) <|
  gd (inK .i64 (s16.2 + ((min ((s16.1.drop (0 + (0 : Int).toNat)).take (s16.2.toNat - (0 : Int).toNat)).length ((s16.1.length : Int).toNat - s16.2.toNat) : Nat) : Int))) <|
  some (.inl ((cpy s16.1 (0 + s16.2.toNat) ((s16.1.drop (0 + (0 : Int).toNat)).take (s16.2.toNat - (0 : Int).toNat)) ((s16.1.length : Int).toNat - s16.2.toNat)), (s16.2 + ((min ((s16.1.drop (0 + (0 : Int).toNat)).take (s16.2.toNat - (0 : Int).toNat)).length ((s16.1.length : Int).toNat - s16.2.toNat) : Nat) : Int))))
 else
  some (.inr s16.1)
noncomputable def F_slices_Repeat_int_int_O (x : List Int) (count : Int) : Option (List Int) :=
 Option.bind (
  bif decide (count < (0 : Int)) then
   none
  else
   some ()
 ) fun s1 =>
 gd (inK .u64 (x.length : Int)) <|
 gd (inK .u64 count) <|
 Option.bind (F_math_bits_Mul (x.length : Int) count) fun v5 =>
 Option.bind (
  Option.bind (bif decide ((0 : Int) < v5.1) then
   some true
  else
   some (decide ((9223372036854775807 : Int) < v5.2))
  ) fun s7 =>
  bif s7 then
   none
  else
   some ()
 ) fun s6 =>
 gd (inK .i64 v5.2) <|
 gd (decide (0 ≤ v5.2 ∧ v5.2 ≤ v5.2 ∧ v5.2 * ((8 : Nat) : Int) ≤ 140737488355328 ∧ v5.2 ≤ 140737488355328)) <|
 Option.bind (
  loopO F_slices_Repeat_int_int_O_L17 ((cpy (List.replicate v5.2.toNat (default : Int)) 0 x ((List.replicate v5.2.toNat (default : Int)).length)), ((min x.length ((List.replicate v5.2.toNat (default : Int)).length) : Nat) : Int))
 ) fun s12 =>
 some s12
noncomputable def F_laws_eqIntSS_L6 (a : List (List Int)) (b : List (List Int)) : Int → Option (Int ⊕ (Unit ⊕ Bool)) := fun s5 =>
 bif decide (s5 < (a.length : Int)) then
  gd (decide (0 ≤ s5 ∧ s5 < (a.length : Int))) <|
  gd (decide (0 ≤ s5 ∧ s5 < (b.length : Int))) <|
  Option.bind (F_laws_eqIntS (a.getD s5.toNat default) (b.getD s5.toNat default)) fun v10 =>
  bif !v10 then
   some (.inr (.inr false))
  else
   gd (inK .i64 (s5 + (1 : Int))) <|
   some (.inl (s5 + (1 : Int)))
 else
  some (.inr (.inl ()))
noncomputable def F_laws_eqIntSS (a : List (List Int)) (b : List (List Int)) : Option Bool :=
 bif ((a.length : Int) != (b.length : Int)) then
  some false
 else
  sumK (
   loopO (F_laws_eqIntSS_L6 a b) (0 : Int)
  ) fun s2 =>
  some true
noncomputable def F_laws_eqExec (a : Ximpl_Exec) (b : Ximpl_Exec) : Option Bool :=
 Option.bind (F_laws_eqIntS a.From b.From) fun v1 =>
 bif !v1 then
  some false
 else
  Option.bind (F_laws_eqIntSS a.Order b.Order) fun v3 =>
  bif !v3 then
   some false
  else
   some true
noncomputable def F_laws_heldIntS_L5 (a : List Int) : (Int × Int) → Option ((Int × Int) ⊕ (Int ⊕ Int)) := fun s4 =>
 bif decide (s4.1 < (a.length : Int)) then
  gd (decide (0 ≤ s4.1 ∧ s4.1 < (a.length : Int))) <|
  bif ((a.getD s4.1.toNat default) != s4.2) then
   some (.inr (.inr (-1 : Int)))
  else
   gd (inK .i64 (s4.2 + (1 : Int))) <|
   gd (inK .i64 (s4.1 + (1 : Int))) <|
   some (.inl ((s4.1 + (1 : Int)), (s4.2 + (1 : Int))))
 else
  some (.inr (.inl s4.2))
noncomputable def F_laws_heldIntS (a : List Int) (k_ : Int) : Option Int :=
 sumK (
  loopO (F_laws_heldIntS_L5 a) ((0 : Int), k_)
 ) fun s1 =>
 some s1
noncomputable def F_laws_heldIntSS_L5 (a : List (List Int)) : (Int × Int) → Option ((Int × Int) ⊕ (Int ⊕ Int)) := fun s4 =>
 bif decide (s4.1 < (a.length : Int)) then
  gd (decide (0 ≤ s4.1 ∧ s4.1 < (a.length : Int))) <|
  Option.bind (F_laws_heldIntS (a.getD s4.1.toNat default) s4.2) fun v8 =>
  bif decide (v8 < (0 : Int)) then
   some (.inr (.inr (-1 : Int)))
  else
   gd (inK .i64 (s4.1 + (1 : Int))) <|
   some (.inl ((s4.1 + (1 : Int)), v8))
 else
  some (.inr (.inl s4.2))
noncomputable def F_laws_heldIntSS (a : List (List Int)) (k_ : Int) : Option Int :=
 sumK (
  loopO (F_laws_heldIntSS_L5 a) ((0 : Int), k_)
 ) fun s1 =>
 some s1
noncomputable def F_laws_heldExec (a : Ximpl_Exec) (k_ : Int) : Option Int :=
 Option.bind (F_laws_heldIntS a.From k_) fun v1 =>
 bif decide (v1 < (0 : Int)) then
  some (-1 : Int)
 else
  Option.bind (F_laws_heldIntSS a.Order v1) fun v3 =>
  bif decide (v3 < (0 : Int)) then
   some (-1 : Int)
  else
   some v3
end Go.Proofs.Ytlmjnhnpahicmaa
