/-
  Functions over plain values, as the program's code computes; printed by lift.py. No conditions.
-/
import Derived.Test.YtjogdblionfmiaaDoorSt
import Derived.Test.YtjogdblionfmiaaDoorSEd
namespace Go.Proofs.YtjogdblionfmiaaDoor
open Go.RowKit
set_option maxRecDepth 100000
noncomputable def F_laws_szInstrS (a : List Xlaws_Instr) (left : Int) : Option Int :=
  gd (inK .i64 (left - (a.length : Int))) <|
  bif decide ((left - (a.length : Int)) < (0 : Int)) then
    some (-1 : Int)
  else
    some (left - (a.length : Int))

noncomputable def F_laws_szInstrSS_L5 (a : List (List Xlaws_Instr)) : (Int × Int) → Option ((Int × Int) ⊕ (Int ⊕ Int)) := fun s4 =>
  bif decide (s4.1 < (a.length : Int)) then
    gd (decide (0 ≤ s4.1 ∧ s4.1 < (a.length : Int))) <|
    Option.bind (F_laws_szInstrS (a.getD s4.1.toNat default) s4.2) fun v8 =>
    bif decide (v8 < (0 : Int)) then
      some (.inr (.inr (-1 : Int)))
    else
      gd (inK .i64 (s4.1 + (1 : Int))) <|
      some (.inl ((s4.1 + (1 : Int)), v8))
  else
    some (.inr (.inl s4.2))

noncomputable def F_laws_szInstrSS (a : List (List Xlaws_Instr)) (left : Int) : Option Int :=
  gd (inK .i64 (left - (a.length : Int))) <|
  bif decide ((left - (a.length : Int)) < (0 : Int)) then
    some (-1 : Int)
  else
    sumK (
      loopO (F_laws_szInstrSS_L5 a) ((0 : Int), (left - (a.length : Int)))
    ) fun s3 =>
    some s3

noncomputable def F_laws_toInstr (a : Xlaws_Instr) : Option Ximpl_Instr :=
  some (⟨a.Op, a.Loc, a.Reg, a.Val⟩ : Ximpl_Instr)

noncomputable def F_laws_toInstrS_L5 (a : List Xlaws_Instr) : ((List Ximpl_Instr) × Int) → Option (((List Ximpl_Instr) × Int) ⊕ (List Ximpl_Instr)) := fun s4 =>
  bif decide (s4.2 < (a.length : Int)) then
    gd (decide (0 ≤ s4.2 ∧ s4.2 < (a.length : Int))) <|
    Option.bind (F_laws_toInstr (a.getD s4.2.toNat default)) fun v9 =>
    gd (decide (0 ≤ s4.2 ∧ s4.2 < (s4.1.length : Int))) <|
    gd (inK .i64 (s4.2 + (1 : Int))) <|
    some (.inl ((s4.1.set s4.2.toNat v9), (s4.2 + (1 : Int))))
  else
    some (.inr s4.1)

noncomputable def F_laws_toInstrS (a : List Xlaws_Instr) : Option (List Ximpl_Instr) :=
  gd (decide (0 ≤ (a.length : Int) ∧ (a.length : Int) ≤ (a.length : Int) ∧ (a.length : Int) * ((32 : Nat) : Int) ≤ 140737488355328 ∧ (a.length : Int) ≤ 140737488355328)) <|
  Option.bind (
    loopO (F_laws_toInstrS_L5 a) ((List.replicate (a.length : Int).toNat (default : Ximpl_Instr)), (0 : Int))
  ) fun s2 =>
  some s2

noncomputable def F_laws_toInstrSS_L5 (a : List (List Xlaws_Instr)) : ((List (List Ximpl_Instr)) × Int) → Option (((List (List Ximpl_Instr)) × Int) ⊕ (List (List Ximpl_Instr))) := fun s4 =>
  bif decide (s4.2 < (a.length : Int)) then
    gd (decide (0 ≤ s4.2 ∧ s4.2 < (a.length : Int))) <|
    Option.bind (F_laws_toInstrS (a.getD s4.2.toNat default)) fun v9 =>
    gd (decide (0 ≤ s4.2 ∧ s4.2 < (s4.1.length : Int))) <|
    gd (inK .i64 (s4.2 + (1 : Int))) <|
    some (.inl ((s4.1.set s4.2.toNat v9), (s4.2 + (1 : Int))))
  else
    some (.inr s4.1)

noncomputable def F_laws_toInstrSS (a : List (List Xlaws_Instr)) : Option (List (List Ximpl_Instr)) :=
  gd (decide (0 ≤ (a.length : Int) ∧ (a.length : Int) ≤ (a.length : Int) ∧ (a.length : Int) * ((24 : Nat) : Int) ≤ 140737488355328 ∧ (a.length : Int) ≤ 140737488355328)) <|
  Option.bind (
    loopO (F_laws_toInstrSS_L5 a) ((List.replicate (a.length : Int).toNat ([] : List Ximpl_Instr)), (0 : Int))
  ) fun s2 =>
  some s2

noncomputable def F_laws_eqInstr (a : Ximpl_Instr) (b : Ximpl_Instr) : Option Bool :=
  bif (a.Op != b.Op) then
    some false
  else
    bif (a.Loc != b.Loc) then
      some false
    else
      bif (a.Reg != b.Reg) then
        some false
      else
        bif (a.Val != b.Val) then
          some false
        else
          some true

noncomputable def F_laws_eqInstrS_L4 (a : List Ximpl_Instr) (b : List Ximpl_Instr) : Int → Option (Int ⊕ (Unit ⊕ Bool)) := fun s3 =>
  bif decide (s3 < (a.length : Int)) then
    gd (decide (0 ≤ s3 ∧ s3 < (a.length : Int))) <|
    gd (decide (0 ≤ s3 ∧ s3 < (b.length : Int))) <|
    Option.bind (F_laws_eqInstr (a.getD s3.toNat default) (b.getD s3.toNat default)) fun v8 =>
    bif !v8 then
      some (.inr (.inr false))
    else
      gd (inK .i64 (s3 + (1 : Int))) <|
      some (.inl (s3 + (1 : Int)))
  else
    some (.inr (.inl ()))

noncomputable def F_laws_eqInstrS (a : List Ximpl_Instr) (b : List Ximpl_Instr) : Option Bool :=
  bif ((a.length : Int) != (b.length : Int)) then
    some false
  else
    sumK (
      loopO (F_laws_eqInstrS_L4 a b) (0 : Int)
    ) fun s2 =>
    some true

noncomputable def F_laws_eqInstrSS_L4 (a : List (List Ximpl_Instr)) (b : List (List Ximpl_Instr)) : Int → Option (Int ⊕ (Unit ⊕ Bool)) := fun s3 =>
  bif decide (s3 < (a.length : Int)) then
    gd (decide (0 ≤ s3 ∧ s3 < (a.length : Int))) <|
    gd (decide (0 ≤ s3 ∧ s3 < (b.length : Int))) <|
    Option.bind (F_laws_eqInstrS (a.getD s3.toNat default) (b.getD s3.toNat default)) fun v8 =>
    bif !v8 then
      some (.inr (.inr false))
    else
      gd (inK .i64 (s3 + (1 : Int))) <|
      some (.inl (s3 + (1 : Int)))
  else
    some (.inr (.inl ()))

noncomputable def F_laws_eqInstrSS (a : List (List Ximpl_Instr)) (b : List (List Ximpl_Instr)) : Option Bool :=
  bif ((a.length : Int) != (b.length : Int)) then
    some false
  else
    sumK (
      loopO (F_laws_eqInstrSS_L4 a b) (0 : Int)
    ) fun s2 =>
    some true

noncomputable def F_laws_FnExactEventText (aP : List (List Xlaws_Instr)) (aI : Int) : Option Bool :=
  Option.bind (F_laws_szInstrSS aP (1048576 : Int)) fun v1 =>
  bif decide (v1 < (0 : Int)) then
    some true
  else
    Option.bind (F_laws_toInstrSS aP) fun v3 =>
    Option.bind (F_spec_EventText v3 aI) fun v4 =>
    Option.bind (F_laws_toInstrSS aP) fun v5 =>
    Option.bind (F_impl_EventText v5 aI) fun v6 =>
    bif (!decide (v6 = v4)) then
      some false
    else
      Option.bind (F_laws_toInstrSS aP) fun v8 =>
      Option.bind (F_laws_eqInstrSS v5 v8) fun v9 =>
      bif !v9 then
        some false
      else
        some true
end Go.Proofs.YtjogdblionfmiaaDoor
