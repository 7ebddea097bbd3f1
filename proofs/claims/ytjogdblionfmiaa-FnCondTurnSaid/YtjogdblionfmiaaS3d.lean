/-
  Functions over plain values, as the program's code computes; printed by lift.py. No conditions.
-/
import Derived.Test.YtjogdblionfmiaaSt
import Derived.Test.YtjogdblionfmiaaSRd
namespace Go.Proofs.Ytjogdblionfmiaa
open Go.RowKit
set_option maxRecDepth 100000
noncomputable def F_spec_l3Start (p : List (List Ximpl_Instr)) (buffers : Int) : Option Xspec_l3State :=
  gd (decide (0 ≤ (p.length : Int) ∧ (p.length : Int) ≤ (p.length : Int) ∧ (p.length : Int) * ((8 : Nat) : Int) ≤ 140737488355328 ∧ (p.length : Int) ≤ 140737488355328)) <|
  gd (inK .i64 ((p.length : Int) * (3 : Int))) <|
  gd (decide (0 ≤ ((p.length : Int) * (3 : Int)) ∧ ((p.length : Int) * (3 : Int)) ≤ ((p.length : Int) * (3 : Int)) ∧ ((p.length : Int) * (3 : Int)) * ((8 : Nat) : Int) ≤ 140737488355328 ∧ ((p.length : Int) * (3 : Int)) ≤ 140737488355328)) <|
  gd (decide (0 ≤ (3 : Int) ∧ (3 : Int) ≤ (3 : Int) ∧ (3 : Int) * ((8 : Nat) : Int) ≤ 140737488355328 ∧ (3 : Int) ≤ 140737488355328)) <|
  gd (decide (0 ≤ buffers ∧ buffers ≤ buffers ∧ buffers * ((24 : Nat) : Int) ≤ 140737488355328 ∧ buffers ≤ 140737488355328)) <|
  some (⟨(List.replicate (p.length : Int).toNat (default : Int)), (List.replicate ((p.length : Int) * (3 : Int)).toNat (default : Int)), (List.replicate (3 : Int).toNat (default : Int)), (List.replicate buffers.toNat ([] : List Int))⟩ : Xspec_l3State)

noncomputable def F_spec_l3Hash_L3 (s : ByteArray) : (Int × Int) → Option ((Int × Int) ⊕ Int) := fun s2 =>
  bif decide (s2.1 < (s.size : Int)) then
    gd (inK .i64 (s2.2 * (31 : Int))) <|
    gd (decide (0 ≤ s2.1 ∧ s2.1 < (s.size : Int))) <|
    gd (inK .i64 ((s.data.getD s2.1.toNat 0).toNat : Int)) <|
    gd (inK .i64 ((s2.2 * (31 : Int)) + ((s.data.getD s2.1.toNat 0).toNat : Int))) <|
    gd (decide ((4096 : Int) ≠ 0)) <|
    gd (inK .i64 (s2.1 + (1 : Int))) <|
    some (.inl ((s2.1 + (1 : Int)), (((s2.2 * (31 : Int)) + ((s.data.getD s2.1.toNat 0).toNat : Int)).tmod (4096 : Int))))
  else
    some (.inr s2.2)

noncomputable def F_spec_l3Hash (s : ByteArray) : Option Int :=
  Option.bind (
    loopO (F_spec_l3Hash_L3 s) ((0 : Int), (0 : Int))
  ) fun s1 =>
  some s1

noncomputable def F_spec_l3Done_L3 (p : List (List Ximpl_Instr)) (s : Xspec_l3State) : Int → Option (Int ⊕ (Unit ⊕ Bool)) := fun s2 =>
  bif decide (s2 < (p.length : Int)) then
    gd (decide (0 ≤ s2 ∧ s2 < (s.at_.length : Int))) <|
    gd (decide (0 ≤ s2 ∧ s2 < (p.length : Int))) <|
    bif decide ((s.at_.getD s2.toNat default) < ((p.getD s2.toNat default).length : Int)) then
      some (.inr (.inr false))
    else
      gd (inK .i64 (s2 + (1 : Int))) <|
      some (.inl (s2 + (1 : Int)))
  else
    some (.inr (.inl ()))

noncomputable def F_spec_l3Done (p : List (List Ximpl_Instr)) (s : Xspec_l3State) : Option Bool :=
  sumK (
    loopO (F_spec_l3Done_L3 p s) (0 : Int)
  ) fun s1 =>
  some true

noncomputable def F_spec_l3Key_L4 (s : Xspec_l3State) : ((List Int) × Int) → Option (((List Int) × Int) ⊕ (List Int)) := fun s3 =>
  bif decide (s3.2 < (s.at_.length : Int)) then
    gd (decide (0 ≤ s3.2 ∧ s3.2 < (s.at_.length : Int))) <|
    gd (inK .u8 (s.at_.getD s3.2.toNat default)) <|
    gd (capOK (s3.1.length + 1) 1) <|
    gd (inK .i64 (s3.2 + (1 : Int))) <|
    some (.inl ((s3.1 ++ [(s.at_.getD s3.2.toNat default)]), (s3.2 + (1 : Int))))
  else
    some (.inr s3.1)

noncomputable def F_spec_l3Key_L15 (s : Xspec_l3State) : ((List Int) × Int) → Option (((List Int) × Int) ⊕ (List Int)) := fun s14 =>
  bif decide (s14.2 < (s.regs.length : Int)) then
    gd (decide (0 ≤ s14.2 ∧ s14.2 < (s.regs.length : Int))) <|
    gd (inK .u8 (s.regs.getD s14.2.toNat default)) <|
    gd (capOK (s14.1.length + 1) 1) <|
    gd (inK .i64 (s14.2 + (1 : Int))) <|
    some (.inl ((s14.1 ++ [(s.regs.getD s14.2.toNat default)]), (s14.2 + (1 : Int))))
  else
    some (.inr s14.1)

noncomputable def F_spec_l3Key_L26 (s : Xspec_l3State) : ((List Int) × Int) → Option (((List Int) × Int) ⊕ (List Int)) := fun s25 =>
  bif decide (s25.2 < (s.mem.length : Int)) then
    gd (decide (0 ≤ s25.2 ∧ s25.2 < (s.mem.length : Int))) <|
    gd (inK .u8 (s.mem.getD s25.2.toNat default)) <|
    gd (capOK (s25.1.length + 1) 1) <|
    gd (inK .i64 (s25.2 + (1 : Int))) <|
    some (.inl ((s25.1 ++ [(s.mem.getD s25.2.toNat default)]), (s25.2 + (1 : Int))))
  else
    some (.inr s25.1)

noncomputable def F_spec_l3Key_L44 (s : Xspec_l3State) (s36 : (List Int) × Int) : ((List Int) × Int) → Option (((List Int) × Int) ⊕ (List Int)) := fun s43 =>
  gd (decide (0 ≤ s36.2 ∧ s36.2 < (s.buf.length : Int))) <|
  bif decide (s43.2 < ((s.buf.getD s36.2.toNat default).length : Int)) then
    gd (decide (0 ≤ s43.2 ∧ s43.2 < ((s.buf.getD s36.2.toNat default).length : Int))) <|
    gd (inK .u8 ((s.buf.getD s36.2.toNat default).getD s43.2.toNat default)) <|
    gd (capOK (s43.1.length + 1) 1) <|
    gd (inK .i64 (s43.2 + (1 : Int))) <|
    some (.inl ((s43.1 ++ [((s.buf.getD s36.2.toNat default).getD s43.2.toNat default)]), (s43.2 + (1 : Int))))
  else
    some (.inr s43.1)

noncomputable def F_spec_l3Key_L37 (s : Xspec_l3State) : ((List Int) × Int) → Option (((List Int) × Int) ⊕ (List Int)) := fun s36 =>
  bif decide (s36.2 < (s.buf.length : Int)) then
    Option.bind (
      gd (capOK (s36.1.length + 1) 1) <|
      loopO (F_spec_l3Key_L44 s s36) ((s36.1 ++ [(255 : Int)]), (0 : Int))
    ) fun s40 =>
    gd (inK .i64 (s36.2 + (1 : Int))) <|
    some (.inl (s40, (s36.2 + (1 : Int))))
  else
    some (.inr s36.1)

noncomputable def F_spec_l3Key (s : Xspec_l3State) : Option ByteArray :=
  Option.bind (
    loopO (F_spec_l3Key_L4 s) (([] : List Int), (0 : Int))
  ) fun s1 =>
  Option.bind (
    loopO (F_spec_l3Key_L15 s) (s1, (0 : Int))
  ) fun s12 =>
  Option.bind (
    loopO (F_spec_l3Key_L26 s) (s12, (0 : Int))
  ) fun s23 =>
  Option.bind (
    loopO (F_spec_l3Key_L37 s) (s23, (0 : Int))
  ) fun s34 =>
  some (strOfNums s34)

noncomputable def F_spec_l3Outcome (s : Xspec_l3State) : Option (List Int) :=
  gd (capOK (([] : List Int).length + s.regs.length) 8) <|
  gd (capOK ((([] : List Int) ++ s.regs).length + s.mem.length) 8) <|
  some ((([] : List Int) ++ s.regs) ++ s.mem)

noncomputable def F_spec_l3Found_L5 (table : List (List ByteArray)) (s : ByteArray) (v1 : Int) : Int → Option (Int ⊕ (Unit ⊕ Bool)) := fun s4 =>
  bif decide (s4 < ((table.getD v1.toNat default).length : Int)) then
    gd (decide (0 ≤ s4 ∧ s4 < ((table.getD v1.toNat default).length : Int))) <|
    bif decide (((table.getD v1.toNat default).getD s4.toNat default) = s) then
      some (.inr (.inr true))
    else
      gd (inK .i64 (s4 + (1 : Int))) <|
      some (.inl (s4 + (1 : Int)))
  else
    some (.inr (.inl ()))

noncomputable def F_spec_l3Found (table : List (List ByteArray)) (s : ByteArray) : Option Bool :=
  Option.bind (F_spec_l3Hash s) fun v1 =>
  gd (decide (0 ≤ v1 ∧ v1 < (table.length : Int))) <|
  sumK (
    loopO (F_spec_l3Found_L5 table s v1) (0 : Int)
  ) fun s3 =>
  some false

noncomputable def F_spec_l3Less_L3 (a : List Int) (b : List Int) : Int → Option (Int ⊕ (Unit ⊕ Int)) := fun s2 =>
  Option.bind (bif decide (s2 < (a.length : Int)) then
    some (decide (s2 < (b.length : Int)))
  else
    some false
  ) fun s4 =>
  bif s4 then
    gd (decide (0 ≤ s2 ∧ s2 < (a.length : Int))) <|
    gd (decide (0 ≤ s2 ∧ s2 < (b.length : Int))) <|
    bif decide ((a.getD s2.toNat default) < (b.getD s2.toNat default)) then
      some (.inr (.inr (-1 : Int)))
    else
      bif decide ((b.getD s2.toNat default) < (a.getD s2.toNat default)) then
        some (.inr (.inr (1 : Int)))
      else
        gd (inK .i64 (s2 + (1 : Int))) <|
        some (.inl (s2 + (1 : Int)))
  else
    some (.inr (.inl ()))

noncomputable def F_spec_l3Less (a : List Int) (b : List Int) : Option Int :=
  sumK (
    loopO (F_spec_l3Less_L3 a b) (0 : Int)
  ) fun s1 =>
  some (0 : Int)

noncomputable def F_spec_l3Put_L3 (list : List (List Int)) (o_ : List Int) : Int → Option (Int ⊕ Int) := fun s2 =>
  Option.bind (bif decide (s2 < (list.length : Int)) then
    gd (decide (0 ≤ s2 ∧ s2 < (list.length : Int))) <|
    Option.bind (F_spec_l3Less (list.getD s2.toNat default) o_) fun v7 =>
    some (decide (v7 < (0 : Int)))
  else
    some false
  ) fun s4 =>
  bif s4 then
    gd (inK .i64 (s2 + (1 : Int))) <|
    some (.inl (s2 + (1 : Int)))
  else
    some (.inr s2)

noncomputable def F_spec_l3Put (list : List (List Int)) (o_ : List Int) : Option (List (List Int)) :=
  Option.bind (
    loopO (F_spec_l3Put_L3 list o_) (0 : Int)
  ) fun s1 =>
  Option.bind (bif decide (s1 < (list.length : Int)) then
    gd (decide (0 ≤ s1 ∧ s1 < (list.length : Int))) <|
    Option.bind (F_spec_l3Less (list.getD s1.toNat default) o_) fun v13 =>
    some (v13 == (0 : Int))
  else
    some false
  ) fun s10 =>
  bif s10 then
    some list
  else
    gd (decide (0 ≤ (0 : Int) ∧ (0 : Int) ≤ s1 ∧ s1 ≤ (list.length : Int))) <|
    gd (capOK (([] : List (List Int)).length + ((list.drop (0 : Int).toNat).take (s1.toNat - (0 : Int).toNat)).length) 24) <|
    gd (capOK ((([] : List (List Int)) ++ ((list.drop (0 : Int).toNat).take (s1.toNat - (0 : Int).toNat))).length + 1) 24) <|
    gd (decide (0 ≤ s1 ∧ s1 ≤ (list.length : Int) ∧ (list.length : Int) ≤ (list.length : Int))) <|
    gd (capOK (((([] : List (List Int)) ++ ((list.drop (0 : Int).toNat).take (s1.toNat - (0 : Int).toNat))) ++ [o_]).length + ((list.drop s1.toNat).take ((list.length : Int).toNat - s1.toNat)).length) 24) <|
    some (((([] : List (List Int)) ++ ((list.drop (0 : Int).toNat).take (s1.toNat - (0 : Int).toNat))) ++ [o_]) ++ ((list.drop s1.toNat).take ((list.length : Int).toNat - s1.toNat)))

noncomputable def F_spec_l3Copy_L6 (s : Xspec_l3State) : Unit → Option (Unit ⊕ Unit) := fun s5 =>
  bif decide ((0 : Int) < (s.buf.length : Int)) then
    none
  else
    some (.inr ())

noncomputable def F_spec_l3Copy (s : Xspec_l3State) : Option Xspec_l3State :=
  gd (capOK (([] : List Int).length + s.at_.length) 8) <|
  gd (capOK (([] : List Int).length + s.regs.length) 8) <|
  gd (capOK (([] : List Int).length + s.mem.length) 8) <|
  Option.bind (
    loopO (F_spec_l3Copy_L6 s) ()
  ) fun s4 =>
  some (⟨(([] : List Int) ++ s.at_), (([] : List Int) ++ s.regs), (([] : List Int) ++ s.mem), ([] : List (List Int))⟩ : Xspec_l3State)



noncomputable def F_spec_l3Reg (t : Int) (reg : Int) : Option Int :=
  gd (inK .i64 (t * (3 : Int))) <|
  gd (inK .i64 ((t * (3 : Int)) + reg)) <|
  some ((t * (3 : Int)) + reg)

noncomputable def F_spec_l3Value (s : Xspec_l3State) (t : Int) (x : Ximpl_Instr) : Option Int :=
  bif (x.Op == (3 : Int)) then
    Option.bind (F_spec_l3Reg t x.Reg) fun v2 =>
    gd (decide (0 ≤ v2 ∧ v2 < (s.regs.length : Int))) <|
    some (s.regs.getD v2.toNat default)
  else
    some x.Val

noncomputable def F_spec_l3Do (p : List (List Ximpl_Instr)) (s : Xspec_l3State) (t : Int) : Option Xspec_l3State :=
  Option.bind (F_spec_l3Copy s) fun v1 =>
  gd (decide (0 ≤ t ∧ t < (p.length : Int))) <|
  gd (decide (0 ≤ t ∧ t < (s.at_.length : Int))) <|
  gd (decide (0 ≤ (s.at_.getD t.toNat default) ∧ (s.at_.getD t.toNat default) < ((p.getD t.toNat default).length : Int))) <|
  gd (inK .i64 ((s.at_.getD t.toNat default) + (1 : Int))) <|
  gd (decide (0 ≤ t ∧ t < (v1.at_.length : Int))) <|
  Option.bind (
    Option.bind (F_spec_l1Reads (⟨((p.getD t.toNat default).getD (s.at_.getD t.toNat default).toNat default).Op, ((p.getD t.toNat default).getD (s.at_.getD t.toNat default).toNat default).Loc, ((p.getD t.toNat default).getD (s.at_.getD t.toNat default).toNat default).Reg, ((p.getD t.toNat default).getD (s.at_.getD t.toNat default).toNat default).Val⟩ : Ximpl_Instr)) fun v8 =>
    bif v8 then
      Option.bind (F_spec_l3Reg t (((p.getD t.toNat default).getD (s.at_.getD t.toNat default).toNat default).Reg)) fun v10 =>
      gd (decide (0 ≤ ((p.getD t.toNat default).getD (s.at_.getD t.toNat default).toNat default).Loc ∧ ((p.getD t.toNat default).getD (s.at_.getD t.toNat default).toNat default).Loc < (s.mem.length : Int))) <|
      gd (decide (0 ≤ v10 ∧ v10 < (v1.regs.length : Int))) <|
      some (v1.regs.set v10.toNat (s.mem.getD (((p.getD t.toNat default).getD (s.at_.getD t.toNat default).toNat default).Loc).toNat default))
    else
      some v1.regs
  ) fun s7 =>
  Option.bind (
    Option.bind (F_spec_l1Writes (⟨((p.getD t.toNat default).getD (s.at_.getD t.toNat default).toNat default).Op, ((p.getD t.toNat default).getD (s.at_.getD t.toNat default).toNat default).Loc, ((p.getD t.toNat default).getD (s.at_.getD t.toNat default).toNat default).Reg, ((p.getD t.toNat default).getD (s.at_.getD t.toNat default).toNat default).Val⟩ : Ximpl_Instr)) fun v15 =>
    bif v15 then
      Option.bind (F_spec_l3Value s t (⟨((p.getD t.toNat default).getD (s.at_.getD t.toNat default).toNat default).Op, ((p.getD t.toNat default).getD (s.at_.getD t.toNat default).toNat default).Loc, ((p.getD t.toNat default).getD (s.at_.getD t.toNat default).toNat default).Reg, ((p.getD t.toNat default).getD (s.at_.getD t.toNat default).toNat default).Val⟩ : Ximpl_Instr)) fun v17 =>
      gd (decide (0 ≤ ((p.getD t.toNat default).getD (s.at_.getD t.toNat default).toNat default).Loc ∧ ((p.getD t.toNat default).getD (s.at_.getD t.toNat default).toNat default).Loc < (v1.mem.length : Int))) <|
      some (v1.mem.set ((((p.getD t.toNat default).getD (s.at_.getD t.toNat default).toNat default).Loc).toNat) v17)
    else
      some v1.mem
  ) fun s14 =>
  some (⟨(v1.at_.set t.toNat ((s.at_.getD t.toNat default) + (1 : Int))), s7, s14, ([] : List (List Int))⟩ : Xspec_l3State)
end Go.Proofs.Ytjogdblionfmiaa
