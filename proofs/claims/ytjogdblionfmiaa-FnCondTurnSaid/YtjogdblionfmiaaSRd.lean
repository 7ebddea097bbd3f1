/-
  Functions over plain values, as the program's code computes; printed by lift.py. No conditions.
-/
import Derived.Test.YtjogdblionfmiaaSt
import Derived.Test.YtjogdblionfmiaaBrVd
import Derived.Test.YtjogdblionfmiaaSQd
namespace Go.Proofs.Ytjogdblionfmiaa
open Go.RowKit
set_option maxRecDepth 100000
noncomputable def F_spec_l1Tests  : Option (List ByteArray) :=
  some ([(⟨#[120, 61, 49, 59, 97, 61, 121, 124, 121, 61, 49, 59, 97, 61, 120]⟩ : ByteArray), (⟨#[120, 61, 49, 59, 102, 101, 110, 99, 101, 59, 97, 61, 121, 124, 121, 61, 49, 59, 102, 101, 110, 99, 101, 59, 97, 61, 120]⟩ : ByteArray), (⟨#[120, 61, 49, 59, 121, 61, 49, 124, 97, 61, 121, 59, 98, 61, 120]⟩ : ByteArray), (⟨#[120, 61, 49, 59, 121, 61, 49, 124, 97, 61, 121, 59, 102, 101, 110, 99, 101, 59, 98, 61, 120]⟩ : ByteArray), (⟨#[120, 61, 49, 59, 102, 101, 110, 99, 101, 59, 121, 61, 49, 124, 97, 61, 121, 59, 98, 61, 120]⟩ : ByteArray), (⟨#[97, 61, 120, 59, 121, 61, 49, 124, 97, 61, 121, 59, 120, 61, 49]⟩ : ByteArray), (⟨#[97, 61, 120, 59, 121, 61, 97, 124, 97, 61, 121, 59, 120, 61, 97]⟩ : ByteArray), (⟨#[120, 61, 49, 124, 120, 61, 50, 124, 97, 61, 120, 59, 98, 61, 120]⟩ : ByteArray), (⟨#[120, 61, 49, 124, 121, 61, 49, 124, 97, 61, 120, 59, 98, 61, 121, 124, 97, 61, 121, 59, 98, 61, 120]⟩ : ByteArray), (⟨#[120, 61, 49, 124, 97, 61, 120, 59, 121, 61, 49, 124, 97, 61, 121, 59, 98, 61, 120]⟩ : ByteArray), (⟨#[120, 61, 49, 124, 121, 61, 49, 124, 97, 61, 120, 59, 98, 61, 121]⟩ : ByteArray), (⟨#[97, 61, 120, 58, 49, 124, 97, 61, 120, 58, 50, 124, 120, 61, 51]⟩ : ByteArray), (⟨#[120, 61, 49, 59, 97, 61, 120, 59, 98, 61, 121, 124, 121, 61, 49, 59, 97, 61, 121, 59, 98, 61, 120]⟩ : ByteArray), (⟨#[120, 61, 50, 59, 121, 61, 49, 124, 121, 61, 50, 59, 120, 61, 49]⟩ : ByteArray), (⟨#[97, 61, 120, 58, 49, 59, 98, 61, 121, 124, 97, 61, 121, 58, 49, 59, 98, 61, 120]⟩ : ByteArray), (⟨#[120, 61, 49, 59, 120, 61, 50, 124, 97, 61, 120, 59, 98, 61, 120]⟩ : ByteArray), (⟨#[120, 61, 49, 59, 121, 61, 49, 59, 97, 61, 122, 124, 122, 61, 49, 59, 97, 61, 121, 59, 98, 61, 120]⟩ : ByteArray), (⟨#[97, 61, 120, 58, 49, 124, 98, 61, 120, 58, 49]⟩ : ByteArray), (⟨#[102, 101, 110, 99, 101]⟩ : ByteArray), (⟨#[]⟩ : ByteArray), (⟨#[120, 61, 49, 59, 97, 61, 121, 124, 121, 61, 49, 59, 102, 101, 110, 99, 101, 59, 97, 61, 120]⟩ : ByteArray)] : List ByteArray)

noncomputable def F_spec_l17Cut_L4 (s : ByteArray) (c : Int) : ((List ByteArray) × Int × Int) → Option (((List ByteArray) × Int × Int) ⊕ (List ByteArray)) := fun s3 =>
  bif decide (s3.2.1 ≤ (s.size : Int)) then
    Option.bind (
      Option.bind (bif (s3.2.1 == (s.size : Int)) then
        some true
      else
        gd (decide (0 ≤ s3.2.1 ∧ s3.2.1 < (s.size : Int))) <|
        some (((s.data.getD s3.2.1.toNat 0).toNat : Int) == c)
      ) fun s8 =>
      bif s8 then
        gd (decide (0 ≤ s3.2.2 ∧ s3.2.2 ≤ s3.2.1 ∧ s3.2.1 ≤ (s.size : Int))) <|
        gd (capOK (s3.1.length + 1) 16) <|
        gd (inK .i64 (s3.2.1 + (1 : Int))) <|
        some ((s3.1 ++ [(s.extract s3.2.2.toNat s3.2.1.toNat)]), (s3.2.1 + (1 : Int)))
      else
        some (s3.1, s3.2.2)
    ) fun s7 =>
    gd (inK .i64 (s3.2.1 + (1 : Int))) <|
    some (.inl (s7.1, (s3.2.1 + (1 : Int)), s7.2))
  else
    some (.inr s3.1)

noncomputable def F_spec_l17Cut (s : ByteArray) (c : Int) : Option (List ByteArray) :=
  Option.bind (
    loopO (F_spec_l17Cut_L4 s c) (([] : List ByteArray), (0 : Int), (0 : Int))
  ) fun s1 =>
  some s1

noncomputable def F_spec_l1Place (s : ByteArray) (at_ : Int) (from_ : Int) (most : Int) : Option Int :=
  Option.bind (bif decide ((s.size : Int) ≤ at_) then
    some true
  else
    gd (decide (0 ≤ at_ ∧ at_ < (s.size : Int))) <|
    some (decide (((s.data.getD at_.toNat 0).toNat : Int) < from_))
  ) fun s1 =>
  Option.bind (bif s1 then
    some true
  else
    gd (decide (0 ≤ at_ ∧ at_ < (s.size : Int))) <|
    gd (inK .u8 (((s.data.getD at_.toNat 0).toNat : Int) - from_)) <|
    gd (inK .i64 (((s.data.getD at_.toNat 0).toNat : Int) - from_)) <|
    some (decide (most < (((s.data.getD at_.toNat 0).toNat : Int) - from_)))
  ) fun s4 =>
  bif s4 then
    some (-1 : Int)
  else
    gd (decide (0 ≤ at_ ∧ at_ < (s.size : Int))) <|
    gd (inK .u8 (((s.data.getD at_.toNat 0).toNat : Int) - from_)) <|
    gd (inK .i64 (((s.data.getD at_.toNat 0).toNat : Int) - from_)) <|
    some (((s.data.getD at_.toNat 0).toNat : Int) - from_)

noncomputable def F_spec_l1Parse (s : ByteArray) : Option Ximpl_Instr :=
  bif decide (s = (⟨#[102, 101, 110, 99, 101]⟩ : ByteArray)) then
    some (⟨(4 : Int), (0 : Int), (0 : Int), (0 : Int)⟩ : Ximpl_Instr)
  else
    Option.bind (F_spec_l1Place s (0 : Int) (97 : Int) (2 : Int)) fun v2 =>
    Option.bind (F_spec_l1Place s (0 : Int) (120 : Int) (2 : Int)) fun v3 =>
    Option.bind (bif decide ((0 : Int) ≤ v2) then
      some ((s.size : Int) == (3 : Int))
    else
      some false
    ) fun s4 =>
    bif s4 then
      Option.bind (F_spec_l1Place s (2 : Int) (120 : Int) (2 : Int)) fun v7 =>
      some (⟨(1 : Int), v7, v2, (0 : Int)⟩ : Ximpl_Instr)
    else
      Option.bind (bif decide ((0 : Int) ≤ v2) then
        some ((s.size : Int) == (5 : Int))
      else
        some false
      ) fun s8 =>
      bif s8 then
        Option.bind (F_spec_l1Place s (2 : Int) (120 : Int) (2 : Int)) fun v11 =>
        Option.bind (F_spec_l1Place s (4 : Int) (48 : Int) (3 : Int)) fun v12 =>
        some (⟨(5 : Int), v11, v2, v12⟩ : Ximpl_Instr)
      else
        Option.bind (bif decide ((0 : Int) ≤ v3) then
          Option.bind (F_spec_l1Place s (2 : Int) (97 : Int) (2 : Int)) fun v15 =>
          some (decide ((0 : Int) ≤ v15))
        else
          some false
        ) fun s13 =>
        bif s13 then
          Option.bind (F_spec_l1Place s (2 : Int) (97 : Int) (2 : Int)) fun v17 =>
          some (⟨(3 : Int), v3, v17, (0 : Int)⟩ : Ximpl_Instr)
        else
          Option.bind (F_spec_l1Place s (2 : Int) (48 : Int) (3 : Int)) fun v18 =>
          some (⟨(2 : Int), v3, (0 : Int), v18⟩ : Ximpl_Instr)

noncomputable def F_spec_l1Letter (from_ : Int) (n : Int) : Option ByteArray :=
  gd (inK .u8 n) <|
  gd (inK .u8 (from_ + n)) <|
  some (strOfNums ([(from_ + n)] : List Int))

noncomputable def F_spec_l17Dec_L8  : (ByteArray × Int) → Option ((ByteArray × Int) ⊕ (ByteArray × Int)) := fun s7 =>
  bif decide ((9 : Int) < s7.2) then
    gd (decide ((10 : Int) ≠ 0)) <|
    gd (inK .i64 ((48 : Int) + (s7.2.tmod (10 : Int)))) <|
    gd (inK .u8 ((48 : Int) + (s7.2.tmod (10 : Int)))) <|
    gd (decide ((strOfNums ([((48 : Int) + (s7.2.tmod (10 : Int)))] : List Int)).size + s7.1.size ≤ 9223372036854775807)) <|
    gd (inK .i64 (s7.2.tdiv (10 : Int))) <|
    some (.inl (((strOfNums ([((48 : Int) + (s7.2.tmod (10 : Int)))] : List Int)) ++ s7.1), (s7.2.tdiv (10 : Int))))
  else
    some (.inr (s7.1, s7.2))

noncomputable def F_spec_l17Dec_B (rcf : Int → Option ByteArray) (n : Int) : Option ByteArray :=
  bif decide (n < (-9223372036854775807 : Int)) then
    some (⟨#[45, 57, 50, 50, 51, 51, 55, 50, 48, 51, 54, 56, 53, 52, 55, 55, 53, 56, 48, 56]⟩ : ByteArray)
  else
    bif decide (n < (0 : Int)) then
      gd (inK .i64 (0 - n)) <|
      Option.bind (rcf (0 - n)) fun v4 =>
      gd (decide ((⟨#[45]⟩ : ByteArray).size + v4.size ≤ 9223372036854775807)) <|
      some ((⟨#[45]⟩ : ByteArray) ++ v4)
    else
      Option.bind (
        loopO F_spec_l17Dec_L8 ((⟨#[]⟩ : ByteArray), n)
      ) fun s6 =>
      gd (inK .i64 ((48 : Int) + s6.2)) <|
      gd (inK .u8 ((48 : Int) + s6.2)) <|
      gd (decide ((strOfNums ([((48 : Int) + s6.2)] : List Int)).size + s6.1.size ≤ 9223372036854775807)) <|
      some ((strOfNums ([((48 : Int) + s6.2)] : List Int)) ++ s6.1)

noncomputable def F_spec_l17Dec_N : Nat → Int → Option ByteArray
  | 0 => fun _ => none
  | n + 1 => F_spec_l17Dec_B (F_spec_l17Dec_N n)

noncomputable def F_spec_l17Dec (n : Int) : Option ByteArray := fixC fun nf => F_spec_l17Dec_N nf n

noncomputable def F_spec_l1Text (x : Ximpl_Instr) : Option ByteArray :=
  Option.bind (F_spec_l1Letter (120 : Int) x.Loc) fun v1 =>
  Option.bind (F_spec_l1Letter (97 : Int) x.Reg) fun v2 =>
  bif (x.Op == (1 : Int)) then
    gd (decide (v2.size + (⟨#[61]⟩ : ByteArray).size ≤ 9223372036854775807)) <|
    gd (decide ((v2 ++ (⟨#[61]⟩ : ByteArray)).size + v1.size ≤ 9223372036854775807)) <|
    some ((v2 ++ (⟨#[61]⟩ : ByteArray)) ++ v1)
  else
    bif (x.Op == (2 : Int)) then
      gd (decide (v1.size + (⟨#[61]⟩ : ByteArray).size ≤ 9223372036854775807)) <|
      Option.bind (F_spec_l17Dec x.Val) fun v8 =>
      gd (decide ((v1 ++ (⟨#[61]⟩ : ByteArray)).size + v8.size ≤ 9223372036854775807)) <|
      some ((v1 ++ (⟨#[61]⟩ : ByteArray)) ++ v8)
    else
      bif (x.Op == (3 : Int)) then
        gd (decide (v1.size + (⟨#[61]⟩ : ByteArray).size ≤ 9223372036854775807)) <|
        gd (decide ((v1 ++ (⟨#[61]⟩ : ByteArray)).size + v2.size ≤ 9223372036854775807)) <|
        some ((v1 ++ (⟨#[61]⟩ : ByteArray)) ++ v2)
      else
        bif (x.Op == (5 : Int)) then
          gd (decide (v2.size + (⟨#[61]⟩ : ByteArray).size ≤ 9223372036854775807)) <|
          gd (decide ((v2 ++ (⟨#[61]⟩ : ByteArray)).size + v1.size ≤ 9223372036854775807)) <|
          gd (decide (((v2 ++ (⟨#[61]⟩ : ByteArray)) ++ v1).size + (⟨#[58]⟩ : ByteArray).size ≤ 9223372036854775807)) <|
          Option.bind (F_spec_l17Dec x.Val) fun v17 =>
          gd (decide ((((v2 ++ (⟨#[61]⟩ : ByteArray)) ++ v1) ++ (⟨#[58]⟩ : ByteArray)).size + v17.size ≤ 9223372036854775807)) <|
          some ((((v2 ++ (⟨#[61]⟩ : ByteArray)) ++ v1) ++ (⟨#[58]⟩ : ByteArray)) ++ v17)
        else
          some (⟨#[102, 101, 110, 99, 101]⟩ : ByteArray)

noncomputable def F_spec_l1Program_L10 (p : List (List Ximpl_Instr)) (s2 : Int × ByteArray) : (Int × ByteArray) → Option ((Int × ByteArray) ⊕ ByteArray) := fun s9 =>
  gd (decide (0 ≤ s2.1 ∧ s2.1 < (p.length : Int))) <|
  bif decide (s9.1 < ((p.getD s2.1.toNat default).length : Int)) then
    Option.bind (
      bif decide ((0 : Int) < s9.1) then
        gd (decide (s9.2.size + (⟨#[59]⟩ : ByteArray).size ≤ 9223372036854775807)) <|
        some (s9.2 ++ (⟨#[59]⟩ : ByteArray))
      else
        some s9.2
    ) fun s13 =>
    gd (decide (0 ≤ s9.1 ∧ s9.1 < ((p.getD s2.1.toNat default).length : Int))) <|
    Option.bind (F_spec_l1Text ((p.getD s2.1.toNat default).getD s9.1.toNat default)) fun v17 =>
    gd (decide (s13.size + v17.size ≤ 9223372036854775807)) <|
    gd (inK .i64 (s9.1 + (1 : Int))) <|
    some (.inl ((s9.1 + (1 : Int)), (s13 ++ v17)))
  else
    some (.inr s9.2)

noncomputable def F_spec_l1Program_L3 (p : List (List Ximpl_Instr)) : (Int × ByteArray) → Option ((Int × ByteArray) ⊕ ByteArray) := fun s2 =>
  bif decide (s2.1 < (p.length : Int)) then
    Option.bind (
      Option.bind (
        bif decide ((0 : Int) < s2.1) then
          gd (decide (s2.2.size + (⟨#[124]⟩ : ByteArray).size ≤ 9223372036854775807)) <|
          some (s2.2 ++ (⟨#[124]⟩ : ByteArray))
        else
          some s2.2
      ) fun s6 =>
      loopO (F_spec_l1Program_L10 p s2) ((0 : Int), s6)
    ) fun s5 =>
    gd (inK .i64 (s2.1 + (1 : Int))) <|
    some (.inl ((s2.1 + (1 : Int)), s5))
  else
    some (.inr s2.2)

noncomputable def F_spec_l1Program (p : List (List Ximpl_Instr)) : Option ByteArray :=
  Option.bind (
    loopO (F_spec_l1Program_L3 p) ((0 : Int), (⟨#[]⟩ : ByteArray))
  ) fun s1 =>
  some s1

noncomputable def F_spec_ParseProgram_L16 (v1 : (List ByteArray)) (s4 : (List (List Ximpl_Instr)) × Int) (v12 : (List ByteArray)) : ((List Ximpl_Instr) × Int) → Option (((List Ximpl_Instr) × Int) ⊕ (List Ximpl_Instr)) := fun s15 =>
  Option.bind (bif decide (s15.2 < (v12.length : Int)) then
    some (decide (s15.2 ≤ (7 : Int)))
  else
    some false
  ) fun s18 =>
  Option.bind (bif s18 then
    some (!decide ((v1.getD s4.2.toNat default) = (⟨#[]⟩ : ByteArray)))
  else
    some false
  ) fun s20 =>
  bif s20 then
    gd (decide (0 ≤ s15.2 ∧ s15.2 < (v12.length : Int))) <|
    Option.bind (F_spec_l1Parse (v12.getD s15.2.toNat default)) fun v24 =>
    gd (capOK (s15.1.length + 1) 32) <|
    gd (inK .i64 (s15.2 + (1 : Int))) <|
    some (.inl ((s15.1 ++ [v24]), (s15.2 + (1 : Int))))
  else
    some (.inr s15.1)

noncomputable def F_spec_ParseProgram_L5 (v1 : (List ByteArray)) : ((List (List Ximpl_Instr)) × Int) → Option (((List (List Ximpl_Instr)) × Int) ⊕ (List (List Ximpl_Instr))) := fun s4 =>
  Option.bind (bif decide (s4.2 < (v1.length : Int)) then
    some (decide (s4.2 ≤ (3 : Int)))
  else
    some false
  ) fun s7 =>
  bif s7 then
    Option.bind (
      gd (decide (0 ≤ s4.2 ∧ s4.2 < (v1.length : Int))) <|
      Option.bind (F_spec_l17Cut (v1.getD s4.2.toNat default) (59 : Int)) fun v12 =>
      Option.bind (
        loopO (F_spec_ParseProgram_L16 v1 s4 v12) (([] : List Ximpl_Instr), (0 : Int))
      ) fun s13 =>
      gd (capOK (s4.1.length + 1) 24) <|
      some (s4.1 ++ [s13])
    ) fun s10 =>
    gd (inK .i64 (s4.2 + (1 : Int))) <|
    some (.inl (s10, (s4.2 + (1 : Int))))
  else
    some (.inr s4.1)

noncomputable def F_spec_ParseProgram (text : ByteArray) : Option ((List (List Ximpl_Instr)) × Bool) :=
  Option.bind (F_spec_l17Cut text (124 : Int)) fun v1 =>
  Option.bind (
    loopO (F_spec_ParseProgram_L5 v1) (([] : List (List Ximpl_Instr)), (0 : Int))
  ) fun s2 =>
  Option.bind (F_spec_ProgramValid s2) fun v32 =>
  Option.bind (bif !v32 then
    some true
  else
    Option.bind (F_spec_l1Program s2) fun v35 =>
    some (!decide (v35 = text))
  ) fun s33 =>
  bif s33 then
    some (([] : List (List Ximpl_Instr)), false)
  else
    some (s2, true)

noncomputable def F_spec_l1Instr (r_ : Xspec_l17Rd) : Option (Xspec_l17Rd × Ximpl_Instr) :=
  Option.bind (F_spec_l17Rd_pick (⟨r_.b, r_.p⟩ : Xspec_l17Rd) (2 : Int)) fun v1 =>
  Option.bind (F_spec_l17Rd_pick (⟨v1.1.b, v1.1.p⟩ : Xspec_l17Rd) (7 : Int)) fun v2 =>
  bif (v2.2 == (0 : Int)) then
    some ((⟨v2.1.b, v2.1.p⟩ : Xspec_l17Rd), (⟨(4 : Int), (0 : Int), (0 : Int), (0 : Int)⟩ : Ximpl_Instr))
  else
    bif (v2.2 == (1 : Int)) then
      Option.bind (F_spec_l17Rd_pick (⟨v2.1.b, v2.1.p⟩ : Xspec_l17Rd) (2 : Int)) fun v5 =>
      some ((⟨v5.1.b, v5.1.p⟩ : Xspec_l17Rd), (⟨(3 : Int), v1.2, v5.2, (0 : Int)⟩ : Ximpl_Instr))
    else
      bif (v2.2 == (2 : Int)) then
        Option.bind (F_spec_l17Rd_pick (⟨v2.1.b, v2.1.p⟩ : Xspec_l17Rd) (2 : Int)) fun v7 =>
        Option.bind (F_spec_l17Rd_pick (⟨v7.1.b, v7.1.p⟩ : Xspec_l17Rd) (3 : Int)) fun v8 =>
        gd (inK .i64 ((1 : Int) + v8.2)) <|
        some ((⟨v8.1.b, v8.1.p⟩ : Xspec_l17Rd), (⟨(5 : Int), v1.2, v7.2, ((1 : Int) + v8.2)⟩ : Ximpl_Instr))
      else
        Option.bind (
          bif (v2.2 == (3 : Int)) then
            some (v2.2 == (3 : Int))
          else
            some (v2.2 == (4 : Int))
        ) fun s10 =>
        bif s10 then
          Option.bind (F_spec_l17Rd_pick (⟨v2.1.b, v2.1.p⟩ : Xspec_l17Rd) (3 : Int)) fun v13 =>
          gd (inK .i64 ((1 : Int) + v13.2)) <|
          some ((⟨v13.1.b, v13.1.p⟩ : Xspec_l17Rd), (⟨(2 : Int), v1.2, (0 : Int), ((1 : Int) + v13.2)⟩ : Ximpl_Instr))
        else
          Option.bind (F_spec_l17Rd_pick (⟨v2.1.b, v2.1.p⟩ : Xspec_l17Rd) (2 : Int)) fun v15 =>
          some ((⟨v15.1.b, v15.1.p⟩ : Xspec_l17Rd), (⟨(1 : Int), v1.2, v15.2, (0 : Int)⟩ : Ximpl_Instr))

noncomputable def F_spec_l1Draw_L21  : ((List Int) × Int × (List Ximpl_Instr) × Int) → Option (((List Int) × Int × (List Ximpl_Instr) × Int) ⊕ ((List Int) × Int × (List Ximpl_Instr))) := fun s20 =>
  bif decide ((0 : Int) < s20.2.2.2) then
    Option.bind (F_spec_l1Instr (⟨s20.1, s20.2.1⟩ : Xspec_l17Rd)) fun v24 =>
    gd (capOK (s20.2.2.1.length + 1) 32) <|
    gd (inK .i64 (s20.2.2.2 - (1 : Int))) <|
    some (.inl (v24.1.b, v24.1.p, (s20.2.2.1 ++ [v24.2]), (s20.2.2.2 - (1 : Int))))
  else
    some (.inr (s20.1, s20.2.1, s20.2.2.1))

noncomputable def F_spec_l1Draw_L13  : ((List Int) × Int × (List (List Ximpl_Instr)) × Int) → Option (((List Int) × Int × (List (List Ximpl_Instr)) × Int) ⊕ ((List Int) × Int × (List (List Ximpl_Instr)))) := fun s12 =>
  bif decide ((0 : Int) < s12.2.2.2) then
    Option.bind (
      Option.bind (
        Option.bind (F_spec_l17Rd_num (⟨s12.1, s12.2.1⟩ : Xspec_l17Rd) ([(2 : Int), (1 : Int), (3 : Int), (2 : Int), (0 : Int)] : List Int)) fun v18 =>
        loopO F_spec_l1Draw_L21 (v18.1.b, v18.1.p, ([] : List Ximpl_Instr), v18.2)
      ) fun s17 =>
      gd (capOK (s12.2.2.1.length + 1) 24) <|
      some (s17.1, s17.2.1, (s12.2.2.1 ++ [s17.2.2]))
    ) fun s16 =>
    gd (inK .i64 (s12.2.2.2 - (1 : Int))) <|
    some (.inl (s16.1, s16.2.1, s16.2.2, (s12.2.2.2 - (1 : Int))))
  else
    some (.inr (s12.1, s12.2.1, s12.2.2.1))

noncomputable def F_spec_l1Draw (r_ : Xspec_l17Rd) : Option (Xspec_l17Rd × (List (List Ximpl_Instr))) :=
  Option.bind (F_spec_l1Tests ) fun v1 =>
  sumK (
    Option.bind (F_spec_l17Rd_pick (⟨r_.b, r_.p⟩ : Xspec_l17Rd) (3 : Int)) fun v3 =>
    bif decide ((0 : Int) < v3.2) then
      Option.bind (F_spec_l17Rd_pick (⟨v3.1.b, v3.1.p⟩ : Xspec_l17Rd) (v1.length : Int)) fun v5 =>
      gd (decide (0 ≤ v5.2 ∧ v5.2 < (v1.length : Int))) <|
      Option.bind (F_spec_ParseProgram (v1.getD v5.2.toNat default)) fun v7 =>
      bif v7.2 then
        some (.inr ((⟨v5.1.b, v5.1.p⟩ : Xspec_l17Rd), v7.1))
      else
        some (.inl (v5.1.b, v5.1.p))
    else
      some (.inl (v3.1.b, v3.1.p))
  ) fun s2 =>
  Option.bind (
    Option.bind (F_spec_l17Rd_num (⟨s2.1, s2.2⟩ : Xspec_l17Rd) ([(2 : Int), (3 : Int), (1 : Int)] : List Int)) fun v10 =>
    loopO F_spec_l1Draw_L13 (v10.1.b, v10.1.p, ([] : List (List Ximpl_Instr)), v10.2)
  ) fun s9 =>
  Option.bind (F_spec_ProgramValid s9.2.2) fun v32 =>
  bif v32 then
    some ((⟨s9.1, s9.2.1⟩ : Xspec_l17Rd), s9.2.2)
  else
    Option.bind (F_spec_l1Instr (⟨s9.1, s9.2.1⟩ : Xspec_l17Rd)) fun v34 =>
    some ((⟨v34.1.b, v34.1.p⟩ : Xspec_l17Rd), ([([v34.2] : List Ximpl_Instr)] : List (List Ximpl_Instr)))

noncomputable def F_spec_l1Writes (x : Ximpl_Instr) : Option Bool :=
  Option.bind (bif (x.Op == (2 : Int)) then
    some true
  else
    some (x.Op == (3 : Int))
  ) fun s1 =>
  Option.bind (bif s1 then
    some true
  else
    some (x.Op == (5 : Int))
  ) fun s3 =>
  some s3

noncomputable def F_spec_l1Reads (x : Ximpl_Instr) : Option Bool :=
  Option.bind (bif (x.Op == (1 : Int)) then
    some true
  else
    some (x.Op == (5 : Int))
  ) fun s1 =>
  some s1

noncomputable def F_spec_l1Count_L7 (p : List (List Ximpl_Instr)) (loc : Int) (writes : Bool) (s2 : Int × Int) : (Int × Int) → Option ((Int × Int) ⊕ Int) := fun s6 =>
  gd (decide (0 ≤ s2.1 ∧ s2.1 < (p.length : Int))) <|
  bif decide (s6.1 < ((p.getD s2.1.toNat default).length : Int)) then
    Option.bind (
      gd (decide (0 ≤ s6.1 ∧ s6.1 < ((p.getD s2.1.toNat default).length : Int))) <|
      Option.bind (bif ((((p.getD s2.1.toNat default).getD s6.1.toNat default).Loc) == loc) then
        Option.bind (bif writes then
          Option.bind (F_spec_l1Writes (⟨((p.getD s2.1.toNat default).getD s6.1.toNat default).Op, ((p.getD s2.1.toNat default).getD s6.1.toNat default).Loc, ((p.getD s2.1.toNat default).getD s6.1.toNat default).Reg, ((p.getD s2.1.toNat default).getD s6.1.toNat default).Val⟩ : Ximpl_Instr)) fun v16 =>
          some v16
        else
          some false
        ) fun s14 =>
        Option.bind (bif s14 then
          some true
        else
          Option.bind (bif !writes then
            Option.bind (F_spec_l1Reads (⟨((p.getD s2.1.toNat default).getD s6.1.toNat default).Op, ((p.getD s2.1.toNat default).getD s6.1.toNat default).Loc, ((p.getD s2.1.toNat default).getD s6.1.toNat default).Reg, ((p.getD s2.1.toNat default).getD s6.1.toNat default).Val⟩ : Ximpl_Instr)) fun v21 =>
            some v21
          else
            some false
          ) fun s19 =>
          some s19
        ) fun s17 =>
        some s17
      else
        some false
      ) fun s12 =>
      bif s12 then
        gd (inK .i64 (s6.2 + (1 : Int))) <|
        some (s6.2 + (1 : Int))
      else
        some s6.2
    ) fun s10 =>
    gd (inK .i64 (s6.1 + (1 : Int))) <|
    some (.inl ((s6.1 + (1 : Int)), s10))
  else
    some (.inr s6.2)

noncomputable def F_spec_l1Count_L3 (p : List (List Ximpl_Instr)) (loc : Int) (writes : Bool) : (Int × Int) → Option ((Int × Int) ⊕ Int) := fun s2 =>
  bif decide (s2.1 < (p.length : Int)) then
    Option.bind (
      loopO (F_spec_l1Count_L7 p loc writes s2) ((0 : Int), s2.2)
    ) fun s5 =>
    gd (inK .i64 (s2.1 + (1 : Int))) <|
    some (.inl ((s2.1 + (1 : Int)), s5))
  else
    some (.inr s2.2)

noncomputable def F_spec_l1Count (p : List (List Ximpl_Instr)) (loc : Int) (writes : Bool) : Option Int :=
  Option.bind (
    loopO (F_spec_l1Count_L3 p loc writes) ((0 : Int), (0 : Int))
  ) fun s1 =>
  some s1

noncomputable def F_spec_l1Execs_L9 (p : List (List Ximpl_Instr)) (most : Int) (s2 : Int × Int) (v6 : Int) : (Int × Int) → Option ((Int × Int) ⊕ Int) := fun s8 =>
  Option.bind (F_spec_l1Count p s2.1 false) fun v10 =>
  Option.bind (bif decide (s8.1 < v10) then
    some (decide (s8.2 ≤ most))
  else
    some false
  ) fun s11 =>
  bif s11 then
    gd (inK .i64 (v6 + (1 : Int))) <|
    gd (inK .i64 (s8.2 * (v6 + (1 : Int)))) <|
    gd (inK .i64 (s8.1 + (1 : Int))) <|
    some (.inl ((s8.1 + (1 : Int)), (s8.2 * (v6 + (1 : Int)))))
  else
    some (.inr s8.2)

noncomputable def F_spec_l1Execs_L18 (most : Int) (v6 : Int) : (Int × Int) → Option ((Int × Int) ⊕ Int) := fun s17 =>
  Option.bind (bif decide (s17.1 ≤ v6) then
    some (decide (s17.2 ≤ most))
  else
    some false
  ) fun s19 =>
  bif s19 then
    gd (inK .i64 (s17.2 * s17.1)) <|
    gd (inK .i64 (s17.1 + (1 : Int))) <|
    some (.inl ((s17.1 + (1 : Int)), (s17.2 * s17.1)))
  else
    some (.inr s17.2)

noncomputable def F_spec_l1Execs_L3 (p : List (List Ximpl_Instr)) (most : Int) : (Int × Int) → Option ((Int × Int) ⊕ Int) := fun s2 =>
  bif decide (s2.1 ≤ (2 : Int)) then
    Option.bind (
      Option.bind (F_spec_l1Count p s2.1 true) fun v6 =>
      Option.bind (
        loopO (F_spec_l1Execs_L9 p most s2 v6) ((0 : Int), s2.2)
      ) fun s7 =>
      loopO (F_spec_l1Execs_L18 most v6) ((2 : Int), s7)
    ) fun s5 =>
    gd (inK .i64 (s2.1 + (1 : Int))) <|
    some (.inl ((s2.1 + (1 : Int)), s5))
  else
    some (.inr s2.2)

noncomputable def F_spec_l1Execs (p : List (List Ximpl_Instr)) (most : Int) : Option Int :=
  Option.bind (
    loopO (F_spec_l1Execs_L3 p most) ((0 : Int), (1 : Int))
  ) fun s1 =>
  bif decide (most < s1) then
    gd (inK .i64 (most + (1 : Int))) <|
    some (most + (1 : Int))
  else
    some s1

noncomputable def F_spec_l8Small (r_ : Xspec_l17Rd) : Option (Xspec_l17Rd × (List (List Ximpl_Instr))) :=
  Option.bind (F_spec_l1Draw (⟨r_.b, r_.p⟩ : Xspec_l17Rd)) fun v1 =>
  Option.bind (F_spec_l1Execs v1.2 (200 : Int)) fun v2 =>
  bif decide (v2 ≤ (200 : Int)) then
    some ((⟨v1.1.b, v1.1.p⟩ : Xspec_l17Rd), v1.2)
  else
    Option.bind (F_spec_ParseProgram (⟨#[120, 61, 49, 59, 97, 61, 121, 124, 121, 61, 49, 59, 97, 61, 120]⟩ : ByteArray)) fun v4 =>
    some ((⟨v1.1.b, v1.1.p⟩ : Xspec_l17Rd), v4.1)
end Go.Proofs.Ytjogdblionfmiaa
