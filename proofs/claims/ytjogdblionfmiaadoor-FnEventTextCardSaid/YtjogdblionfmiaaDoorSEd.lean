/-
  Functions over plain values, as the program's code computes; printed by lift.py. No conditions.
-/
import Derived.Test.YtjogdblionfmiaaDoorSt
import Derived.Test.YtjogdblionfmiaaDoorBrVd
import Derived.Test.YtjogdblionfmiaaDoorSRd
namespace Go.Proofs.YtjogdblionfmiaaDoor
open Go.RowKit
set_option maxRecDepth 100000
noncomputable def F_impl_Instr_reads (x : Ximpl_Instr) : Option Bool :=
  Option.bind (bif (x.Op == (1 : Int)) then
    some true
  else
    some (x.Op == (5 : Int))
  ) fun s1 =>
  some s1

noncomputable def F_impl_Instr_writes (x : Ximpl_Instr) : Option Bool :=
  Option.bind (bif (x.Op == (2 : Int)) then
    some true
  else
    some (x.Op == (3 : Int))
  ) fun s1 =>
  Option.bind (bif s1 then
    some true
  else
    some (x.Op == (5 : Int))
  ) fun s3 =>
  some s3

noncomputable def F_impl_events_L6  : ((List Ximpl_Event) × Int) → Option (((List Ximpl_Event) × Int) ⊕ (List Ximpl_Event)) := fun s5 =>
  bif decide (s5.2 < (3 : Int)) then
    gd (capOK (s5.1.length + 1) 32) <|
    gd (inK .i64 (s5.2 + (1 : Int))) <|
    some (.inl ((s5.1 ++ [(⟨(-1 : Int), s5.2, s5.2, false, true⟩ : Ximpl_Event)]), (s5.2 + (1 : Int))))
  else
    some (.inr s5.1)

noncomputable def F_impl_events_L32 (p : List (List Ximpl_Instr)) (s20 : (List Ximpl_Event) × Int) : ((List Ximpl_Event) × Int) → Option (((List Ximpl_Event) × Int) ⊕ (List Ximpl_Event)) := fun s31 =>
  bif decide (s31.2 < ((p.getD s20.2.toNat default).length : Int)) then
    Option.bind (
      gd (decide (0 ≤ s31.2 ∧ s31.2 < ((p.getD s20.2.toNat default).length : Int))) <|
      bif ((((p.getD s20.2.toNat default).getD s31.2.toNat default).Op) != (4 : Int)) then
        Option.bind (F_impl_Instr_reads (⟨((p.getD s20.2.toNat default).getD s31.2.toNat default).Op, ((p.getD s20.2.toNat default).getD s31.2.toNat default).Loc, ((p.getD s20.2.toNat default).getD s31.2.toNat default).Reg, ((p.getD s20.2.toNat default).getD s31.2.toNat default).Val⟩ : Ximpl_Instr)) fun v40 =>
        Option.bind (F_impl_Instr_writes (⟨((p.getD s20.2.toNat default).getD s31.2.toNat default).Op, ((p.getD s20.2.toNat default).getD s31.2.toNat default).Loc, ((p.getD s20.2.toNat default).getD s31.2.toNat default).Reg, ((p.getD s20.2.toNat default).getD s31.2.toNat default).Val⟩ : Ximpl_Instr)) fun v41 =>
        gd (capOK (s31.1.length + 1) 32) <|
        some (s31.1 ++ [(⟨s20.2, s31.2, ((p.getD s20.2.toNat default).getD s31.2.toNat default).Loc, v40, v41⟩ : Ximpl_Event)])
      else
        some s31.1
    ) fun s37 =>
    gd (inK .i64 (s31.2 + (1 : Int))) <|
    some (.inl (s37, (s31.2 + (1 : Int))))
  else
    some (.inr s31.1)

noncomputable def F_impl_events_L21 (p : List (List Ximpl_Instr)) : ((List Ximpl_Event) × Int) → Option (((List Ximpl_Event) × Int) ⊕ (List Ximpl_Event)) := fun s20 =>
  bif decide (s20.2 < (p.length : Int)) then
    Option.bind (
      gd (decide (0 ≤ s20.2 ∧ s20.2 < (p.length : Int))) <|
      loopO (F_impl_events_L32 p s20) (s20.1, (0 : Int))
    ) fun s26 =>
    gd (inK .i64 (s20.2 + (1 : Int))) <|
    some (.inl (s26, (s20.2 + (1 : Int))))
  else
    some (.inr s20.1)

noncomputable def F_impl_events (p : List (List Ximpl_Instr)) : Option (List Ximpl_Event) :=
  Option.bind (
    loopO F_impl_events_L6 (([] : List Ximpl_Event), (0 : Int))
  ) fun s1 =>
  Option.bind (
    loopO (F_impl_events_L21 p) (s1, (0 : Int))
  ) fun s16 =>
  some s16

noncomputable def F_impl_EventsOf (p : List (List Ximpl_Instr)) : Option (List Ximpl_Event) :=
  Option.bind (F_impl_ProgramValid p) fun v1 =>
  bif !v1 then
    some ([] : List Ximpl_Event)
  else
    Option.bind (F_impl_events p) fun v3 =>
    some v3

noncomputable def F_impl_within (x : Int) (low : Int) (high : Int) : Option Bool :=
  Option.bind (bif decide (low ≤ x) then
    some (decide (x ≤ high))
  else
    some false
  ) fun s1 =>
  some s1

noncomputable def F_internal_strconv_small (i : Int) : Option ByteArray :=
  bif decide (i < (10 : Int)) then
    gd (inK .i64 (i + (1 : Int))) <|
    gd (decide (0 ≤ i ∧ i ≤ (i + (1 : Int)) ∧ (i + (1 : Int)) ≤ ((⟨#[48, 49, 50, 51, 52, 53, 54, 55, 56, 57, 97, 98, 99, 100, 101, 102, 103, 104, 105, 106, 107, 108, 109, 110, 111, 112, 113, 114, 115, 116, 117, 118, 119, 120, 121, 122]⟩ : ByteArray).size : Int))) <|
    some ((⟨#[48, 49, 50, 51, 52, 53, 54, 55, 56, 57, 97, 98, 99, 100, 101, 102, 103, 104, 105, 106, 107, 108, 109, 110, 111, 112, 113, 114, 115, 116, 117, 118, 119, 120, 121, 122]⟩ : ByteArray).extract i.toNat (i + (1 : Int)).toNat)
  else
    gd (inK .i64 (i * (2 : Int))) <|
    gd (inK .i64 ((i * (2 : Int)) + (2 : Int))) <|
    gd (decide (0 ≤ (i * (2 : Int)) ∧ (i * (2 : Int)) ≤ ((i * (2 : Int)) + (2 : Int)) ∧ ((i * (2 : Int)) + (2 : Int)) ≤ ((⟨#[48, 48, 48, 49, 48, 50, 48, 51, 48, 52, 48, 53, 48, 54, 48, 55, 48, 56, 48, 57, 49, 48, 49, 49, 49, 50, 49, 51, 49, 52, 49, 53, 49, 54, 49, 55, 49, 56, 49, 57, 50, 48, 50, 49, 50, 50, 50, 51, 50, 52, 50, 53, 50, 54, 50, 55, 50, 56, 50, 57, 51, 48, 51, 49, 51, 50, 51, 51, 51, 52, 51, 53, 51, 54, 51, 55, 51, 56, 51, 57, 52, 48, 52, 49, 52, 50, 52, 51, 52, 52, 52, 53, 52, 54, 52, 55, 52, 56, 52, 57, 53, 48, 53, 49, 53, 50, 53, 51, 53, 52, 53, 53, 53, 54, 53, 55, 53, 56, 53, 57, 54, 48, 54, 49, 54, 50, 54, 51, 54, 52, 54, 53, 54, 54, 54, 55, 54, 56, 54, 57, 55, 48, 55, 49, 55, 50, 55, 51, 55, 52, 55, 53, 55, 54, 55, 55, 55, 56, 55, 57, 56, 48, 56, 49, 56, 50, 56, 51, 56, 52, 56, 53, 56, 54, 56, 55, 56, 56, 56, 57, 57, 48, 57, 49, 57, 50, 57, 51, 57, 52, 57, 53, 57, 54, 57, 55, 57, 56, 57, 57]⟩ : ByteArray).size : Int))) <|
    some ((⟨#[48, 48, 48, 49, 48, 50, 48, 51, 48, 52, 48, 53, 48, 54, 48, 55, 48, 56, 48, 57, 49, 48, 49, 49, 49, 50, 49, 51, 49, 52, 49, 53, 49, 54, 49, 55, 49, 56, 49, 57, 50, 48, 50, 49, 50, 50, 50, 51, 50, 52, 50, 53, 50, 54, 50, 55, 50, 56, 50, 57, 51, 48, 51, 49, 51, 50, 51, 51, 51, 52, 51, 53, 51, 54, 51, 55, 51, 56, 51, 57, 52, 48, 52, 49, 52, 50, 52, 51, 52, 52, 52, 53, 52, 54, 52, 55, 52, 56, 52, 57, 53, 48, 53, 49, 53, 50, 53, 51, 53, 52, 53, 53, 53, 54, 53, 55, 53, 56, 53, 57, 54, 48, 54, 49, 54, 50, 54, 51, 54, 52, 54, 53, 54, 54, 54, 55, 54, 56, 54, 57, 55, 48, 55, 49, 55, 50, 55, 51, 55, 52, 55, 53, 55, 54, 55, 55, 55, 56, 55, 57, 56, 48, 56, 49, 56, 50, 56, 51, 56, 52, 56, 53, 56, 54, 56, 55, 56, 56, 56, 57, 57, 48, 57, 49, 57, 50, 57, 51, 57, 52, 57, 53, 57, 54, 57, 55, 57, 56, 57, 57]⟩ : ByteArray).extract (i * (2 : Int)).toNat ((i * (2 : Int)) + (2 : Int)).toNat)

noncomputable def F_internal_strconv_FormatInt (i : Int) (base : Int) : Option ByteArray :=
  bif (base == (10 : Int)) then
    Option.bind (bif decide ((0 : Int) ≤ i) then
      some (decide (i < (100 : Int)))
    else
      some false
    ) fun s2 =>
    bif s2 then
      Option.bind (F_internal_strconv_small i) fun v5 =>
      some v5
    else
      none
  else
    none

noncomputable def F_internal_strconv_Itoa (i : Int) : Option ByteArray :=
  Option.bind (F_internal_strconv_FormatInt i (10 : Int)) fun v1 =>
  some v1

noncomputable def F_strconv_Itoa (i : Int) : Option ByteArray :=
  Option.bind (F_internal_strconv_Itoa i) fun v1 =>
  some v1

noncomputable def F_impl_instrText (x : Ximpl_Instr) : Option ByteArray :=
  gd (inK .i64 (x.Loc + (1 : Int))) <|
  gd (decide (0 ≤ x.Loc ∧ x.Loc ≤ (x.Loc + (1 : Int)) ∧ (x.Loc + (1 : Int)) ≤ ((⟨#[120, 121, 122]⟩ : ByteArray).size : Int))) <|
  gd (inK .i64 (x.Reg + (1 : Int))) <|
  gd (decide (0 ≤ x.Reg ∧ x.Reg ≤ (x.Reg + (1 : Int)) ∧ (x.Reg + (1 : Int)) ≤ ((⟨#[97, 98, 99]⟩ : ByteArray).size : Int))) <|
  gd (inK .i64 (x.Val + (1 : Int))) <|
  gd (decide (0 ≤ x.Val ∧ x.Val ≤ (x.Val + (1 : Int)) ∧ (x.Val + (1 : Int)) ≤ ((⟨#[48, 49, 50, 51, 52, 53, 54, 55, 56, 57]⟩ : ByteArray).size : Int))) <|
  bif (x.Op == (1 : Int)) then
    gd (decide (((⟨#[97, 98, 99]⟩ : ByteArray).extract x.Reg.toNat (x.Reg + (1 : Int)).toNat).size + (⟨#[61]⟩ : ByteArray).size ≤ 9223372036854775807)) <|
    gd (decide ((((⟨#[97, 98, 99]⟩ : ByteArray).extract x.Reg.toNat (x.Reg + (1 : Int)).toNat) ++ (⟨#[61]⟩ : ByteArray)).size + ((⟨#[120, 121, 122]⟩ : ByteArray).extract x.Loc.toNat (x.Loc + (1 : Int)).toNat).size ≤ 9223372036854775807)) <|
    some ((((⟨#[97, 98, 99]⟩ : ByteArray).extract x.Reg.toNat (x.Reg + (1 : Int)).toNat) ++ (⟨#[61]⟩ : ByteArray)) ++ ((⟨#[120, 121, 122]⟩ : ByteArray).extract x.Loc.toNat (x.Loc + (1 : Int)).toNat))
  else
    bif (x.Op == (2 : Int)) then
      gd (decide (((⟨#[120, 121, 122]⟩ : ByteArray).extract x.Loc.toNat (x.Loc + (1 : Int)).toNat).size + (⟨#[61]⟩ : ByteArray).size ≤ 9223372036854775807)) <|
      gd (decide ((((⟨#[120, 121, 122]⟩ : ByteArray).extract x.Loc.toNat (x.Loc + (1 : Int)).toNat) ++ (⟨#[61]⟩ : ByteArray)).size + ((⟨#[48, 49, 50, 51, 52, 53, 54, 55, 56, 57]⟩ : ByteArray).extract x.Val.toNat (x.Val + (1 : Int)).toNat).size ≤ 9223372036854775807)) <|
      some ((((⟨#[120, 121, 122]⟩ : ByteArray).extract x.Loc.toNat (x.Loc + (1 : Int)).toNat) ++ (⟨#[61]⟩ : ByteArray)) ++ ((⟨#[48, 49, 50, 51, 52, 53, 54, 55, 56, 57]⟩ : ByteArray).extract x.Val.toNat (x.Val + (1 : Int)).toNat))
    else
      bif (x.Op == (3 : Int)) then
        gd (decide (((⟨#[120, 121, 122]⟩ : ByteArray).extract x.Loc.toNat (x.Loc + (1 : Int)).toNat).size + (⟨#[61]⟩ : ByteArray).size ≤ 9223372036854775807)) <|
        gd (decide ((((⟨#[120, 121, 122]⟩ : ByteArray).extract x.Loc.toNat (x.Loc + (1 : Int)).toNat) ++ (⟨#[61]⟩ : ByteArray)).size + ((⟨#[97, 98, 99]⟩ : ByteArray).extract x.Reg.toNat (x.Reg + (1 : Int)).toNat).size ≤ 9223372036854775807)) <|
        some ((((⟨#[120, 121, 122]⟩ : ByteArray).extract x.Loc.toNat (x.Loc + (1 : Int)).toNat) ++ (⟨#[61]⟩ : ByteArray)) ++ ((⟨#[97, 98, 99]⟩ : ByteArray).extract x.Reg.toNat (x.Reg + (1 : Int)).toNat))
      else
        bif (x.Op == (5 : Int)) then
          gd (decide (((⟨#[97, 98, 99]⟩ : ByteArray).extract x.Reg.toNat (x.Reg + (1 : Int)).toNat).size + (⟨#[61]⟩ : ByteArray).size ≤ 9223372036854775807)) <|
          gd (decide ((((⟨#[97, 98, 99]⟩ : ByteArray).extract x.Reg.toNat (x.Reg + (1 : Int)).toNat) ++ (⟨#[61]⟩ : ByteArray)).size + ((⟨#[120, 121, 122]⟩ : ByteArray).extract x.Loc.toNat (x.Loc + (1 : Int)).toNat).size ≤ 9223372036854775807)) <|
          gd (decide (((((⟨#[97, 98, 99]⟩ : ByteArray).extract x.Reg.toNat (x.Reg + (1 : Int)).toNat) ++ (⟨#[61]⟩ : ByteArray)) ++ ((⟨#[120, 121, 122]⟩ : ByteArray).extract x.Loc.toNat (x.Loc + (1 : Int)).toNat)).size + (⟨#[58]⟩ : ByteArray).size ≤ 9223372036854775807)) <|
          gd (decide ((((((⟨#[97, 98, 99]⟩ : ByteArray).extract x.Reg.toNat (x.Reg + (1 : Int)).toNat) ++ (⟨#[61]⟩ : ByteArray)) ++ ((⟨#[120, 121, 122]⟩ : ByteArray).extract x.Loc.toNat (x.Loc + (1 : Int)).toNat)) ++ (⟨#[58]⟩ : ByteArray)).size + ((⟨#[48, 49, 50, 51, 52, 53, 54, 55, 56, 57]⟩ : ByteArray).extract x.Val.toNat (x.Val + (1 : Int)).toNat).size ≤ 9223372036854775807)) <|
          some ((((((⟨#[97, 98, 99]⟩ : ByteArray).extract x.Reg.toNat (x.Reg + (1 : Int)).toNat) ++ (⟨#[61]⟩ : ByteArray)) ++ ((⟨#[120, 121, 122]⟩ : ByteArray).extract x.Loc.toNat (x.Loc + (1 : Int)).toNat)) ++ (⟨#[58]⟩ : ByteArray)) ++ ((⟨#[48, 49, 50, 51, 52, 53, 54, 55, 56, 57]⟩ : ByteArray).extract x.Val.toNat (x.Val + (1 : Int)).toNat))
        else
          some (⟨#[102, 101, 110, 99, 101]⟩ : ByteArray)

noncomputable def F_impl_eventText (p : List (List Ximpl_Instr)) (e_ : Ximpl_Event) : Option ByteArray :=
  bif decide (e_.Thread < (0 : Int)) then
    gd (inK .i64 (e_.Loc + (1 : Int))) <|
    gd (decide (0 ≤ e_.Loc ∧ e_.Loc ≤ (e_.Loc + (1 : Int)) ∧ (e_.Loc + (1 : Int)) ≤ ((⟨#[120, 121, 122]⟩ : ByteArray).size : Int))) <|
    gd (decide ((⟨#[102, 105, 114, 115, 116, 32]⟩ : ByteArray).size + ((⟨#[120, 121, 122]⟩ : ByteArray).extract e_.Loc.toNat (e_.Loc + (1 : Int)).toNat).size ≤ 9223372036854775807)) <|
    some ((⟨#[102, 105, 114, 115, 116, 32]⟩ : ByteArray) ++ ((⟨#[120, 121, 122]⟩ : ByteArray).extract e_.Loc.toNat (e_.Loc + (1 : Int)).toNat))
  else
    Option.bind (F_strconv_Itoa e_.Thread) fun v5 =>
    gd (decide (v5.size + (⟨#[58]⟩ : ByteArray).size ≤ 9223372036854775807)) <|
    gd (decide (0 ≤ e_.Thread ∧ e_.Thread < (p.length : Int))) <|
    gd (decide (0 ≤ e_.Index ∧ e_.Index < ((p.getD e_.Thread.toNat default).length : Int))) <|
    Option.bind (F_impl_instrText ((p.getD e_.Thread.toNat default).getD e_.Index.toNat default)) fun v9 =>
    gd (decide ((v5 ++ (⟨#[58]⟩ : ByteArray)).size + v9.size ≤ 9223372036854775807)) <|
    some ((v5 ++ (⟨#[58]⟩ : ByteArray)) ++ v9)

noncomputable def F_impl_EventText (p : List (List Ximpl_Instr)) (i : Int) : Option ByteArray :=
  Option.bind (F_impl_EventsOf p) fun v1 =>
  gd (inK .i64 ((v1.length : Int) - (1 : Int))) <|
  Option.bind (F_impl_within i (0 : Int) ((v1.length : Int) - (1 : Int))) fun v3 =>
  bif !v3 then
    some (⟨#[]⟩ : ByteArray)
  else
    gd (decide (0 ≤ i ∧ i < (v1.length : Int))) <|
    Option.bind (F_impl_eventText p (v1.getD i.toNat default)) fun v6 =>
    some v6

noncomputable def F_spec_l1Reads (x : Ximpl_Instr) : Option Bool :=
  Option.bind (bif (x.Op == (1 : Int)) then
    some true
  else
    some (x.Op == (5 : Int))
  ) fun s1 =>
  some s1

noncomputable def F_spec_l1Writes (x : Ximpl_Instr) : Option Bool :=
  Option.bind (bif (x.Op == (2 : Int)) then
    some true
  else
    some (x.Op == (3 : Int))
  ) fun s1 =>
  Option.bind (bif s1 then
    some true
  else
    some (x.Op == (5 : Int))
  ) fun s3 =>
  some s3

noncomputable def F_spec_l6Events_L4  : ((List Ximpl_Event) × Int) → Option (((List Ximpl_Event) × Int) ⊕ (List Ximpl_Event)) := fun s3 =>
  bif decide (s3.2 ≤ (2 : Int)) then
    gd (capOK (s3.1.length + 1) 32) <|
    gd (inK .i64 (s3.2 + (1 : Int))) <|
    some (.inl ((s3.1 ++ [(⟨(-1 : Int), s3.2, s3.2, false, true⟩ : Ximpl_Event)]), (s3.2 + (1 : Int))))
  else
    some (.inr s3.1)

noncomputable def F_spec_l6Events_L19 (p : List (List Ximpl_Instr)) (s12 : (List Ximpl_Event) × Int) : ((List Ximpl_Event) × Int) → Option (((List Ximpl_Event) × Int) ⊕ (List Ximpl_Event)) := fun s18 =>
  gd (decide (0 ≤ s12.2 ∧ s12.2 < (p.length : Int))) <|
  bif decide (s18.2 < ((p.getD s12.2.toNat default).length : Int)) then
    Option.bind (
      gd (decide (0 ≤ s18.2 ∧ s18.2 < ((p.getD s12.2.toNat default).length : Int))) <|
      bif ((((p.getD s12.2.toNat default).getD s18.2.toNat default).Op) != (4 : Int)) then
        Option.bind (F_spec_l1Reads (⟨((p.getD s12.2.toNat default).getD s18.2.toNat default).Op, ((p.getD s12.2.toNat default).getD s18.2.toNat default).Loc, ((p.getD s12.2.toNat default).getD s18.2.toNat default).Reg, ((p.getD s12.2.toNat default).getD s18.2.toNat default).Val⟩ : Ximpl_Instr)) fun v26 =>
        Option.bind (F_spec_l1Writes (⟨((p.getD s12.2.toNat default).getD s18.2.toNat default).Op, ((p.getD s12.2.toNat default).getD s18.2.toNat default).Loc, ((p.getD s12.2.toNat default).getD s18.2.toNat default).Reg, ((p.getD s12.2.toNat default).getD s18.2.toNat default).Val⟩ : Ximpl_Instr)) fun v27 =>
        gd (capOK (s18.1.length + 1) 32) <|
        some (s18.1 ++ [(⟨s12.2, s18.2, ((p.getD s12.2.toNat default).getD s18.2.toNat default).Loc, v26, v27⟩ : Ximpl_Event)])
      else
        some s18.1
    ) fun s23 =>
    gd (inK .i64 (s18.2 + (1 : Int))) <|
    some (.inl (s23, (s18.2 + (1 : Int))))
  else
    some (.inr s18.1)

noncomputable def F_spec_l6Events_L13 (p : List (List Ximpl_Instr)) : ((List Ximpl_Event) × Int) → Option (((List Ximpl_Event) × Int) ⊕ (List Ximpl_Event)) := fun s12 =>
  bif decide (s12.2 < (p.length : Int)) then
    Option.bind (
      loopO (F_spec_l6Events_L19 p s12) (s12.1, (0 : Int))
    ) fun s16 =>
    gd (inK .i64 (s12.2 + (1 : Int))) <|
    some (.inl (s16, (s12.2 + (1 : Int))))
  else
    some (.inr s12.1)

noncomputable def F_spec_l6Events (p : List (List Ximpl_Instr)) : Option (List Ximpl_Event) :=
  Option.bind (
    loopO F_spec_l6Events_L4 (([] : List Ximpl_Event), (0 : Int))
  ) fun s1 =>
  Option.bind (
    loopO (F_spec_l6Events_L13 p) (s1, (0 : Int))
  ) fun s10 =>
  some s10

noncomputable def F_spec_EventsOf (p : List (List Ximpl_Instr)) : Option (List Ximpl_Event) :=
  Option.bind (F_spec_ProgramValid p) fun v1 =>
  bif !v1 then
    some ([] : List Ximpl_Event)
  else
    Option.bind (F_spec_l6Events p) fun v3 =>
    some v3

noncomputable def F_spec_l15Event (p : List (List Ximpl_Instr)) (e_ : Ximpl_Event) : Option ByteArray :=
  bif decide (e_.Thread < (0 : Int)) then
    Option.bind (F_spec_l1Letter (120 : Int) e_.Loc) fun v2 =>
    gd (decide ((⟨#[102, 105, 114, 115, 116, 32]⟩ : ByteArray).size + v2.size ≤ 9223372036854775807)) <|
    some ((⟨#[102, 105, 114, 115, 116, 32]⟩ : ByteArray) ++ v2)
  else
    Option.bind (F_spec_l17Dec e_.Thread) fun v4 =>
    gd (decide (v4.size + (⟨#[58]⟩ : ByteArray).size ≤ 9223372036854775807)) <|
    gd (decide (0 ≤ e_.Thread ∧ e_.Thread < (p.length : Int))) <|
    gd (decide (0 ≤ e_.Index ∧ e_.Index < ((p.getD e_.Thread.toNat default).length : Int))) <|
    Option.bind (F_spec_l1Text ((p.getD e_.Thread.toNat default).getD e_.Index.toNat default)) fun v8 =>
    gd (decide ((v4 ++ (⟨#[58]⟩ : ByteArray)).size + v8.size ≤ 9223372036854775807)) <|
    some ((v4 ++ (⟨#[58]⟩ : ByteArray)) ++ v8)

noncomputable def F_spec_EventText (p : List (List Ximpl_Instr)) (i : Int) : Option ByteArray :=
  Option.bind (F_spec_EventsOf p) fun v1 =>
  Option.bind (bif decide (i < (0 : Int)) then
    some true
  else
    some (decide ((v1.length : Int) ≤ i))
  ) fun s2 =>
  bif s2 then
    some (⟨#[]⟩ : ByteArray)
  else
    gd (decide (0 ≤ i ∧ i < (v1.length : Int))) <|
    Option.bind (F_spec_l15Event p (v1.getD i.toNat default)) fun v6 =>
    some v6

noncomputable def F_impl_InstrValid (x : Ximpl_Instr) : Option Bool :=
  sumK (
    Option.bind (
      bif (x.Op == (1 : Int)) then
        some (x.Op == (1 : Int))
      else
        some (x.Op == (3 : Int))
    ) fun s2 =>
    bif s2 then
      some (.inl (x.Loc, x.Reg, (0 : Int)))
    else
      bif (x.Op == (2 : Int)) then
        some (.inl (x.Loc, (0 : Int), x.Val))
      else
        bif (x.Op == (4 : Int)) then
          some (.inl ((0 : Int), (0 : Int), (0 : Int)))
        else
          bif (x.Op == (5 : Int)) then
            some (.inl (x.Loc, x.Reg, x.Val))
          else
            some (.inr false)
  ) fun s1 =>
  Option.bind (bif (x.Op == x.Op && (x.Loc == s1.1 && (x.Reg == s1.2.1 && (x.Val == s1.2.2 && true)))) then
    Option.bind (F_impl_within x.Loc (0 : Int) (2 : Int)) fun v10 =>
    some v10
  else
    some false
  ) fun s8 =>
  Option.bind (bif s8 then
    Option.bind (F_impl_within x.Reg (0 : Int) (2 : Int)) fun v13 =>
    some v13
  else
    some false
  ) fun s11 =>
  Option.bind (bif s11 then
    Option.bind (F_impl_within x.Val (0 : Int) (3 : Int)) fun v16 =>
    some v16
  else
    some false
  ) fun s14 =>
  some s14

noncomputable def F_impl_FormatInstr (x : Ximpl_Instr) : Option ByteArray :=
  Option.bind (F_impl_InstrValid x) fun v1 =>
  bif !v1 then
    some (⟨#[]⟩ : ByteArray)
  else
    Option.bind (F_impl_instrText x) fun v3 =>
    some v3
end Go.Proofs.YtjogdblionfmiaaDoor
