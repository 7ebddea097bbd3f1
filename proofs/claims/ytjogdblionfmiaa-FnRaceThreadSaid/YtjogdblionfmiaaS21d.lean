/-
  Functions over plain values, as the program's code computes; printed by lift.py. No conditions.
-/
import Derived.Test.YtjogdblionfmiaaSt
import Derived.Test.YtjogdblionfmiaaBrDid
import Derived.Test.YtjogdblionfmiaaBrVd
import Derived.Test.YtjogdblionfmiaaMud
import Derived.Test.YtjogdblionfmiaaSQd
import Derived.Test.YtjogdblionfmiaaSRd
namespace Go.Proofs.Ytjogdblionfmiaa
open Go.RowKit
set_option maxRecDepth 100000
noncomputable def F_spec_l9Gaps_L10 (p : List (List Ximpl_Instr)) (s3 : (List Ximpl_Gap) × Int) : ((List Ximpl_Gap) × Int) → Option (((List Ximpl_Gap) × Int) ⊕ (List Ximpl_Gap)) := fun s9 =>
  gd (decide (0 ≤ s3.2 ∧ s3.2 < (p.length : Int))) <|
  bif decide (s9.2 < ((p.getD s3.2.toNat default).length : Int)) then
    Option.bind (
      gd (inK .i64 (s9.2 - (1 : Int))) <|
      gd (decide (0 ≤ (s9.2 - (1 : Int)) ∧ (s9.2 - (1 : Int)) < ((p.getD s3.2.toNat default).length : Int))) <|
      Option.bind (bif ((((p.getD s3.2.toNat default).getD (s9.2 - (1 : Int)).toNat default).Op) != (4 : Int)) then
        gd (decide (0 ≤ s9.2 ∧ s9.2 < ((p.getD s3.2.toNat default).length : Int))) <|
        some ((((p.getD s3.2.toNat default).getD s9.2.toNat default).Op) != (4 : Int))
      else
        some false
      ) fun s17 =>
      bif s17 then
        gd (capOK (s9.1.length + 1) 16) <|
        some (s9.1 ++ [(⟨s3.2, s9.2⟩ : Ximpl_Gap)])
      else
        some s9.1
    ) fun s14 =>
    gd (inK .i64 (s9.2 + (1 : Int))) <|
    some (.inl (s14, (s9.2 + (1 : Int))))
  else
    some (.inr s9.1)

noncomputable def F_spec_l9Gaps_L4 (p : List (List Ximpl_Instr)) : ((List Ximpl_Gap) × Int) → Option (((List Ximpl_Gap) × Int) ⊕ (List Ximpl_Gap)) := fun s3 =>
  bif decide (s3.2 < (p.length : Int)) then
    Option.bind (
      loopO (F_spec_l9Gaps_L10 p s3) (s3.1, (1 : Int))
    ) fun s7 =>
    gd (inK .i64 (s3.2 + (1 : Int))) <|
    some (.inl (s7, (s3.2 + (1 : Int))))
  else
    some (.inr s3.1)

noncomputable def F_spec_l9Gaps (p : List (List Ximpl_Instr)) : Option (List Ximpl_Gap) :=
  Option.bind (
    loopO (F_spec_l9Gaps_L4 p) (([] : List Ximpl_Gap), (0 : Int))
  ) fun s1 =>
  some s1

noncomputable def F_spec_l9Draw (r_ : Xspec_l17Rd) : Option (Xspec_l17Rd × (List (List Ximpl_Instr))) :=
  Option.bind (F_spec_l8Small (⟨r_.b, r_.p⟩ : Xspec_l17Rd)) fun v1 =>
  Option.bind (F_spec_l9Gaps v1.2) fun v2 =>
  bif decide ((5 : Int) < (v2.length : Int)) then
    Option.bind (F_spec_l17Rd_of (⟨v1.1.b, v1.1.p⟩ : Xspec_l17Rd) ([(⟨#[120, 61, 49, 59, 97, 61, 121, 124, 121, 61, 49, 59, 97, 61, 120]⟩ : ByteArray), (⟨#[120, 61, 49, 59, 121, 61, 49, 124, 97, 61, 121, 59, 98, 61, 120]⟩ : ByteArray), (⟨#[120, 61, 49, 59, 102, 101, 110, 99, 101, 59, 97, 61, 121, 124, 121, 61, 49, 59, 102, 101, 110, 99, 101, 59, 97, 61, 120]⟩ : ByteArray)] : List ByteArray)) fun v4 =>
    Option.bind (F_spec_ParseProgram v4.2) fun v5 =>
    some ((⟨v4.1.b, v4.1.p⟩ : Xspec_l17Rd), v5.1)
  else
    some ((⟨v1.1.b, v1.1.p⟩ : Xspec_l17Rd), v1.2)

noncomputable def F_spec_l10Draw (r_ : Xspec_l17Rd) : Option (Xspec_l17Rd × (List (List Ximpl_Instr))) :=
  Option.bind (F_spec_l17Rd_pick (⟨r_.b, r_.p⟩ : Xspec_l17Rd) (2 : Int)) fun v1 =>
  bif (v1.2 == (0 : Int)) then
    Option.bind (F_spec_l17Rd_pick (⟨v1.1.b, v1.1.p⟩ : Xspec_l17Rd) (([(⟨#[97, 61, 120, 58, 49, 59, 121, 61, 49, 124, 98, 61, 120, 58, 50]⟩ : ByteArray), (⟨#[120, 61, 49, 59, 120, 61, 50, 124, 121, 61, 49, 59, 97, 61, 121]⟩ : ByteArray), (⟨#[97, 61, 122, 58, 49, 124, 98, 61, 122, 58, 50, 124, 99, 61, 122, 58, 51]⟩ : ByteArray), (⟨#[97, 61, 120, 124, 98, 61, 120]⟩ : ByteArray), (⟨#[120, 61, 49, 59, 97, 61, 120, 58, 50, 124, 98, 61, 121, 59, 121, 61, 51]⟩ : ByteArray), (⟨#[97, 61, 120, 58, 49, 59, 98, 61, 121, 58, 49, 124, 97, 61, 121, 58, 50, 59, 98, 61, 120, 58, 50]⟩ : ByteArray)] : List ByteArray).length : Int)) fun v3 =>
    gd (decide (0 ≤ v3.2 ∧ v3.2 < (([(⟨#[97, 61, 120, 58, 49, 59, 121, 61, 49, 124, 98, 61, 120, 58, 50]⟩ : ByteArray), (⟨#[120, 61, 49, 59, 120, 61, 50, 124, 121, 61, 49, 59, 97, 61, 121]⟩ : ByteArray), (⟨#[97, 61, 122, 58, 49, 124, 98, 61, 122, 58, 50, 124, 99, 61, 122, 58, 51]⟩ : ByteArray), (⟨#[97, 61, 120, 124, 98, 61, 120]⟩ : ByteArray), (⟨#[120, 61, 49, 59, 97, 61, 120, 58, 50, 124, 98, 61, 121, 59, 121, 61, 51]⟩ : ByteArray), (⟨#[97, 61, 120, 58, 49, 59, 98, 61, 121, 58, 49, 124, 97, 61, 121, 58, 50, 59, 98, 61, 120, 58, 50]⟩ : ByteArray)] : List ByteArray).length : Int))) <|
    Option.bind (F_spec_ParseProgram (([(⟨#[97, 61, 120, 58, 49, 59, 121, 61, 49, 124, 98, 61, 120, 58, 50]⟩ : ByteArray), (⟨#[120, 61, 49, 59, 120, 61, 50, 124, 121, 61, 49, 59, 97, 61, 121]⟩ : ByteArray), (⟨#[97, 61, 122, 58, 49, 124, 98, 61, 122, 58, 50, 124, 99, 61, 122, 58, 51]⟩ : ByteArray), (⟨#[97, 61, 120, 124, 98, 61, 120]⟩ : ByteArray), (⟨#[120, 61, 49, 59, 97, 61, 120, 58, 50, 124, 98, 61, 121, 59, 121, 61, 51]⟩ : ByteArray), (⟨#[97, 61, 120, 58, 49, 59, 98, 61, 121, 58, 49, 124, 97, 61, 121, 58, 50, 59, 98, 61, 120, 58, 50]⟩ : ByteArray)] : List ByteArray).getD v3.2.toNat default)) fun v5 =>
    some ((⟨v3.1.b, v3.1.p⟩ : Xspec_l17Rd), v5.1)
  else
    Option.bind (F_spec_l9Draw (⟨v1.1.b, v1.1.p⟩ : Xspec_l17Rd)) fun v6 =>
    some ((⟨v6.1.b, v6.1.p⟩ : Xspec_l17Rd), v6.2)

noncomputable def F_spec_DrawRacesOf (code : List Int) : Option (List (List Ximpl_Instr)) :=
  Option.bind (F_spec_l17Open code) fun v1 =>
  Option.bind (F_spec_l10Draw (⟨v1.b, v1.p⟩ : Xspec_l17Rd)) fun v2 =>
  Option.bind (F_spec_l1Mutate (⟨v2.1.b, v2.1.p⟩ : Xspec_l17Rd) v2.2) fun v3 =>
  some v3.2

noncomputable def F_impl_instrs_L17 (p : List (List Ximpl_Instr)) (s5 : (List Ximpl_Gap) × Int) : ((List Ximpl_Gap) × Int) → Option (((List Ximpl_Gap) × Int) ⊕ (List Ximpl_Gap)) := fun s16 =>
  bif decide (s16.2 < ((p.getD s5.2.toNat default).length : Int)) then
    gd (capOK (s16.1.length + 1) 16) <|
    gd (inK .i64 (s16.2 + (1 : Int))) <|
    some (.inl ((s16.1 ++ [(⟨s5.2, s16.2⟩ : Ximpl_Gap)]), (s16.2 + (1 : Int))))
  else
    some (.inr s16.1)

noncomputable def F_impl_instrs_L6 (p : List (List Ximpl_Instr)) : ((List Ximpl_Gap) × Int) → Option (((List Ximpl_Gap) × Int) ⊕ (List Ximpl_Gap)) := fun s5 =>
  bif decide (s5.2 < (p.length : Int)) then
    Option.bind (
      gd (decide (0 ≤ s5.2 ∧ s5.2 < (p.length : Int))) <|
      loopO (F_impl_instrs_L17 p s5) (s5.1, (0 : Int))
    ) fun s11 =>
    gd (inK .i64 (s5.2 + (1 : Int))) <|
    some (.inl (s11, (s5.2 + (1 : Int))))
  else
    some (.inr s5.1)

noncomputable def F_impl_instrs (p : List (List Ximpl_Instr)) : Option (List Ximpl_Gap) :=
  Option.bind (
    loopO (F_impl_instrs_L6 p) (([] : List Ximpl_Gap), (0 : Int))
  ) fun s1 =>
  some s1

noncomputable def F_impl_Instr_writes (x : Ximpl_Instr) : Option Bool :=
  Option.bind (bif (x.Op == (2 : Int)) then
    some true
  else
    some (x.Op == (3 : Int))
  ) fun s1 =>
  Option.bind (bif s1 then
    some true
  else
    some (x.Op == (5 : Int))
  ) fun s3 =>
  some s3

noncomputable def F_impl_conflict (x : Ximpl_Instr) (y : Ximpl_Instr) : Option Bool :=
  Option.bind (bif (x.Op != (4 : Int)) then
    some (y.Op != (4 : Int))
  else
    some false
  ) fun s1 =>
  Option.bind (bif s1 then
    some (x.Loc == y.Loc)
  else
    some false
  ) fun s3 =>
  Option.bind (bif s3 then
    Option.bind (F_impl_Instr_writes x) fun v7 =>
    Option.bind (bif v7 then
      some true
    else
      Option.bind (F_impl_Instr_writes y) fun v10 =>
      some v10
    ) fun s8 =>
    some s8
  else
    some false
  ) fun s5 =>
  some s5

noncomputable def F_impl_RacesOf_L21 (p : List (List Ximpl_Instr)) (v4 : (List Ximpl_Gap)) (s8 : (List Ximpl_Race) × Int) (v16 : (List Ximpl_Gap)) : ((List Ximpl_Race) × Int) → Option (((List Ximpl_Race) × Int) ⊕ (List Ximpl_Race)) := fun s20 =>
  bif decide (s20.2 < (v16.length : Int)) then
    Option.bind (
      gd (decide (0 ≤ s20.2 ∧ s20.2 < (v16.length : Int))) <|
      gd (decide (0 ≤ (v4.getD s8.2.toNat default).Thread ∧ (v4.getD s8.2.toNat default).Thread < (p.length : Int))) <|
      gd (decide (0 ≤ (v4.getD s8.2.toNat default).Index ∧ (v4.getD s8.2.toNat default).Index < ((p.getD ((v4.getD s8.2.toNat default).Thread).toNat default).length : Int))) <|
      gd (decide (0 ≤ (v16.getD s20.2.toNat default).Thread ∧ (v16.getD s20.2.toNat default).Thread < (p.length : Int))) <|
      gd (decide (0 ≤ (v16.getD s20.2.toNat default).Index ∧ (v16.getD s20.2.toNat default).Index < ((p.getD ((v16.getD s20.2.toNat default).Thread).toNat default).length : Int))) <|
      Option.bind (bif decide (((v4.getD s8.2.toNat default).Thread) < ((v16.getD s20.2.toNat default).Thread)) then
        Option.bind (F_impl_conflict (⟨((p.getD ((v4.getD s8.2.toNat default).Thread).toNat default).getD ((v4.getD s8.2.toNat default).Index).toNat default).Op, ((p.getD ((v4.getD s8.2.toNat default).Thread).toNat default).getD ((v4.getD s8.2.toNat default).Index).toNat default).Loc, ((p.getD ((v4.getD s8.2.toNat default).Thread).toNat default).getD ((v4.getD s8.2.toNat default).Index).toNat default).Reg, ((p.getD ((v4.getD s8.2.toNat default).Thread).toNat default).getD ((v4.getD s8.2.toNat default).Index).toNat default).Val⟩ : Ximpl_Instr) (⟨((p.getD ((v16.getD s20.2.toNat default).Thread).toNat default).getD ((v16.getD s20.2.toNat default).Index).toNat default).Op, ((p.getD ((v16.getD s20.2.toNat default).Thread).toNat default).getD ((v16.getD s20.2.toNat default).Index).toNat default).Loc, ((p.getD ((v16.getD s20.2.toNat default).Thread).toNat default).getD ((v16.getD s20.2.toNat default).Index).toNat default).Reg, ((p.getD ((v16.getD s20.2.toNat default).Thread).toNat default).getD ((v16.getD s20.2.toNat default).Index).toNat default).Val⟩ : Ximpl_Instr)) fun v34 =>
        some v34
      else
        some false
      ) fun s32 =>
      Option.bind (bif s32 then
        Option.bind (bif ((((p.getD ((v4.getD s8.2.toNat default).Thread).toNat default).getD ((v4.getD s8.2.toNat default).Index).toNat default).Op) != (5 : Int)) then
          some true
        else
          some ((((p.getD ((v16.getD s20.2.toNat default).Thread).toNat default).getD ((v16.getD s20.2.toNat default).Index).toNat default).Op) != (5 : Int))
        ) fun s37 =>
        some s37
      else
        some false
      ) fun s35 =>
      bif s35 then
        gd (capOK (s20.1.length + 1) 32) <|
        some (s20.1 ++ [(⟨(⟨(v4.getD s8.2.toNat default).Thread, (v4.getD s8.2.toNat default).Index⟩ : Ximpl_Gap), (⟨(v16.getD s20.2.toNat default).Thread, (v16.getD s20.2.toNat default).Index⟩ : Ximpl_Gap)⟩ : Ximpl_Race)])
      else
        some s20.1
    ) fun s26 =>
    gd (inK .i64 (s20.2 + (1 : Int))) <|
    some (.inl (s26, (s20.2 + (1 : Int))))
  else
    some (.inr s20.1)

noncomputable def F_impl_RacesOf_L9 (p : List (List Ximpl_Instr)) (v4 : (List Ximpl_Gap)) : ((List Ximpl_Race) × Int) → Option (((List Ximpl_Race) × Int) ⊕ (List Ximpl_Race)) := fun s8 =>
  bif decide (s8.2 < (v4.length : Int)) then
    Option.bind (
      gd (decide (0 ≤ s8.2 ∧ s8.2 < (v4.length : Int))) <|
      Option.bind (F_impl_instrs p) fun v16 =>
      loopO (F_impl_RacesOf_L21 p v4 s8 v16) (s8.1, (0 : Int))
    ) fun s14 =>
    gd (inK .i64 (s8.2 + (1 : Int))) <|
    some (.inl (s14, (s8.2 + (1 : Int))))
  else
    some (.inr s8.1)

noncomputable def F_impl_RacesOf (p : List (List Ximpl_Instr)) : Option (List Ximpl_Race) :=
  Option.bind (F_impl_ProgramValid p) fun v1 =>
  bif !v1 then
    some ([] : List Ximpl_Race)
  else
    Option.bind (
      Option.bind (F_impl_instrs p) fun v4 =>
      loopO (F_impl_RacesOf_L9 p v4) (([] : List Ximpl_Race), (0 : Int))
    ) fun s3 =>
    some s3

noncomputable def F_spec_l10Conflict (a : Ximpl_Instr) (b : Ximpl_Instr) : Option Bool :=
  Option.bind (bif (a.Op != (4 : Int)) then
    some (b.Op != (4 : Int))
  else
    some false
  ) fun s1 =>
  Option.bind (bif s1 then
    some (a.Loc == b.Loc)
  else
    some false
  ) fun s3 =>
  Option.bind (bif s3 then
    Option.bind (F_spec_l1Writes a) fun v7 =>
    Option.bind (bif v7 then
      some true
    else
      Option.bind (F_spec_l1Writes b) fun v10 =>
      some v10
    ) fun s8 =>
    some s8
  else
    some false
  ) fun s5 =>
  some s5

noncomputable def F_spec_l10Plain (x : Ximpl_Instr) : Option Bool :=
  some (x.Op != (5 : Int))

noncomputable def F_spec_RacesOf_L27 (p : List (List Ximpl_Instr)) (s3 : (List Ximpl_Race) × Int) (s12 : (List Ximpl_Race) × Int) (s20 : (List Ximpl_Race) × Int) : ((List Ximpl_Race) × Int) → Option (((List Ximpl_Race) × Int) ⊕ (List Ximpl_Race)) := fun s26 =>
  gd (decide (0 ≤ s20.2 ∧ s20.2 < (p.length : Int))) <|
  bif decide (s26.2 < ((p.getD s20.2.toNat default).length : Int)) then
    Option.bind (
      Option.bind (
        gd (decide (0 ≤ s12.2 ∧ s12.2 < ((p.getD s3.2.toNat default).length : Int))) <|
        gd (decide (0 ≤ s26.2 ∧ s26.2 < ((p.getD s20.2.toNat default).length : Int))) <|
        Option.bind (F_spec_l10Conflict ((p.getD s3.2.toNat default).getD s12.2.toNat default) ((p.getD s20.2.toNat default).getD s26.2.toNat default)) fun v35 =>
        bif v35 then
          Option.bind (F_spec_l10Plain ((p.getD s3.2.toNat default).getD s12.2.toNat default)) fun v37 =>
          bif v37 then
            some true
          else
            Option.bind (F_spec_l10Plain ((p.getD s20.2.toNat default).getD s26.2.toNat default)) fun v39 =>
            some v39
        else
          some false
      ) fun s32 =>
      bif s32 then
        gd (capOK (s26.1.length + 1) 32) <|
        some (s26.1 ++ [(⟨(⟨s3.2, s12.2⟩ : Ximpl_Gap), (⟨s20.2, s26.2⟩ : Ximpl_Gap)⟩ : Ximpl_Race)])
      else
        some s26.1
    ) fun s31 =>
    gd (inK .i64 (s26.2 + (1 : Int))) <|
    some (.inl (s31, (s26.2 + (1 : Int))))
  else
    some (.inr s26.1)

noncomputable def F_spec_RacesOf_L21 (p : List (List Ximpl_Instr)) (s3 : (List Ximpl_Race) × Int) (s12 : (List Ximpl_Race) × Int) : ((List Ximpl_Race) × Int) → Option (((List Ximpl_Race) × Int) ⊕ (List Ximpl_Race)) := fun s20 =>
  bif decide (s20.2 < (p.length : Int)) then
    Option.bind (
      loopO (F_spec_RacesOf_L27 p s3 s12 s20) (s20.1, (0 : Int))
    ) fun s24 =>
    gd (inK .i64 (s20.2 + (1 : Int))) <|
    some (.inl (s24, (s20.2 + (1 : Int))))
  else
    some (.inr s20.1)

noncomputable def F_spec_RacesOf_L13 (p : List (List Ximpl_Instr)) (s3 : (List Ximpl_Race) × Int) : ((List Ximpl_Race) × Int) → Option (((List Ximpl_Race) × Int) ⊕ (List Ximpl_Race)) := fun s12 =>
  gd (decide (0 ≤ s3.2 ∧ s3.2 < (p.length : Int))) <|
  bif decide (s12.2 < ((p.getD s3.2.toNat default).length : Int)) then
    Option.bind (
      gd (inK .i64 (s3.2 + (1 : Int))) <|
      loopO (F_spec_RacesOf_L21 p s3 s12) (s12.1, (s3.2 + (1 : Int)))
    ) fun s17 =>
    gd (inK .i64 (s12.2 + (1 : Int))) <|
    some (.inl (s17, (s12.2 + (1 : Int))))
  else
    some (.inr s12.1)

noncomputable def F_spec_RacesOf_L4 (p : List (List Ximpl_Instr)) : ((List Ximpl_Race) × Int) → Option (((List Ximpl_Race) × Int) ⊕ (List Ximpl_Race)) := fun s3 =>
  Option.bind (bif decide (s3.2 < (p.length : Int)) then
    Option.bind (F_spec_ProgramValid p) fun v8 =>
    some v8
  else
    some false
  ) fun s6 =>
  bif s6 then
    Option.bind (
      loopO (F_spec_RacesOf_L13 p s3) (s3.1, (0 : Int))
    ) fun s10 =>
    gd (inK .i64 (s3.2 + (1 : Int))) <|
    some (.inl (s10, (s3.2 + (1 : Int))))
  else
    some (.inr s3.1)

noncomputable def F_spec_RacesOf (p : List (List Ximpl_Instr)) : Option (List Ximpl_Race) :=
  Option.bind (
    loopO (F_spec_RacesOf_L4 p) (([] : List Ximpl_Race), (0 : Int))
  ) fun s1 =>
  some s1

noncomputable def F_impl_Instr_reads (x : Ximpl_Instr) : Option Bool :=
  Option.bind (bif (x.Op == (1 : Int)) then
    some true
  else
    some (x.Op == (5 : Int))
  ) fun s1 =>
  some s1

noncomputable def F_impl_events_L6  : ((List Ximpl_Event) × Int) → Option (((List Ximpl_Event) × Int) ⊕ (List Ximpl_Event)) := fun s5 =>
  bif decide (s5.2 < (3 : Int)) then
    gd (capOK (s5.1.length + 1) 32) <|
    gd (inK .i64 (s5.2 + (1 : Int))) <|
    some (.inl ((s5.1 ++ [(⟨(-1 : Int), s5.2, s5.2, false, true⟩ : Ximpl_Event)]), (s5.2 + (1 : Int))))
  else
    some (.inr s5.1)

noncomputable def F_impl_events_L32 (p : List (List Ximpl_Instr)) (s20 : (List Ximpl_Event) × Int) : ((List Ximpl_Event) × Int) → Option (((List Ximpl_Event) × Int) ⊕ (List Ximpl_Event)) := fun s31 =>
  bif decide (s31.2 < ((p.getD s20.2.toNat default).length : Int)) then
    Option.bind (
      gd (decide (0 ≤ s31.2 ∧ s31.2 < ((p.getD s20.2.toNat default).length : Int))) <|
      bif ((((p.getD s20.2.toNat default).getD s31.2.toNat default).Op) != (4 : Int)) then
        Option.bind (F_impl_Instr_reads (⟨((p.getD s20.2.toNat default).getD s31.2.toNat default).Op, ((p.getD s20.2.toNat default).getD s31.2.toNat default).Loc, ((p.getD s20.2.toNat default).getD s31.2.toNat default).Reg, ((p.getD s20.2.toNat default).getD s31.2.toNat default).Val⟩ : Ximpl_Instr)) fun v40 =>
        Option.bind (F_impl_Instr_writes (⟨((p.getD s20.2.toNat default).getD s31.2.toNat default).Op, ((p.getD s20.2.toNat default).getD s31.2.toNat default).Loc, ((p.getD s20.2.toNat default).getD s31.2.toNat default).Reg, ((p.getD s20.2.toNat default).getD s31.2.toNat default).Val⟩ : Ximpl_Instr)) fun v41 =>
        gd (capOK (s31.1.length + 1) 32) <|
        some (s31.1 ++ [(⟨s20.2, s31.2, ((p.getD s20.2.toNat default).getD s31.2.toNat default).Loc, v40, v41⟩ : Ximpl_Event)])
      else
        some s31.1
    ) fun s37 =>
    gd (inK .i64 (s31.2 + (1 : Int))) <|
    some (.inl (s37, (s31.2 + (1 : Int))))
  else
    some (.inr s31.1)

noncomputable def F_impl_events_L21 (p : List (List Ximpl_Instr)) : ((List Ximpl_Event) × Int) → Option (((List Ximpl_Event) × Int) ⊕ (List Ximpl_Event)) := fun s20 =>
  bif decide (s20.2 < (p.length : Int)) then
    Option.bind (
      gd (decide (0 ≤ s20.2 ∧ s20.2 < (p.length : Int))) <|
      loopO (F_impl_events_L32 p s20) (s20.1, (0 : Int))
    ) fun s26 =>
    gd (inK .i64 (s20.2 + (1 : Int))) <|
    some (.inl (s26, (s20.2 + (1 : Int))))
  else
    some (.inr s20.1)

noncomputable def F_impl_events (p : List (List Ximpl_Instr)) : Option (List Ximpl_Event) :=
  Option.bind (
    loopO F_impl_events_L6 (([] : List Ximpl_Event), (0 : Int))
  ) fun s1 =>
  Option.bind (
    loopO (F_impl_events_L21 p) (s1, (0 : Int))
  ) fun s16 =>
  some s16

noncomputable def F_impl_delayRel_1 (i : Int) (k_ : Int) (a2 : List Ximpl_Event) : Option Bool :=
  Option.bind (
    gd (decide (0 ≤ i ∧ i < (a2.length : Int))) <|
    bif decide ((0 : Int) ≤ ((a2.getD i.toNat default).Thread)) then
      gd (decide (0 ≤ k_ ∧ k_ < (a2.length : Int))) <|
      bif (((a2.getD i.toNat default).Thread) == ((a2.getD k_.toNat default).Thread)) then
        some (decide (((a2.getD i.toNat default).Index) < ((a2.getD k_.toNat default).Index)))
      else
        some false
    else
      some false
  ) fun s1 =>
  some s1

noncomputable def F_impl_pairsOf__impl_delayRel_1_L11 (n : Int) (is0 : List Ximpl_Event) (s4 : (List Int) × Int) : ((List Int) × Int) → Option (((List Int) × Int) ⊕ (List Int)) := fun s10 =>
  bif decide (s10.2 < n) then
    Option.bind (
      Option.bind (F_impl_delayRel_1 s4.2 s10.2 is0) fun v15 =>
      bif v15 then
        gd (decide (0 ≤ s4.2 ∧ s4.2 < (s10.1.length : Int))) <|
        gd (decide (0 ≤ s10.2)) <|
        some (s10.1.set s4.2.toNat (bOr .i64 (s10.1.getD s4.2.toNat default) (bShl .i64 (1 : Int) s10.2)))
      else
        some s10.1
    ) fun s14 =>
    gd (inK .i64 (s10.2 + (1 : Int))) <|
    some (.inl (s14, (s10.2 + (1 : Int))))
  else
    some (.inr s10.1)

noncomputable def F_impl_pairsOf__impl_delayRel_1_L5 (n : Int) (is0 : List Ximpl_Event) : ((List Int) × Int) → Option (((List Int) × Int) ⊕ (List Int)) := fun s4 =>
  bif decide (s4.2 < n) then
    Option.bind (
      loopO (F_impl_pairsOf__impl_delayRel_1_L11 n is0 s4) (s4.1, (0 : Int))
    ) fun s8 =>
    gd (inK .i64 (s4.2 + (1 : Int))) <|
    some (.inl (s8, (s4.2 + (1 : Int))))
  else
    some (.inr s4.1)

noncomputable def F_impl_pairsOf__impl_delayRel_1 (n : Int) (is0 : List Ximpl_Event) : Option (List Int) :=
  gd (decide (0 ≤ n ∧ n ≤ n ∧ n * ((8 : Nat) : Int) ≤ 140737488355328 ∧ n ≤ 140737488355328)) <|
  Option.bind (
    loopO (F_impl_pairsOf__impl_delayRel_1_L5 n is0) ((List.replicate n.toNat (default : Int)), (0 : Int))
  ) fun s2 =>
  some s2

noncomputable def F_impl_conflictRel_1 (i : Int) (k_ : Int) (a2 : List Ximpl_Event) (a3 : List (List Ximpl_Instr)) : Option Bool :=
  gd (decide (0 ≤ i ∧ i < (a2.length : Int))) <|
  gd (decide (0 ≤ k_ ∧ k_ < (a2.length : Int))) <|
  Option.bind (
    bif decide ((0 : Int) ≤ ((a2.getD i.toNat default).Thread)) then
      bif decide ((0 : Int) ≤ ((a2.getD k_.toNat default).Thread)) then
        bif (((a2.getD i.toNat default).Thread) != ((a2.getD k_.toNat default).Thread)) then
          gd (decide (0 ≤ (a2.getD i.toNat default).Thread ∧ (a2.getD i.toNat default).Thread < (a3.length : Int))) <|
          gd (decide (0 ≤ (a2.getD i.toNat default).Index ∧ (a2.getD i.toNat default).Index < ((a3.getD ((a2.getD i.toNat default).Thread).toNat default).length : Int))) <|
          gd (decide (0 ≤ (a2.getD k_.toNat default).Thread ∧ (a2.getD k_.toNat default).Thread < (a3.length : Int))) <|
          gd (decide (0 ≤ (a2.getD k_.toNat default).Index ∧ (a2.getD k_.toNat default).Index < ((a3.getD ((a2.getD k_.toNat default).Thread).toNat default).length : Int))) <|
          Option.bind (F_impl_conflict ((a3.getD ((a2.getD i.toNat default).Thread).toNat default).getD ((a2.getD i.toNat default).Index).toNat default) ((a3.getD ((a2.getD k_.toNat default).Thread).toNat default).getD ((a2.getD k_.toNat default).Index).toNat default)) fun v11 =>
          some v11
        else
          some false
      else
        some false
    else
      some false
  ) fun s3 =>
  some s3

noncomputable def F_impl_pairsOf__impl_conflictRel_1_L11 (n : Int) (is0 : List Ximpl_Event) (is1 : List (List Ximpl_Instr)) (s4 : (List Int) × Int) : ((List Int) × Int) → Option (((List Int) × Int) ⊕ (List Int)) := fun s10 =>
  bif decide (s10.2 < n) then
    Option.bind (
      Option.bind (F_impl_conflictRel_1 s4.2 s10.2 is0 is1) fun v15 =>
      bif v15 then
        gd (decide (0 ≤ s4.2 ∧ s4.2 < (s10.1.length : Int))) <|
        gd (decide (0 ≤ s10.2)) <|
        some (s10.1.set s4.2.toNat (bOr .i64 (s10.1.getD s4.2.toNat default) (bShl .i64 (1 : Int) s10.2)))
      else
        some s10.1
    ) fun s14 =>
    gd (inK .i64 (s10.2 + (1 : Int))) <|
    some (.inl (s14, (s10.2 + (1 : Int))))
  else
    some (.inr s10.1)

noncomputable def F_impl_pairsOf__impl_conflictRel_1_L5 (n : Int) (is0 : List Ximpl_Event) (is1 : List (List Ximpl_Instr)) : ((List Int) × Int) → Option (((List Int) × Int) ⊕ (List Int)) := fun s4 =>
  bif decide (s4.2 < n) then
    Option.bind (
      loopO (F_impl_pairsOf__impl_conflictRel_1_L11 n is0 is1 s4) (s4.1, (0 : Int))
    ) fun s8 =>
    gd (inK .i64 (s4.2 + (1 : Int))) <|
    some (.inl (s8, (s4.2 + (1 : Int))))
  else
    some (.inr s4.1)

noncomputable def F_impl_pairsOf__impl_conflictRel_1 (n : Int) (is0 : List Ximpl_Event) (is1 : List (List Ximpl_Instr)) : Option (List Int) :=
  gd (decide (0 ≤ n ∧ n ≤ n ∧ n * ((8 : Nat) : Int) ≤ 140737488355328 ∧ n ≤ 140737488355328)) <|
  Option.bind (
    loopO (F_impl_pairsOf__impl_conflictRel_1_L5 n is0 is1) ((List.replicate n.toNat (default : Int)), (0 : Int))
  ) fun s2 =>
  some s2

noncomputable def F_impl_conflictRel (p : List (List Ximpl_Instr)) : Option (List Int) :=
  Option.bind (F_impl_events p) fun v1 =>
  Option.bind (F_impl_pairsOf__impl_conflictRel_1 (v1.length : Int) v1 p) fun v2 =>
  some v2

noncomputable def F_impl_RelValid_1 (x : Int) (a1 : List Int) : Option Bool :=
  Option.bind (bif decide (x < (0 : Int)) then
    some true
  else
    gd (decide (0 ≤ (a1.length : Int))) <|
    some (decide ((0 : Int) < (bShr .i64 x (a1.length : Int))))
  ) fun s1 =>
  some s1

noncomputable def F_slices_IndexFunc_int_int__impl_RelValid_1_L3 (s : List Int) (f0 : List Int) : Int → Option (Int ⊕ (Unit ⊕ Int)) := fun s2 =>
  bif decide (s2 < (s.length : Int)) then
    gd (decide (0 ≤ s2 ∧ s2 < (s.length : Int))) <|
    Option.bind (F_impl_RelValid_1 (s.getD s2.toNat default) f0) fun v6 =>
    bif v6 then
      some (.inr (.inr s2))
    else
      gd (inK .i64 (s2 + (1 : Int))) <|
      some (.inl (s2 + (1 : Int)))
  else
    some (.inr (.inl ()))

noncomputable def F_slices_IndexFunc_int_int__impl_RelValid_1 (s : List Int) (f0 : List Int) : Option Int :=
  sumK (
    loopO (F_slices_IndexFunc_int_int__impl_RelValid_1_L3 s f0) (0 : Int)
  ) fun s1 =>
  some (-1 : Int)

noncomputable def F_slices_ContainsFunc_int_int__impl_RelValid_1 (s : List Int) (f0 : List Int) : Option Bool :=
  Option.bind (F_slices_IndexFunc_int_int__impl_RelValid_1 s f0) fun v1 =>
  some (decide ((0 : Int) ≤ v1))

noncomputable def F_impl_RelValid (r_ : List Int) : Option Bool :=
  Option.bind (bif decide ((r_.length : Int) ≤ (16 : Int)) then
    Option.bind (F_slices_ContainsFunc_int_int__impl_RelValid_1 r_ r_) fun v3 =>
    some (!v3)
  else
    some false
  ) fun s1 =>
  some s1

noncomputable def F_impl_areRels (a : List Int) (b : List Int) : Option Bool :=
  Option.bind (bif ((a.length : Int) == (b.length : Int)) then
    Option.bind (F_impl_RelValid a) fun v3 =>
    some v3
  else
    some false
  ) fun s1 =>
  Option.bind (bif s1 then
    Option.bind (F_impl_RelValid b) fun v6 =>
    some v6
  else
    some false
  ) fun s4 =>
  some s4

noncomputable def F_impl_related (r_ : List Int) (i : Int) (k_ : Int) : Option Bool :=
  gd (decide (0 ≤ i ∧ i < (r_.length : Int))) <|
  gd (decide (0 ≤ k_)) <|
  some ((bAnd .i64 (bShr .i64 (r_.getD i.toNat default) k_) (1 : Int)) == (1 : Int))

noncomputable def F_impl_ComposeRel_L13 (a : List Int) (b : List Int) (s6 : (List Int) × Int) : ((List Int) × Int) → Option (((List Int) × Int) ⊕ (List Int)) := fun s12 =>
  bif decide (s12.2 < (b.length : Int)) then
    Option.bind (
      Option.bind (F_impl_related a s6.2 s12.2) fun v17 =>
      bif v17 then
        gd (decide (0 ≤ s6.2 ∧ s6.2 < (s12.1.length : Int))) <|
        gd (decide (0 ≤ s12.2 ∧ s12.2 < (b.length : Int))) <|
        some (s12.1.set s6.2.toNat (bOr .i64 (s12.1.getD s6.2.toNat default) (b.getD s12.2.toNat default)))
      else
        some s12.1
    ) fun s16 =>
    gd (inK .i64 (s12.2 + (1 : Int))) <|
    some (.inl (s16, (s12.2 + (1 : Int))))
  else
    some (.inr s12.1)

noncomputable def F_impl_ComposeRel_L7 (a : List Int) (b : List Int) : ((List Int) × Int) → Option (((List Int) × Int) ⊕ (List Int)) := fun s6 =>
  bif decide (s6.2 < (a.length : Int)) then
    Option.bind (
      loopO (F_impl_ComposeRel_L13 a b s6) (s6.1, (0 : Int))
    ) fun s10 =>
    gd (inK .i64 (s6.2 + (1 : Int))) <|
    some (.inl (s10, (s6.2 + (1 : Int))))
  else
    some (.inr s6.1)

noncomputable def F_impl_ComposeRel (a : List Int) (b : List Int) : Option (List Int) :=
  Option.bind (F_impl_areRels a b) fun v1 =>
  bif !v1 then
    some ([] : List Int)
  else
    gd (decide (0 ≤ (a.length : Int) ∧ (a.length : Int) ≤ (a.length : Int) ∧ (a.length : Int) * ((8 : Nat) : Int) ≤ 140737488355328 ∧ (a.length : Int) ≤ 140737488355328)) <|
    Option.bind (
      loopO (F_impl_ComposeRel_L7 a b) ((List.replicate (a.length : Int).toNat (default : Int)), (0 : Int))
    ) fun s4 =>
    some s4

noncomputable def F_impl_UnionRel_1 (x : Int) (y : Int) : Option Int :=
  some (bOr .i64 x y)

noncomputable def F_impl_combined__impl_UnionRel_1_L7 (a : List Int) (b : List Int) : ((List Int) × Int) → Option (((List Int) × Int) ⊕ (List Int)) := fun s6 =>
  bif decide (s6.2 < (a.length : Int)) then
    gd (decide (0 ≤ s6.2 ∧ s6.2 < (a.length : Int))) <|
    gd (decide (0 ≤ s6.2 ∧ s6.2 < (b.length : Int))) <|
    Option.bind (F_impl_UnionRel_1 (a.getD s6.2.toNat default) (b.getD s6.2.toNat default)) fun v12 =>
    gd (decide (0 ≤ s6.2 ∧ s6.2 < (s6.1.length : Int))) <|
    gd (inK .i64 (s6.2 + (1 : Int))) <|
    some (.inl ((s6.1.set s6.2.toNat v12), (s6.2 + (1 : Int))))
  else
    some (.inr s6.1)

noncomputable def F_impl_combined__impl_UnionRel_1 (a : List Int) (b : List Int) : Option (List Int) :=
  Option.bind (F_impl_areRels a b) fun v1 =>
  bif !v1 then
    some ([] : List Int)
  else
    gd (decide (0 ≤ (a.length : Int) ∧ (a.length : Int) ≤ (a.length : Int) ∧ (a.length : Int) * ((8 : Nat) : Int) ≤ 140737488355328 ∧ (a.length : Int) ≤ 140737488355328)) <|
    Option.bind (
      loopO (F_impl_combined__impl_UnionRel_1_L7 a b) ((List.replicate (a.length : Int).toNat (default : Int)), (0 : Int))
    ) fun s4 =>
    some s4

noncomputable def F_impl_UnionRel (a : List Int) (b : List Int) : Option (List Int) :=
  Option.bind (F_impl_combined__impl_UnionRel_1 a b) fun v1 =>
  some v1

noncomputable def F_slices_Clone_int_int (s : List Int) : Option (List Int) :=
  nilK (s.isEmpty) (
    some ([] : List Int)
  ) (
    gd (capOK (([] : List Int).length + s.length) 8) <|
    some (([] : List Int) ++ s)
  )



noncomputable def F_impl_ClosureRel_L25 (s14 : (List Int) × Int) : ((List Int) × Int) → Option (((List Int) × Int) ⊕ (List Int)) := fun s24 =>
  bif decide (s24.2 < (s14.1.length : Int)) then
    Option.bind (
      Option.bind (F_impl_related s24.1 s24.2 s14.2) fun v31 =>
      bif v31 then
        gd (decide (0 ≤ s24.2 ∧ s24.2 < (s24.1.length : Int))) <|
        gd (decide (0 ≤ s14.2 ∧ s14.2 < (s24.1.length : Int))) <|
        some (s24.1.set s24.2.toNat (bOr .i64 (s24.1.getD s24.2.toNat default) (s24.1.getD s14.2.toNat default)))
      else
        some s24.1
    ) fun s30 =>
    gd (inK .i64 (s24.2 + (1 : Int))) <|
    some (.inl (s30, (s24.2 + (1 : Int))))
  else
    some (.inr s24.1)

noncomputable def F_impl_ClosureRel_L15 (v3 : (List Int)) : ((List Int) × Int) → Option (((List Int) × Int) ⊕ (List Int)) := fun s14 =>
  bif decide (s14.2 < (v3.length : Int)) then
    Option.bind (
      loopO (F_impl_ClosureRel_L25 s14) (s14.1, (0 : Int))
    ) fun s20 =>
    gd (inK .i64 (s14.2 + (1 : Int))) <|
    some (.inl (s20, (s14.2 + (1 : Int))))
  else
    some (.inr s14.1)

noncomputable def F_impl_ClosureRel (r_ : List Int) : Option (List Int) :=
  Option.bind (F_impl_RelValid r_) fun v1 =>
  bif !v1 then
    some ([] : List Int)
  else
    Option.bind (F_slices_Clone_int_int r_) fun v3 =>
    Option.bind (
      loopO (F_impl_ClosureRel_L15 v3) (v3, (0 : Int))
    ) fun s7 =>
    some s7

noncomputable def F_impl_InverseRel_1 (i : Int) (k_ : Int) (a2 : List Int) : Option Bool :=
  Option.bind (F_impl_related a2 k_ i) fun v1 =>
  some v1

noncomputable def F_impl_pairsOf__impl_InverseRel_1_L11 (n : Int) (is0 : List Int) (s4 : (List Int) × Int) : ((List Int) × Int) → Option (((List Int) × Int) ⊕ (List Int)) := fun s10 =>
  bif decide (s10.2 < n) then
    Option.bind (
      Option.bind (F_impl_InverseRel_1 s4.2 s10.2 is0) fun v15 =>
      bif v15 then
        gd (decide (0 ≤ s4.2 ∧ s4.2 < (s10.1.length : Int))) <|
        gd (decide (0 ≤ s10.2)) <|
        some (s10.1.set s4.2.toNat (bOr .i64 (s10.1.getD s4.2.toNat default) (bShl .i64 (1 : Int) s10.2)))
      else
        some s10.1
    ) fun s14 =>
    gd (inK .i64 (s10.2 + (1 : Int))) <|
    some (.inl (s14, (s10.2 + (1 : Int))))
  else
    some (.inr s10.1)

noncomputable def F_impl_pairsOf__impl_InverseRel_1_L5 (n : Int) (is0 : List Int) : ((List Int) × Int) → Option (((List Int) × Int) ⊕ (List Int)) := fun s4 =>
  bif decide (s4.2 < n) then
    Option.bind (
      loopO (F_impl_pairsOf__impl_InverseRel_1_L11 n is0 s4) (s4.1, (0 : Int))
    ) fun s8 =>
    gd (inK .i64 (s4.2 + (1 : Int))) <|
    some (.inl (s8, (s4.2 + (1 : Int))))
  else
    some (.inr s4.1)

noncomputable def F_impl_pairsOf__impl_InverseRel_1 (n : Int) (is0 : List Int) : Option (List Int) :=
  gd (decide (0 ≤ n ∧ n ≤ n ∧ n * ((8 : Nat) : Int) ≤ 140737488355328 ∧ n ≤ 140737488355328)) <|
  Option.bind (
    loopO (F_impl_pairsOf__impl_InverseRel_1_L5 n is0) ((List.replicate n.toNat (default : Int)), (0 : Int))
  ) fun s2 =>
  some s2

noncomputable def F_impl_InverseRel (r_ : List Int) : Option (List Int) :=
  Option.bind (F_impl_RelValid r_) fun v1 =>
  bif !v1 then
    some ([] : List Int)
  else
    Option.bind (F_impl_pairsOf__impl_InverseRel_1 (r_.length : Int) r_) fun v3 =>
    some v3

noncomputable def F_impl_MeetRel_1 (x : Int) (y : Int) : Option Int :=
  some (bAnd .i64 x y)

noncomputable def F_impl_combined__impl_MeetRel_1_L7 (a : List Int) (b : List Int) : ((List Int) × Int) → Option (((List Int) × Int) ⊕ (List Int)) := fun s6 =>
  bif decide (s6.2 < (a.length : Int)) then
    gd (decide (0 ≤ s6.2 ∧ s6.2 < (a.length : Int))) <|
    gd (decide (0 ≤ s6.2 ∧ s6.2 < (b.length : Int))) <|
    Option.bind (F_impl_MeetRel_1 (a.getD s6.2.toNat default) (b.getD s6.2.toNat default)) fun v12 =>
    gd (decide (0 ≤ s6.2 ∧ s6.2 < (s6.1.length : Int))) <|
    gd (inK .i64 (s6.2 + (1 : Int))) <|
    some (.inl ((s6.1.set s6.2.toNat v12), (s6.2 + (1 : Int))))
  else
    some (.inr s6.1)

noncomputable def F_impl_combined__impl_MeetRel_1 (a : List Int) (b : List Int) : Option (List Int) :=
  Option.bind (F_impl_areRels a b) fun v1 =>
  bif !v1 then
    some ([] : List Int)
  else
    gd (decide (0 ≤ (a.length : Int) ∧ (a.length : Int) ≤ (a.length : Int) ∧ (a.length : Int) * ((8 : Nat) : Int) ≤ 140737488355328 ∧ (a.length : Int) ≤ 140737488355328)) <|
    Option.bind (
      loopO (F_impl_combined__impl_MeetRel_1_L7 a b) ((List.replicate (a.length : Int).toNat (default : Int)), (0 : Int))
    ) fun s4 =>
    some s4

noncomputable def F_impl_MeetRel (a : List Int) (b : List Int) : Option (List Int) :=
  Option.bind (F_impl_combined__impl_MeetRel_1 a b) fun v1 =>
  some v1

noncomputable def F_impl_delayRel (p : List (List Ximpl_Instr)) : Option (List Int) :=
  Option.bind (F_impl_events p) fun v1 =>
  Option.bind (F_impl_pairsOf__impl_delayRel_1 (v1.length : Int) v1) fun v2 =>
  Option.bind (F_impl_conflictRel p) fun v3 =>
  Option.bind (F_impl_ComposeRel v3 v3) fun v4 =>
  Option.bind (F_impl_UnionRel v3 v2) fun v5 =>
  Option.bind (F_impl_ClosureRel v5) fun v6 =>
  Option.bind (F_impl_ComposeRel v3 v6) fun v7 =>
  Option.bind (F_impl_ComposeRel v7 v3) fun v8 =>
  Option.bind (F_impl_UnionRel v4 v8) fun v9 =>
  Option.bind (F_impl_InverseRel v9) fun v10 =>
  Option.bind (F_impl_MeetRel v2 v10) fun v11 =>
  some v11

noncomputable def F_impl_DelayRel (p : List (List Ximpl_Instr)) : Option (List Int) :=
  Option.bind (F_impl_ProgramValid p) fun v1 =>
  bif !v1 then
    some ([] : List Int)
  else
    Option.bind (F_impl_delayRel p) fun v3 =>
    some v3

noncomputable def F_math_bits_OnesCount64 (x : Int) : Option Int :=
  gd (decide (0 ≤ (1 : Int))) <|
  gd (inK .u64 ((bAnd .u64 (bShr .u64 x (1 : Int)) (6148914691236517205 : Int)) + (bAnd .u64 x (6148914691236517205 : Int)))) <|
  gd (decide (0 ≤ (2 : Int))) <|
  gd (inK .u64 ((bAnd .u64 (bShr .u64 ((bAnd .u64 (bShr .u64 x (1 : Int)) (6148914691236517205 : Int)) + (bAnd .u64 x (6148914691236517205 : Int))) (2 : Int)) (3689348814741910323 : Int)) + (bAnd .u64 ((bAnd .u64 (bShr .u64 x (1 : Int)) (6148914691236517205 : Int)) + (bAnd .u64 x (6148914691236517205 : Int))) (3689348814741910323 : Int)))) <|
  gd (decide (0 ≤ (4 : Int))) <|
  gd (inK .u64 ((bShr .u64 ((bAnd .u64 (bShr .u64 ((bAnd .u64 (bShr .u64 x (1 : Int)) (6148914691236517205 : Int)) + (bAnd .u64 x (6148914691236517205 : Int))) (2 : Int)) (3689348814741910323 : Int)) + (bAnd .u64 ((bAnd .u64 (bShr .u64 x (1 : Int)) (6148914691236517205 : Int)) + (bAnd .u64 x (6148914691236517205 : Int))) (3689348814741910323 : Int))) (4 : Int)) + ((bAnd .u64 (bShr .u64 ((bAnd .u64 (bShr .u64 x (1 : Int)) (6148914691236517205 : Int)) + (bAnd .u64 x (6148914691236517205 : Int))) (2 : Int)) (3689348814741910323 : Int)) + (bAnd .u64 ((bAnd .u64 (bShr .u64 x (1 : Int)) (6148914691236517205 : Int)) + (bAnd .u64 x (6148914691236517205 : Int))) (3689348814741910323 : Int))))) <|
  Option.bind (some ((bShr .u64 ((bAnd .u64 (bShr .u64 ((bAnd .u64 (bShr .u64 x (1 : Int)) (6148914691236517205 : Int)) + (bAnd .u64 x (6148914691236517205 : Int))) (2 : Int)) (3689348814741910323 : Int)) + (bAnd .u64 ((bAnd .u64 (bShr .u64 x (1 : Int)) (6148914691236517205 : Int)) + (bAnd .u64 x (6148914691236517205 : Int))) (3689348814741910323 : Int))) (4 : Int)) + ((bAnd .u64 (bShr .u64 ((bAnd .u64 (bShr .u64 x (1 : Int)) (6148914691236517205 : Int)) + (bAnd .u64 x (6148914691236517205 : Int))) (2 : Int)) (3689348814741910323 : Int)) + (bAnd .u64 ((bAnd .u64 (bShr .u64 x (1 : Int)) (6148914691236517205 : Int)) + (bAnd .u64 x (6148914691236517205 : Int))) (3689348814741910323 : Int))))) fun w7 =>
  gd (decide (0 ≤ (8 : Int))) <|
  gd (inK .u64 ((bAnd .u64 w7 (1085102592571150095 : Int)) + (bShr .u64 (bAnd .u64 w7 (1085102592571150095 : Int)) (8 : Int)))) <|
  gd (decide (0 ≤ (16 : Int))) <|
  gd (inK .u64 (((bAnd .u64 w7 (1085102592571150095 : Int)) + (bShr .u64 (bAnd .u64 w7 (1085102592571150095 : Int)) (8 : Int))) + (bShr .u64 ((bAnd .u64 w7 (1085102592571150095 : Int)) + (bShr .u64 (bAnd .u64 w7 (1085102592571150095 : Int)) (8 : Int))) (16 : Int)))) <|
  gd (decide (0 ≤ (32 : Int))) <|
  gd (inK .u64 ((((bAnd .u64 w7 (1085102592571150095 : Int)) + (bShr .u64 (bAnd .u64 w7 (1085102592571150095 : Int)) (8 : Int))) + (bShr .u64 ((bAnd .u64 w7 (1085102592571150095 : Int)) + (bShr .u64 (bAnd .u64 w7 (1085102592571150095 : Int)) (8 : Int))) (16 : Int))) + (bShr .u64 (((bAnd .u64 w7 (1085102592571150095 : Int)) + (bShr .u64 (bAnd .u64 w7 (1085102592571150095 : Int)) (8 : Int))) + (bShr .u64 ((bAnd .u64 w7 (1085102592571150095 : Int)) + (bShr .u64 (bAnd .u64 w7 (1085102592571150095 : Int)) (8 : Int))) (16 : Int))) (32 : Int)))) <|
  gd (inK .i64 ((((bAnd .u64 w7 (1085102592571150095 : Int)) + (bShr .u64 (bAnd .u64 w7 (1085102592571150095 : Int)) (8 : Int))) + (bShr .u64 ((bAnd .u64 w7 (1085102592571150095 : Int)) + (bShr .u64 (bAnd .u64 w7 (1085102592571150095 : Int)) (8 : Int))) (16 : Int))) + (bShr .u64 (((bAnd .u64 w7 (1085102592571150095 : Int)) + (bShr .u64 (bAnd .u64 w7 (1085102592571150095 : Int)) (8 : Int))) + (bShr .u64 ((bAnd .u64 w7 (1085102592571150095 : Int)) + (bShr .u64 (bAnd .u64 w7 (1085102592571150095 : Int)) (8 : Int))) (16 : Int))) (32 : Int)))) <|
  some (bAnd .i64 ((((bAnd .u64 w7 (1085102592571150095 : Int)) + (bShr .u64 (bAnd .u64 w7 (1085102592571150095 : Int)) (8 : Int))) + (bShr .u64 ((bAnd .u64 w7 (1085102592571150095 : Int)) + (bShr .u64 (bAnd .u64 w7 (1085102592571150095 : Int)) (8 : Int))) (16 : Int))) + (bShr .u64 (((bAnd .u64 w7 (1085102592571150095 : Int)) + (bShr .u64 (bAnd .u64 w7 (1085102592571150095 : Int)) (8 : Int))) + (bShr .u64 ((bAnd .u64 w7 (1085102592571150095 : Int)) + (bShr .u64 (bAnd .u64 w7 (1085102592571150095 : Int)) (8 : Int))) (16 : Int))) (32 : Int))) (127 : Int))

noncomputable def F_math_bits_OnesCount (x : Int) : Option Int :=
  Option.bind (F_math_bits_OnesCount64 x) fun v1 =>
  some v1

noncomputable def F_impl_CountRel_L5 (r_ : List Int) : (Int × Int) → Option ((Int × Int) ⊕ Int) := fun s4 =>
  bif decide (s4.1 < (r_.length : Int)) then
    gd (decide (0 ≤ s4.1 ∧ s4.1 < (r_.length : Int))) <|
    gd (inK .u64 (r_.getD s4.1.toNat default)) <|
    Option.bind (F_math_bits_OnesCount (r_.getD s4.1.toNat default)) fun v9 =>
    gd (inK .i64 (s4.2 + v9)) <|
    gd (inK .i64 (s4.1 + (1 : Int))) <|
    some (.inl ((s4.1 + (1 : Int)), (s4.2 + v9)))
  else
    some (.inr s4.2)

noncomputable def F_impl_CountRel (r_ : List Int) : Option Int :=
  Option.bind (F_impl_RelValid r_) fun v1 =>
  bif !v1 then
    some (0 : Int)
  else
    Option.bind (
      loopO (F_impl_CountRel_L5 r_) ((0 : Int), (0 : Int))
    ) fun s3 =>
    some s3

noncomputable def F_laws_FnRaceThread (code : List Int) : Option Bool :=
  bif decide ((1048576 : Int) < (code.length : Int)) then
    some true
  else
    Option.bind (F_spec_DrawRacesOf code) fun v2 =>
    Option.bind (F_impl_RacesOf v2) fun v3 =>
    Option.bind (F_spec_RacesOf v2) fun v4 =>
    Option.bind (bif ((v3.length : Int) != (v4.length : Int)) then
      some true
    else
      Option.bind (F_impl_ProgramValid v2) fun v7 =>
      some (!v7)
    ) fun s5 =>
    bif s5 then
      Option.bind (F_spec_RacesOf v2) fun v9 =>
      some ((v3.length : Int) == (v9.length : Int))
    else
      bif ((v2.length : Int) == (1 : Int)) then
        Option.bind (bif ((v3.length : Int) == (0 : Int)) then
          Option.bind (F_impl_DelayRel v2) fun v13 =>
          Option.bind (F_impl_CountRel v13) fun v14 =>
          some (v14 == (0 : Int))
        else
          some false
        ) fun s11 =>
        some s11
      else
        Option.bind (F_impl_DropThread v2 (0 : Int)) fun v15 =>
        Option.bind (bif v15.2 then
          Option.bind (F_impl_RacesOf v15.1) fun v18 =>
          some (decide ((v18.length : Int) ≤ (v3.length : Int)))
        else
          some false
        ) fun s16 =>
        some s16
end Go.Proofs.Ytjogdblionfmiaa
