/-
  Functions over plain values, as the program's code computes; printed by lift.py. No conditions.
-/
import Derived.Test.YtjogdblionfmiaaSt
import Derived.Test.YtjogdblionfmiaaBrLid
import Derived.Test.YtjogdblionfmiaaBrLsd
import Derived.Test.YtjogdblionfmiaaBrVd
import Derived.Test.YtjogdblionfmiaaBrXd
import Derived.Test.YtjogdblionfmiaaMud
import Derived.Test.YtjogdblionfmiaaSPd
import Derived.Test.YtjogdblionfmiaaSQd
import Derived.Test.YtjogdblionfmiaaSRd
namespace Go.Proofs.Ytjogdblionfmiaa
open Go.RowKit
set_option maxRecDepth 100000
noncomputable def F_spec_l12Two (code : List Int) : Option ((List (List Ximpl_Instr)) × Int × Int) :=
  Option.bind (F_spec_l17Open code) fun v1 =>
  Option.bind (F_spec_l8Small (⟨v1.b, v1.p⟩ : Xspec_l17Rd)) fun v2 =>
  Option.bind (F_spec_l1Mutate (⟨v2.1.b, v2.1.p⟩ : Xspec_l17Rd) v2.2) fun v3 =>
  Option.bind (F_spec_l17Rd_num (⟨v3.1.b, v3.1.p⟩ : Xspec_l17Rd) ([(0 : Int), (1 : Int), (0 : Int), (2 : Int), (-1 : Int)] : List Int)) fun v4 =>
  Option.bind (F_spec_l17Rd_num (⟨v4.1.b, v4.1.p⟩ : Xspec_l17Rd) ([(1 : Int), (0 : Int), (2 : Int), (3 : Int)] : List Int)) fun v5 =>
  some (v3.2, v4.2, v5.2)

noncomputable def F_spec_DrawTurnLocs (code : List Int) : Option ((List (List Ximpl_Instr)) × Int × Int) :=
  Option.bind (F_spec_l12Two code) fun v1 =>
  some (v1.1, v1.2.1, v1.2.2)

noncomputable def F_impl_CountExecs (p : List (List Ximpl_Instr)) : Option Int :=
  Option.bind (F_impl_ProgramValid p) fun v1 =>
  bif !v1 then
    some (0 : Int)
  else
    Option.bind (F_impl_execs p) fun v3 =>
    some v3

noncomputable def F_impl_instrs_L17 (p : List (List Ximpl_Instr)) (s5 : (List Ximpl_Gap) × Int) : ((List Ximpl_Gap) × Int) → Option (((List Ximpl_Gap) × Int) ⊕ (List Ximpl_Gap)) := fun s16 =>
  bif decide (s16.2 < ((p.getD s5.2.toNat default).length : Int)) then
    gd (capOK (s16.1.length + 1) 16) <|
    gd (inK .i64 (s16.2 + (1 : Int))) <|
    some (.inl ((s16.1 ++ [(⟨s5.2, s16.2⟩ : Ximpl_Gap)]), (s16.2 + (1 : Int))))
  else
    some (.inr s16.1)

noncomputable def F_impl_instrs_L6 (p : List (List Ximpl_Instr)) : ((List Ximpl_Gap) × Int) → Option (((List Ximpl_Gap) × Int) ⊕ (List Ximpl_Gap)) := fun s5 =>
  bif decide (s5.2 < (p.length : Int)) then
    Option.bind (
      gd (decide (0 ≤ s5.2 ∧ s5.2 < (p.length : Int))) <|
      loopO (F_impl_instrs_L17 p s5) (s5.1, (0 : Int))
    ) fun s11 =>
    gd (inK .i64 (s5.2 + (1 : Int))) <|
    some (.inl (s11, (s5.2 + (1 : Int))))
  else
    some (.inr s5.1)

noncomputable def F_impl_instrs (p : List (List Ximpl_Instr)) : Option (List Ximpl_Gap) :=
  Option.bind (
    loopO (F_impl_instrs_L6 p) (([] : List Ximpl_Gap), (0 : Int))
  ) fun s1 =>
  some s1

noncomputable def F_impl_Instr_writes (x : Ximpl_Instr) : Option Bool :=
  Option.bind (bif (x.Op == (2 : Int)) then
    some true
  else
    some (x.Op == (3 : Int))
  ) fun s1 =>
  Option.bind (bif s1 then
    some true
  else
    some (x.Op == (5 : Int))
  ) fun s3 =>
  some s3

noncomputable def F_impl_conflict (x : Ximpl_Instr) (y : Ximpl_Instr) : Option Bool :=
  Option.bind (bif (x.Op != (4 : Int)) then
    some (y.Op != (4 : Int))
  else
    some false
  ) fun s1 =>
  Option.bind (bif s1 then
    some (x.Loc == y.Loc)
  else
    some false
  ) fun s3 =>
  Option.bind (bif s3 then
    Option.bind (F_impl_Instr_writes x) fun v7 =>
    Option.bind (bif v7 then
      some true
    else
      Option.bind (F_impl_Instr_writes y) fun v10 =>
      some v10
    ) fun s8 =>
    some s8
  else
    some false
  ) fun s5 =>
  some s5

noncomputable def F_impl_RacesOf_L21 (p : List (List Ximpl_Instr)) (v4 : (List Ximpl_Gap)) (s8 : (List Ximpl_Race) × Int) (v16 : (List Ximpl_Gap)) : ((List Ximpl_Race) × Int) → Option (((List Ximpl_Race) × Int) ⊕ (List Ximpl_Race)) := fun s20 =>
  bif decide (s20.2 < (v16.length : Int)) then
    Option.bind (
      gd (decide (0 ≤ s20.2 ∧ s20.2 < (v16.length : Int))) <|
      gd (decide (0 ≤ (v4.getD s8.2.toNat default).Thread ∧ (v4.getD s8.2.toNat default).Thread < (p.length : Int))) <|
      gd (decide (0 ≤ (v4.getD s8.2.toNat default).Index ∧ (v4.getD s8.2.toNat default).Index < ((p.getD ((v4.getD s8.2.toNat default).Thread).toNat default).length : Int))) <|
      gd (decide (0 ≤ (v16.getD s20.2.toNat default).Thread ∧ (v16.getD s20.2.toNat default).Thread < (p.length : Int))) <|
      gd (decide (0 ≤ (v16.getD s20.2.toNat default).Index ∧ (v16.getD s20.2.toNat default).Index < ((p.getD ((v16.getD s20.2.toNat default).Thread).toNat default).length : Int))) <|
      Option.bind (bif decide (((v4.getD s8.2.toNat default).Thread) < ((v16.getD s20.2.toNat default).Thread)) then
        Option.bind (F_impl_conflict (⟨((p.getD ((v4.getD s8.2.toNat default).Thread).toNat default).getD ((v4.getD s8.2.toNat default).Index).toNat default).Op, ((p.getD ((v4.getD s8.2.toNat default).Thread).toNat default).getD ((v4.getD s8.2.toNat default).Index).toNat default).Loc, ((p.getD ((v4.getD s8.2.toNat default).Thread).toNat default).getD ((v4.getD s8.2.toNat default).Index).toNat default).Reg, ((p.getD ((v4.getD s8.2.toNat default).Thread).toNat default).getD ((v4.getD s8.2.toNat default).Index).toNat default).Val⟩ : Ximpl_Instr) (⟨((p.getD ((v16.getD s20.2.toNat default).Thread).toNat default).getD ((v16.getD s20.2.toNat default).Index).toNat default).Op, ((p.getD ((v16.getD s20.2.toNat default).Thread).toNat default).getD ((v16.getD s20.2.toNat default).Index).toNat default).Loc, ((p.getD ((v16.getD s20.2.toNat default).Thread).toNat default).getD ((v16.getD s20.2.toNat default).Index).toNat default).Reg, ((p.getD ((v16.getD s20.2.toNat default).Thread).toNat default).getD ((v16.getD s20.2.toNat default).Index).toNat default).Val⟩ : Ximpl_Instr)) fun v34 =>
        some v34
      else
        some false
      ) fun s32 =>
      Option.bind (bif s32 then
        Option.bind (bif ((((p.getD ((v4.getD s8.2.toNat default).Thread).toNat default).getD ((v4.getD s8.2.toNat default).Index).toNat default).Op) != (5 : Int)) then
          some true
        else
          some ((((p.getD ((v16.getD s20.2.toNat default).Thread).toNat default).getD ((v16.getD s20.2.toNat default).Index).toNat default).Op) != (5 : Int))
        ) fun s37 =>
        some s37
      else
        some false
      ) fun s35 =>
      bif s35 then
        gd (capOK (s20.1.length + 1) 32) <|
        some (s20.1 ++ [(⟨(⟨(v4.getD s8.2.toNat default).Thread, (v4.getD s8.2.toNat default).Index⟩ : Ximpl_Gap), (⟨(v16.getD s20.2.toNat default).Thread, (v16.getD s20.2.toNat default).Index⟩ : Ximpl_Gap)⟩ : Ximpl_Race)])
      else
        some s20.1
    ) fun s26 =>
    gd (inK .i64 (s20.2 + (1 : Int))) <|
    some (.inl (s26, (s20.2 + (1 : Int))))
  else
    some (.inr s20.1)

noncomputable def F_impl_RacesOf_L9 (p : List (List Ximpl_Instr)) (v4 : (List Ximpl_Gap)) : ((List Ximpl_Race) × Int) → Option (((List Ximpl_Race) × Int) ⊕ (List Ximpl_Race)) := fun s8 =>
  bif decide (s8.2 < (v4.length : Int)) then
    Option.bind (
      gd (decide (0 ≤ s8.2 ∧ s8.2 < (v4.length : Int))) <|
      Option.bind (F_impl_instrs p) fun v16 =>
      loopO (F_impl_RacesOf_L21 p v4 s8 v16) (s8.1, (0 : Int))
    ) fun s14 =>
    gd (inK .i64 (s8.2 + (1 : Int))) <|
    some (.inl (s14, (s8.2 + (1 : Int))))
  else
    some (.inr s8.1)

noncomputable def F_impl_RacesOf (p : List (List Ximpl_Instr)) : Option (List Ximpl_Race) :=
  Option.bind (F_impl_ProgramValid p) fun v1 =>
  bif !v1 then
    some ([] : List Ximpl_Race)
  else
    Option.bind (
      Option.bind (F_impl_instrs p) fun v4 =>
      loopO (F_impl_RacesOf_L9 p v4) (([] : List Ximpl_Race), (0 : Int))
    ) fun s3 =>
    some s3

noncomputable def F_laws_FnTurnLocsTwice (code : List Int) : Option Bool :=
  bif decide ((1048576 : Int) < (code.length : Int)) then
    some true
  else
    Option.bind (F_spec_DrawTurnLocs code) fun v2 =>
    Option.bind (F_impl_TurnLocs v2.1 v2.2.1 v2.2.2) fun v3 =>
    Option.bind (F_spec_TurnLocs v2.1 v2.2.1 v2.2.2) fun v4 =>
    Option.bind (bif (!(v3.2 == v4.2)) then
      some true
    else
      Option.bind (F_impl_ProgramSame v3.1 v4.1) fun v7 =>
      some (!v7)
    ) fun s5 =>
    Option.bind (bif s5 then
      some true
    else
      some (!v3.2)
    ) fun s8 =>
    bif s8 then
      Option.bind (bif (v3.2 == v4.2) then
        Option.bind (F_impl_ProgramSame v3.1 v4.1) fun v13 =>
        some v13
      else
        some false
      ) fun s11 =>
      some s11
    else
      Option.bind (F_impl_TurnLocs v3.1 v2.2.1 v2.2.2) fun v14 =>
      Option.bind (bif v14.2 then
        Option.bind (F_impl_ProgramSame v14.1 v2.1) fun v17 =>
        some v17
      else
        some false
      ) fun s15 =>
      Option.bind (bif s15 then
        Option.bind (F_impl_CountExecs v3.1) fun v20 =>
        Option.bind (F_impl_CountExecs v2.1) fun v21 =>
        some (v20 == v21)
      else
        some false
      ) fun s18 =>
      Option.bind (bif s18 then
        Option.bind (F_impl_RacesOf v3.1) fun v24 =>
        Option.bind (F_impl_RacesOf v2.1) fun v25 =>
        some ((v24.length : Int) == (v25.length : Int))
      else
        some false
      ) fun s22 =>
      some s22
end Go.Proofs.Ytjogdblionfmiaa
