/-
  Functions over plain values, as the program's code computes; printed by lift.py. No conditions.
-/
import Derived.Test.YtjogdblionfmiaaSt
import Derived.Test.YtjogdblionfmiaaBrRid
import Derived.Test.YtjogdblionfmiaaBrRsd
import Derived.Test.YtjogdblionfmiaaBrVd
import Derived.Test.YtjogdblionfmiaaMud
import Derived.Test.YtjogdblionfmiaaSPd
import Derived.Test.YtjogdblionfmiaaSQd
import Derived.Test.YtjogdblionfmiaaSRd
namespace Go.Proofs.Ytjogdblionfmiaa
open Go.RowKit
set_option maxRecDepth 100000
noncomputable def F_spec_l12Two (code : List Int) : Option ((List (List Ximpl_Instr)) × Int × Int) :=
  Option.bind (F_spec_l17Open code) fun v1 =>
  Option.bind (F_spec_l8Small (⟨v1.b, v1.p⟩ : Xspec_l17Rd)) fun v2 =>
  Option.bind (F_spec_l1Mutate (⟨v2.1.b, v2.1.p⟩ : Xspec_l17Rd) v2.2) fun v3 =>
  Option.bind (F_spec_l17Rd_num (⟨v3.1.b, v3.1.p⟩ : Xspec_l17Rd) ([(0 : Int), (1 : Int), (0 : Int), (2 : Int), (-1 : Int)] : List Int)) fun v4 =>
  Option.bind (F_spec_l17Rd_num (⟨v4.1.b, v4.1.p⟩ : Xspec_l17Rd) ([(1 : Int), (0 : Int), (2 : Int), (3 : Int)] : List Int)) fun v5 =>
  some (v3.2, v4.2, v5.2)

noncomputable def F_spec_DrawReorderInstr (code : List Int) : Option ((List (List Ximpl_Instr)) × Int × Int) :=
  Option.bind (F_spec_l12Two code) fun v1 =>
  some (v1.1, v1.2.1, v1.2.2)

noncomputable def F_impl_CountSchedules_L10 (p : List (List Ximpl_Instr)) (s4 : Int × Int × Int) : (Int × Int × Int) → Option ((Int × Int × Int) ⊕ (Int × Int)) := fun s9 =>
  bif decide (s9.1 < ((p.getD s4.1.toNat default).length : Int)) then
    gd (inK .i64 (s9.2.1 + (1 : Int))) <|
    gd (inK .i64 (s9.2.2 * (s9.2.1 + (1 : Int)))) <|
    gd (inK .i64 (s9.1 + (1 : Int))) <|
    gd (decide ((s9.1 + (1 : Int)) ≠ 0)) <|
    gd (inK .i64 ((s9.2.2 * (s9.2.1 + (1 : Int))).tdiv (s9.1 + (1 : Int)))) <|
    some (.inl ((s9.1 + (1 : Int)), (s9.2.1 + (1 : Int)), ((s9.2.2 * (s9.2.1 + (1 : Int))).tdiv (s9.1 + (1 : Int)))))
  else
    some (.inr (s9.2.1, s9.2.2))

noncomputable def F_impl_CountSchedules_L5 (p : List (List Ximpl_Instr)) : (Int × Int × Int) → Option ((Int × Int × Int) ⊕ Int) := fun s4 =>
  bif decide (s4.1 < (p.length : Int)) then
    Option.bind (
      gd (decide (0 ≤ s4.1 ∧ s4.1 < (p.length : Int))) <|
      loopO (F_impl_CountSchedules_L10 p s4) ((0 : Int), s4.2.1, s4.2.2)
    ) fun s7 =>
    gd (inK .i64 (s4.1 + (1 : Int))) <|
    some (.inl ((s4.1 + (1 : Int)), s7.1, s7.2))
  else
    some (.inr s4.2.2)

noncomputable def F_impl_CountSchedules (p : List (List Ximpl_Instr)) : Option Int :=
  Option.bind (F_impl_ProgramValid p) fun v1 =>
  bif !v1 then
    some (0 : Int)
  else
    Option.bind (
      loopO (F_impl_CountSchedules_L5 p) ((0 : Int), (0 : Int), (1 : Int))
    ) fun s3 =>
    some s3

noncomputable def F_laws_FnReorderTwice (code : List Int) : Option Bool :=
  bif decide ((1048576 : Int) < (code.length : Int)) then
    some true
  else
    Option.bind (F_spec_DrawReorderInstr code) fun v2 =>
    Option.bind (F_impl_ReorderInstr v2.1 v2.2.1 v2.2.2) fun v3 =>
    Option.bind (F_spec_ReorderInstr v2.1 v2.2.1 v2.2.2) fun v4 =>
    Option.bind (bif (!(v3.2 == v4.2)) then
      some true
    else
      Option.bind (F_impl_ProgramSame v3.1 v4.1) fun v7 =>
      some (!v7)
    ) fun s5 =>
    Option.bind (bif s5 then
      some true
    else
      some (!v3.2)
    ) fun s8 =>
    bif s8 then
      Option.bind (bif (v3.2 == v4.2) then
        Option.bind (F_impl_ProgramSame v3.1 v4.1) fun v13 =>
        some v13
      else
        some false
      ) fun s11 =>
      some s11
    else
      Option.bind (F_impl_ReorderInstr v3.1 v2.2.1 v2.2.2) fun v14 =>
      Option.bind (bif v14.2 then
        Option.bind (F_impl_ProgramSame v14.1 v2.1) fun v17 =>
        some v17
      else
        some false
      ) fun s15 =>
      Option.bind (bif s15 then
        Option.bind (F_impl_CountSchedules v3.1) fun v20 =>
        Option.bind (F_impl_CountSchedules v2.1) fun v21 =>
        some (v20 == v21)
      else
        some false
      ) fun s18 =>
      some s18
end Go.Proofs.Ytjogdblionfmiaa
