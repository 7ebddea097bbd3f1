/-
  Functions over plain values, as the program's code computes; printed by lift.py. No conditions.
-/
import Derived.Test.YtjogdblionfmiaaSt
import Derived.Test.YtjogdblionfmiaaBrMd
import Derived.Test.YtjogdblionfmiaaBrNd
import Derived.Test.YtjogdblionfmiaaMud
import Derived.Test.YtjogdblionfmiaaSPd
import Derived.Test.YtjogdblionfmiaaSQd
import Derived.Test.YtjogdblionfmiaaSRd
namespace Go.Proofs.Ytjogdblionfmiaa
open Go.RowKit
set_option maxRecDepth 100000
noncomputable def F_spec_l14Instrs  : Option (List Ximpl_Instr) :=
  some ([(⟨(2 : Int), (0 : Int), (0 : Int), (1 : Int)⟩ : Ximpl_Instr), (⟨(2 : Int), (1 : Int), (0 : Int), (1 : Int)⟩ : Ximpl_Instr), (⟨(1 : Int), (0 : Int), (0 : Int), (0 : Int)⟩ : Ximpl_Instr), (⟨(1 : Int), (1 : Int), (1 : Int), (0 : Int)⟩ : Ximpl_Instr), (⟨(4 : Int), (0 : Int), (0 : Int), (0 : Int)⟩ : Ximpl_Instr), (⟨(5 : Int), (0 : Int), (2 : Int), (2 : Int)⟩ : Ximpl_Instr)] : List Ximpl_Instr)

noncomputable def F_spec_l14Test_L5 (v1 : (List Ximpl_Instr)) : ((List (List Ximpl_Instr)) × Int × Int) → Option (((List (List Ximpl_Instr)) × Int × Int) ⊕ (List (List Ximpl_Instr))) := fun s4 =>
  bif decide ((0 : Int) ≤ s4.2.1) then
    gd (decide ((2 : Int) ≠ 0)) <|
    gd (inK .i64 (s4.2.1.tdiv (2 : Int))) <|
    gd (decide ((v1.length : Int) ≠ 0)) <|
    gd (decide (0 ≤ (s4.2.2.tmod (v1.length : Int)) ∧ (s4.2.2.tmod (v1.length : Int)) < (v1.length : Int))) <|
    gd (decide (0 ≤ (s4.2.1.tdiv (2 : Int)) ∧ (s4.2.1.tdiv (2 : Int)) < (s4.1.length : Int))) <|
    gd (capOK (([(v1.getD (s4.2.2.tmod (v1.length : Int)).toNat default)] : List Ximpl_Instr).length + (s4.1.getD ((s4.2.1.tdiv (2 : Int)).toNat) default).length) 32) <|
    gd (inK .i64 (s4.2.2.tdiv (v1.length : Int))) <|
    gd (inK .i64 (s4.2.1 - (1 : Int))) <|
    some (.inl ((s4.1.set ((s4.2.1.tdiv (2 : Int)).toNat) (([(v1.getD (s4.2.2.tmod (v1.length : Int)).toNat default)] : List Ximpl_Instr) ++ (s4.1.getD ((s4.2.1.tdiv (2 : Int)).toNat) default))), (s4.2.1 - (1 : Int)), (s4.2.2.tdiv (v1.length : Int))))
  else
    some (.inr s4.1)

noncomputable def F_spec_l14Test (n : Int) : Option (List (List Ximpl_Instr)) :=
  Option.bind (F_spec_l14Instrs ) fun v1 =>
  Option.bind (
    loopO (F_spec_l14Test_L5 v1) (([([] : List Ximpl_Instr), ([] : List Ximpl_Instr)] : List (List Ximpl_Instr)), (3 : Int), n)
  ) fun s2 =>
  some s2

noncomputable def F_spec_DrawNumberOfTest (code : List Int) : Option (List (List Ximpl_Instr)) :=
  Option.bind (F_spec_l17Open code) fun v1 =>
  Option.bind (F_spec_l17Rd_pick (⟨v1.b, v1.p⟩ : Xspec_l17Rd) (3 : Int)) fun v2 =>
  bif (v2.2 == (0 : Int)) then
    Option.bind (F_spec_l1Draw (⟨v2.1.b, v2.1.p⟩ : Xspec_l17Rd)) fun v4 =>
    Option.bind (F_spec_l1Mutate (⟨v4.1.b, v4.1.p⟩ : Xspec_l17Rd) v4.2) fun v5 =>
    some v5.2
  else
    Option.bind (F_spec_l17Rd_pick (⟨v2.1.b, v2.1.p⟩ : Xspec_l17Rd) (36 : Int)) fun v6 =>
    gd (inK .i64 (v6.2 * (36 : Int))) <|
    Option.bind (F_spec_l17Rd_pick (⟨v6.1.b, v6.1.p⟩ : Xspec_l17Rd) (36 : Int)) fun v8 =>
    gd (inK .i64 ((v6.2 * (36 : Int)) + v8.2)) <|
    Option.bind (F_spec_l14Test ((v6.2 * (36 : Int)) + v8.2)) fun v10 =>
    some v10

noncomputable def F_impl_SmallTests  : Option Int :=
  some (1296 : Int)

noncomputable def F_impl_within (x : Int) (low : Int) (high : Int) : Option Bool :=
  Option.bind (bif decide (low ≤ x) then
    some (decide (x ≤ high))
  else
    some false
  ) fun s1 =>
  some s1

noncomputable def F_impl_smallInstrs  : Option (List Ximpl_Instr) :=
  some ([(⟨(2 : Int), (0 : Int), (0 : Int), (1 : Int)⟩ : Ximpl_Instr), (⟨(2 : Int), (1 : Int), (0 : Int), (1 : Int)⟩ : Ximpl_Instr), (⟨(1 : Int), (0 : Int), (0 : Int), (0 : Int)⟩ : Ximpl_Instr), (⟨(1 : Int), (1 : Int), (1 : Int), (0 : Int)⟩ : Ximpl_Instr), (⟨(4 : Int), (0 : Int), (0 : Int), (0 : Int)⟩ : Ximpl_Instr), (⟨(5 : Int), (0 : Int), (2 : Int), (2 : Int)⟩ : Ximpl_Instr)] : List Ximpl_Instr)

noncomputable def F_impl_smallTest (n : Int) : Option (List (List Ximpl_Instr)) :=
  Option.bind (F_impl_smallInstrs ) fun v1 =>
  gd (decide ((216 : Int) ≠ 0)) <|
  gd (inK .i64 (n.tdiv (216 : Int))) <|
  gd (decide (0 ≤ (n.tdiv (216 : Int)) ∧ (n.tdiv (216 : Int)) < (v1.length : Int))) <|
  gd (decide ((36 : Int) ≠ 0)) <|
  gd (inK .i64 (n.tdiv (36 : Int))) <|
  gd (decide ((6 : Int) ≠ 0)) <|
  gd (decide (0 ≤ ((n.tdiv (36 : Int)).tmod (6 : Int)) ∧ ((n.tdiv (36 : Int)).tmod (6 : Int)) < (v1.length : Int))) <|
  gd (inK .i64 (n.tdiv (6 : Int))) <|
  gd (decide (0 ≤ ((n.tdiv (6 : Int)).tmod (6 : Int)) ∧ ((n.tdiv (6 : Int)).tmod (6 : Int)) < (v1.length : Int))) <|
  gd (decide (0 ≤ (n.tmod (6 : Int)) ∧ (n.tmod (6 : Int)) < (v1.length : Int))) <|
  some ([([(v1.getD (n.tdiv (216 : Int)).toNat default), (v1.getD ((n.tdiv (36 : Int)).tmod (6 : Int)).toNat default)] : List Ximpl_Instr), ([(v1.getD ((n.tdiv (6 : Int)).tmod (6 : Int)).toNat default), (v1.getD (n.tmod (6 : Int)).toNat default)] : List Ximpl_Instr)] : List (List Ximpl_Instr))

noncomputable def F_impl_SmallTest (n : Int) : Option ((List (List Ximpl_Instr)) × Bool) :=
  Option.bind (F_impl_SmallTests ) fun v1 =>
  gd (inK .i64 (v1 - (1 : Int))) <|
  Option.bind (F_impl_within n (0 : Int) (v1 - (1 : Int))) fun v3 =>
  bif !v3 then
    some (([] : List (List Ximpl_Instr)), false)
  else
    Option.bind (F_impl_smallTest n) fun v5 =>
    some (v5, true)

noncomputable def F_laws_FnNumberOfTest (code : List Int) : Option Bool :=
  bif decide ((1048576 : Int) < (code.length : Int)) then
    some true
  else
    Option.bind (F_spec_DrawNumberOfTest code) fun v2 =>
    Option.bind (F_impl_NumberOfTest v2) fun v3 =>
    Option.bind (F_spec_NumberOfTest v2) fun v4 =>
    Option.bind (bif (!(v3.2 == v4.2)) then
      some true
    else
      some (v3.1 != v4.1)
    ) fun s5 =>
    Option.bind (bif s5 then
      some true
    else
      some (!v3.2)
    ) fun s7 =>
    bif s7 then
      Option.bind (bif (v3.2 == v4.2) then
        some (v3.1 == v4.1)
      else
        some false
      ) fun s10 =>
      some s10
    else
      Option.bind (F_impl_SmallTest v3.1) fun v12 =>
      Option.bind (bif v12.2 then
        Option.bind (F_impl_ProgramSame v12.1 v2) fun v15 =>
        some v15
      else
        some false
      ) fun s13 =>
      some s13
end Go.Proofs.Ytjogdblionfmiaa
