/-
  Functions over plain values, as the program's code computes; printed by lift.py. No conditions.
-/
import Derived.Test.YtjogdblionfmiaaSt
import Derived.Test.YtjogdblionfmiaaBrVd
import Derived.Test.YtjogdblionfmiaaS3d
import Derived.Test.YtjogdblionfmiaaSQd
import Derived.Test.YtjogdblionfmiaaSRd
import Derived.Test.YtjogdblionfmiaaSq3d
namespace Go.Proofs.Ytjogdblionfmiaa
open Go.RowKit
set_option maxRecDepth 100000
noncomputable def F_spec_l3Draw (r_ : Xspec_l17Rd) : Option (Xspec_l17Rd × (List (List Ximpl_Instr)) × (List Int)) :=
  Option.bind (F_spec_l1Draw (⟨r_.b, r_.p⟩ : Xspec_l17Rd)) fun v1 =>
  Option.bind (F_spec_l3Seq v1.2) fun v2 =>
  Option.bind (F_spec_l17Rd_pick (⟨v1.1.b, v1.1.p⟩ : Xspec_l17Rd) (v2.outcomes.length : Int)) fun v3 =>
  gd (decide (0 ≤ v3.2 ∧ v3.2 < (v2.outcomes.length : Int))) <|
  gd (capOK (([] : List Int).length + (v2.outcomes.getD v3.2.toNat default).length) 8) <|
  Option.bind (
    Option.bind (F_spec_l17Rd_pick (⟨v3.1.b, v3.1.p⟩ : Xspec_l17Rd) (6 : Int)) fun v7 =>
    bif (v7.2 == (0 : Int)) then
      Option.bind (F_spec_l17Rd_pick (⟨v7.1.b, v7.1.p⟩ : Xspec_l17Rd) ((([] : List Int) ++ (v2.outcomes.getD v3.2.toNat default)).length : Int)) fun v9 =>
      Option.bind (F_spec_l17Rd_num (⟨v9.1.b, v9.1.p⟩ : Xspec_l17Rd) ([(1 : Int), (0 : Int), (3 : Int), (4 : Int), (-1 : Int)] : List Int)) fun v10 =>
      gd (decide (0 ≤ v9.2 ∧ v9.2 < (((([] : List Int) ++ (v2.outcomes.getD v3.2.toNat default)).length) : Int))) <|
      some (v10.1.b, v10.1.p, ((([] : List Int) ++ (v2.outcomes.getD v3.2.toNat default)).set v9.2.toNat v10.2))
    else
      bif (v7.2 == (1 : Int)) then
        Option.bind (F_spec_l17Rd_pick (⟨v7.1.b, v7.1.p⟩ : Xspec_l17Rd) (4 : Int)) fun v13 =>
        bif (v13.2 == (0 : Int)) then
          gd (capOK ((([] : List Int) ++ (v2.outcomes.getD v3.2.toNat default)).length + 1) 8) <|
          some (v13.1.b, v13.1.p, ((([] : List Int) ++ (v2.outcomes.getD v3.2.toNat default)) ++ [(0 : Int)]))
        else
          some (v13.1.b, v13.1.p, (([] : List Int) ++ (v2.outcomes.getD v3.2.toNat default)))
      else
        some (v7.1.b, v7.1.p, (([] : List Int) ++ (v2.outcomes.getD v3.2.toNat default)))
  ) fun s6 =>
  some ((⟨s6.1, s6.2.1⟩ : Xspec_l17Rd), v1.2, s6.2.2)

noncomputable def F_spec_DrawTurnOutcome (code : List Int) : Option ((List (List Ximpl_Instr)) × (List Int) × Int × Int × Int × Int) :=
  Option.bind (F_spec_l17Open code) fun v1 =>
  Option.bind (F_spec_l3Draw (⟨v1.b, v1.p⟩ : Xspec_l17Rd)) fun v2 =>
  Option.bind (F_spec_l17Rd_num (⟨v2.1.b, v2.1.p⟩ : Xspec_l17Rd) ([(0 : Int), (1 : Int), (0 : Int), (2 : Int), (-1 : Int)] : List Int)) fun v3 =>
  Option.bind (F_spec_l17Rd_num (⟨v3.1.b, v3.1.p⟩ : Xspec_l17Rd) ([(1 : Int), (0 : Int), (2 : Int)] : List Int)) fun v4 =>
  Option.bind (F_spec_l17Rd_num (⟨v4.1.b, v4.1.p⟩ : Xspec_l17Rd) ([(0 : Int), (1 : Int), (2 : Int), (3 : Int)] : List Int)) fun v5 =>
  Option.bind (F_spec_l17Rd_num (⟨v5.1.b, v5.1.p⟩ : Xspec_l17Rd) ([(1 : Int), (0 : Int), (2 : Int), (-1 : Int)] : List Int)) fun v6 =>
  some (v2.2.1, v2.2.2, v3.2, v4.2, v5.2, v6.2)

noncomputable def F_impl_within (x : Int) (low : Int) (high : Int) : Option Bool :=
  Option.bind (bif decide (low ≤ x) then
    some (decide (x ≤ high))
  else
    some false
  ) fun s1 =>
  some s1

noncomputable def F_impl_OutcomeValid_1 (x : Int) : Option Bool :=
  Option.bind (F_impl_within x (0 : Int) (3 : Int)) fun v1 =>
  some (!v1)

noncomputable def F_slices_IndexFunc_int_int__impl_OutcomeValid_1_L3 (s : List Int) : Int → Option (Int ⊕ (Unit ⊕ Int)) := fun s2 =>
  bif decide (s2 < (s.length : Int)) then
    gd (decide (0 ≤ s2 ∧ s2 < (s.length : Int))) <|
    Option.bind (F_impl_OutcomeValid_1 (s.getD s2.toNat default)) fun v6 =>
    bif v6 then
      some (.inr (.inr s2))
    else
      gd (inK .i64 (s2 + (1 : Int))) <|
      some (.inl (s2 + (1 : Int)))
  else
    some (.inr (.inl ()))

noncomputable def F_slices_IndexFunc_int_int__impl_OutcomeValid_1 (s : List Int) : Option Int :=
  sumK (
    loopO (F_slices_IndexFunc_int_int__impl_OutcomeValid_1_L3 s) (0 : Int)
  ) fun s1 =>
  some (-1 : Int)

noncomputable def F_slices_ContainsFunc_int_int__impl_OutcomeValid_1 (s : List Int) : Option Bool :=
  Option.bind (F_slices_IndexFunc_int_int__impl_OutcomeValid_1 s) fun v1 =>
  some (decide ((0 : Int) ≤ v1))

noncomputable def F_impl_OutcomeValid (p : List (List Ximpl_Instr)) (o_ : List Int) : Option Bool :=
  Option.bind (F_impl_ProgramValid p) fun v1 =>
  Option.bind (bif v1 then
    gd (inK .i64 ((3 : Int) * (p.length : Int))) <|
    gd (inK .i64 (((3 : Int) * (p.length : Int)) + (2 : Int))) <|
    gd (inK .i64 ((((3 : Int) * (p.length : Int)) + (2 : Int)) + (1 : Int))) <|
    some ((o_.length : Int) == ((((3 : Int) * (p.length : Int)) + (2 : Int)) + (1 : Int)))
  else
    some false
  ) fun s2 =>
  Option.bind (bif s2 then
    Option.bind (F_slices_ContainsFunc_int_int__impl_OutcomeValid_1 o_) fun v9 =>
    some (!v9)
  else
    some false
  ) fun s7 =>
  some s7

noncomputable def F_impl_isThread (p : List (List Ximpl_Instr)) (t : Int) : Option Bool :=
  Option.bind (F_impl_ProgramValid p) fun v1 =>
  Option.bind (bif v1 then
    gd (inK .i64 ((p.length : Int) - (1 : Int))) <|
    Option.bind (F_impl_within t (0 : Int) ((p.length : Int) - (1 : Int))) fun v5 =>
    some v5
  else
    some false
  ) fun s2 =>
  some s2

noncomputable def F_impl_isLoc (loc : Int) : Option Bool :=
  Option.bind (F_impl_within loc (0 : Int) (2 : Int)) fun v1 =>
  some v1

noncomputable def F_slices_Clone_int_int (s : List Int) : Option (List Int) :=
  nilK (s.isEmpty) (
    some ([] : List Int)
  ) (
    gd (capOK (([] : List Int).length + s.length) 8) <|
    some (([] : List Int) ++ s)
  )



noncomputable def F_impl_turned (x : Int) (i : Int) (k_ : Int) : Option Int :=
  bif (x == i) then
    some k_
  else
    bif (x == k_) then
      some i
    else
      some x

noncomputable def F_impl_TurnOutcome_L37 (o_ : List Int) (i : Int) (k_ : Int) (s26 : (List Int) × Int) : ((List Int) × Int) → Option (((List Int) × Int) ⊕ (List Int)) := fun s36 =>
  bif decide (s36.2 < (3 : Int)) then
    Option.bind (F_impl_turned s26.2 i k_) fun v42 =>
    gd (inK .i64 ((3 : Int) * v42)) <|
    gd (inK .i64 (((3 : Int) * v42) + s36.2)) <|
    gd (inK .i64 ((3 : Int) * s26.2)) <|
    gd (inK .i64 (((3 : Int) * s26.2) + s36.2)) <|
    gd (decide (0 ≤ (((3 : Int) * s26.2) + s36.2) ∧ (((3 : Int) * s26.2) + s36.2) < (o_.length : Int))) <|
    gd (decide (0 ≤ (((3 : Int) * v42) + s36.2) ∧ (((3 : Int) * v42) + s36.2) < (s36.1.length : Int))) <|
    gd (inK .i64 (s36.2 + (1 : Int))) <|
    some (.inl ((s36.1.set ((((3 : Int) * v42) + s36.2).toNat) (o_.getD (((3 : Int) * s26.2) + s36.2).toNat default)), (s36.2 + (1 : Int))))
  else
    some (.inr s36.1)

noncomputable def F_impl_TurnOutcome_L27 (p : List (List Ximpl_Instr)) (o_ : List Int) (i : Int) (k_ : Int) : ((List Int) × Int) → Option (((List Int) × Int) ⊕ (List Int)) := fun s26 =>
  bif decide (s26.2 < (p.length : Int)) then
    Option.bind (
      loopO (F_impl_TurnOutcome_L37 o_ i k_ s26) (s26.1, (0 : Int))
    ) fun s32 =>
    gd (inK .i64 (s26.2 + (1 : Int))) <|
    some (.inl (s32, (s26.2 + (1 : Int))))
  else
    some (.inr s26.1)

noncomputable def F_impl_TurnOutcome (p : List (List Ximpl_Instr)) (o_ : List Int) (i : Int) (k_ : Int) (x : Int) (y : Int) : Option ((List Int) × Bool) :=
  Option.bind (F_impl_OutcomeValid p o_) fun v1 =>
  Option.bind (bif !v1 then
    some true
  else
    Option.bind (F_impl_isThread p i) fun v4 =>
    some (!v4)
  ) fun s2 =>
  Option.bind (bif s2 then
    some true
  else
    Option.bind (F_impl_isThread p k_) fun v7 =>
    some (!v7)
  ) fun s5 =>
  Option.bind (bif s5 then
    some true
  else
    Option.bind (F_impl_isLoc x) fun v10 =>
    some (!v10)
  ) fun s8 =>
  Option.bind (bif s8 then
    some true
  else
    Option.bind (F_impl_isLoc y) fun v13 =>
    some (!v13)
  ) fun s11 =>
  bif s11 then
    some (([] : List Int), false)
  else
    Option.bind (F_slices_Clone_int_int o_) fun v15 =>
    Option.bind (
      loopO (F_impl_TurnOutcome_L27 p o_ i k_) (v15, (0 : Int))
    ) fun s19 =>
    gd (inK .i64 ((3 : Int) * (p.length : Int))) <|
    gd (inK .i64 (((3 : Int) * (p.length : Int)) + x)) <|
    gd (inK .i64 (((3 : Int) * (p.length : Int)) + y)) <|
    gd (decide (0 ≤ (((3 : Int) * (p.length : Int)) + y) ∧ (((3 : Int) * (p.length : Int)) + y) < (o_.length : Int))) <|
    gd (decide (0 ≤ (((3 : Int) * (p.length : Int)) + x) ∧ (((3 : Int) * (p.length : Int)) + x) < (o_.length : Int))) <|
    gd (decide (0 ≤ (((3 : Int) * (p.length : Int)) + x) ∧ (((3 : Int) * (p.length : Int)) + x) < (s19.length : Int))) <|
    gd (decide (0 ≤ (((3 : Int) * (p.length : Int)) + y) ∧ (((3 : Int) * (p.length : Int)) + y) < (s19.length : Int))) <|
    some (((s19.set ((((3 : Int) * (p.length : Int)) + x).toNat) (o_.getD (((3 : Int) * (p.length : Int)) + y).toNat default)).set ((((3 : Int) * (p.length : Int)) + y).toNat) (o_.getD (((3 : Int) * (p.length : Int)) + x).toNat default)), true)

noncomputable def F_spec_l3Size (p : List (List Ximpl_Instr)) : Option Int :=
  gd (inK .i64 ((p.length : Int) * (3 : Int))) <|
  gd (inK .i64 (((p.length : Int) * (3 : Int)) + (2 : Int))) <|
  gd (inK .i64 ((((p.length : Int) * (3 : Int)) + (2 : Int)) + (1 : Int))) <|
  some ((((p.length : Int) * (3 : Int)) + (2 : Int)) + (1 : Int))

noncomputable def F_spec_l1In (n : Int) (most : Int) : Option Bool :=
  Option.bind (bif decide ((0 : Int) ≤ n) then
    some (decide (n ≤ most))
  else
    some false
  ) fun s1 =>
  some s1

noncomputable def F_spec_OutcomeValid_L8 (o_ : List Int) : Int → Option (Int ⊕ (Unit ⊕ Bool)) := fun s7 =>
  bif decide (s7 < (o_.length : Int)) then
    gd (decide (0 ≤ s7 ∧ s7 < (o_.length : Int))) <|
    Option.bind (F_spec_l1In (o_.getD s7.toNat default) (3 : Int)) fun v11 =>
    bif !v11 then
      some (.inr (.inr false))
    else
      gd (inK .i64 (s7 + (1 : Int))) <|
      some (.inl (s7 + (1 : Int)))
  else
    some (.inr (.inl ()))

noncomputable def F_spec_OutcomeValid (p : List (List Ximpl_Instr)) (o_ : List Int) : Option Bool :=
  Option.bind (F_spec_ProgramValid p) fun v1 =>
  Option.bind (bif !v1 then
    some true
  else
    Option.bind (F_spec_l3Size p) fun v4 =>
    some ((o_.length : Int) != v4)
  ) fun s2 =>
  bif s2 then
    some false
  else
    sumK (
      loopO (F_spec_OutcomeValid_L8 o_) (0 : Int)
    ) fun s6 =>
    some true

noncomputable def F_spec_l12Turn (n : Int) (i : Int) (k_ : Int) : Option Int :=
  bif (n == i) then
    some k_
  else
    bif (n == k_) then
      some i
    else
      some n

noncomputable def F_spec_TurnOutcome_L26 (o_ : List Int) (i : Int) (k_ : Int) (s19 : (List Int) × Int) : ((List Int) × Int) → Option (((List Int) × Int) ⊕ (List Int)) := fun s25 =>
  bif decide (s25.2 ≤ (2 : Int)) then
    Option.bind (F_spec_l12Turn s19.2 i k_) fun v29 =>
    Option.bind (F_spec_l3Reg v29 s25.2) fun v30 =>
    gd (decide (0 ≤ v30 ∧ v30 < (o_.length : Int))) <|
    gd (capOK (s25.1.length + 1) 8) <|
    gd (inK .i64 (s25.2 + (1 : Int))) <|
    some (.inl ((s25.1 ++ [(o_.getD v30.toNat default)]), (s25.2 + (1 : Int))))
  else
    some (.inr s25.1)

noncomputable def F_spec_TurnOutcome_L20 (p : List (List Ximpl_Instr)) (o_ : List Int) (i : Int) (k_ : Int) : ((List Int) × Int) → Option (((List Int) × Int) ⊕ (List Int)) := fun s19 =>
  bif decide (s19.2 < (p.length : Int)) then
    Option.bind (
      loopO (F_spec_TurnOutcome_L26 o_ i k_ s19) (s19.1, (0 : Int))
    ) fun s23 =>
    gd (inK .i64 (s19.2 + (1 : Int))) <|
    some (.inl (s23, (s19.2 + (1 : Int))))
  else
    some (.inr s19.1)

noncomputable def F_spec_TurnOutcome_L40 (p : List (List Ximpl_Instr)) (o_ : List Int) (x : Int) (y : Int) : ((List Int) × Int) → Option (((List Int) × Int) ⊕ (List Int)) := fun s39 =>
  bif decide (s39.2 ≤ (2 : Int)) then
    gd (inK .i64 ((p.length : Int) * (3 : Int))) <|
    Option.bind (F_spec_l12Turn s39.2 x y) fun v44 =>
    gd (inK .i64 (((p.length : Int) * (3 : Int)) + v44)) <|
    gd (decide (0 ≤ (((p.length : Int) * (3 : Int)) + v44) ∧ (((p.length : Int) * (3 : Int)) + v44) < (o_.length : Int))) <|
    gd (capOK (s39.1.length + 1) 8) <|
    gd (inK .i64 (s39.2 + (1 : Int))) <|
    some (.inl ((s39.1 ++ [(o_.getD (((p.length : Int) * (3 : Int)) + v44).toNat default)]), (s39.2 + (1 : Int))))
  else
    some (.inr s39.1)

noncomputable def F_spec_TurnOutcome (p : List (List Ximpl_Instr)) (o_ : List Int) (i : Int) (k_ : Int) (x : Int) (y : Int) : Option ((List Int) × Bool) :=
  Option.bind (F_spec_OutcomeValid p o_) fun v1 =>
  Option.bind (bif !v1 then
    some true
  else
    gd (inK .i64 ((p.length : Int) - (1 : Int))) <|
    Option.bind (F_spec_l1In i ((p.length : Int) - (1 : Int))) fun v5 =>
    some (!v5)
  ) fun s2 =>
  Option.bind (bif s2 then
    some true
  else
    gd (inK .i64 ((p.length : Int) - (1 : Int))) <|
    Option.bind (F_spec_l1In k_ ((p.length : Int) - (1 : Int))) fun v9 =>
    some (!v9)
  ) fun s6 =>
  Option.bind (bif s6 then
    some true
  else
    Option.bind (F_spec_l1In x (2 : Int)) fun v12 =>
    some (!v12)
  ) fun s10 =>
  Option.bind (bif s10 then
    some true
  else
    Option.bind (F_spec_l1In y (2 : Int)) fun v15 =>
    some (!v15)
  ) fun s13 =>
  bif s13 then
    some (([] : List Int), false)
  else
    Option.bind (
      loopO (F_spec_TurnOutcome_L20 p o_ i k_) (([] : List Int), (0 : Int))
    ) fun s17 =>
    Option.bind (
      loopO (F_spec_TurnOutcome_L40 p o_ x y) (s17, (0 : Int))
    ) fun s37 =>
    some (s37, true)

noncomputable def F_laws_wmInts_L4 (a : List Int) (b : List Int) : Int → Option (Int ⊕ (Unit ⊕ Bool)) := fun s3 =>
  bif decide (s3 < (a.length : Int)) then
    gd (decide (0 ≤ s3 ∧ s3 < (a.length : Int))) <|
    gd (decide (0 ≤ s3 ∧ s3 < (b.length : Int))) <|
    bif ((a.getD s3.toNat default) != (b.getD s3.toNat default)) then
      some (.inr (.inr false))
    else
      gd (inK .i64 (s3 + (1 : Int))) <|
      some (.inl (s3 + (1 : Int)))
  else
    some (.inr (.inl ()))

noncomputable def F_laws_wmInts (a : List Int) (b : List Int) : Option Bool :=
  bif ((a.length : Int) != (b.length : Int)) then
    some false
  else
    sumK (
      loopO (F_laws_wmInts_L4 a b) (0 : Int)
    ) fun s2 =>
    some true
end Go.Proofs.Ytjogdblionfmiaa
