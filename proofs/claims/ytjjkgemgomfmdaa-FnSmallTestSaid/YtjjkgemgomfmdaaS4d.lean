/-
  Functions over plain values, as the program's code computes; printed by lift.py. No conditions.
-/
import Derived.Test.YtjjkgemgomfmdaaS4t
import Derived.Test.YtjjkgemgomfmdaaBrNd
namespace Go.Proofs.Ytjjkgemgomfmdaa
open Go.RowKit
set_option maxRecDepth 100000
noncomputable def F_spec_l17Open (code : List Int) : Option Xspec_l17Rd :=
  Option.bind (
    bif decide ((2000 : Int) < (code.length : Int)) then
      gd (decide (0 ≤ (0 : Int) ∧ (0 : Int) ≤ (2000 : Int) ∧ (2000 : Int) ≤ (code.length : Int))) <|
      some ((code.drop (0 : Int).toNat).take ((2000 : Int).toNat - (0 : Int).toNat))
    else
      some code
  ) fun s1 =>
  some (⟨s1, (0 : Int)⟩ : Xspec_l17Rd)

noncomputable def F_spec_l17Rd_pick (r_ : Xspec_l17Rd) (n : Int) : Option (Xspec_l17Rd × Int) :=
  gd (inK .i64 (r_.p + (1 : Int))) <|
  Option.bind (bif decide (n < (1 : Int)) then
    some true
  else
    some ((r_.b.length : Int) == (0 : Int))
  ) fun s2 =>
  bif s2 then
    some ((⟨r_.b, (r_.p + (1 : Int))⟩ : Xspec_l17Rd), (0 : Int))
  else
    gd (inK .i64 ((r_.p + (1 : Int)) - (1 : Int))) <|
    bif decide (((r_.p + (1 : Int)) - (1 : Int)) < (r_.b.length : Int)) then
      gd (decide (0 ≤ ((r_.p + (1 : Int)) - (1 : Int)) ∧ ((r_.p + (1 : Int)) - (1 : Int)) < (r_.b.length : Int))) <|
      gd (inK .i64 (r_.b.getD ((r_.p + (1 : Int)) - (1 : Int)).toNat default)) <|
      gd (decide (n ≠ 0)) <|
      some ((⟨r_.b, (r_.p + (1 : Int))⟩ : Xspec_l17Rd), ((r_.b.getD ((r_.p + (1 : Int)) - (1 : Int)).toNat default).tmod n))
    else
      gd (decide ((r_.b.length : Int) ≠ 0)) <|
      gd (decide (0 ≤ (((r_.p + (1 : Int)) - (1 : Int)).tmod (r_.b.length : Int)) ∧ (((r_.p + (1 : Int)) - (1 : Int)).tmod (r_.b.length : Int)) < (r_.b.length : Int))) <|
      gd (inK .i64 (r_.b.getD (((r_.p + (1 : Int)) - (1 : Int)).tmod (r_.b.length : Int)).toNat default)) <|
      gd (inK .i64 ((r_.b.getD (((r_.p + (1 : Int)) - (1 : Int)).tmod (r_.b.length : Int)).toNat default) * (131 : Int))) <|
      gd (inK .i64 (((r_.p + (1 : Int)) - (1 : Int)) * (7 : Int))) <|
      gd (inK .i64 ((((r_.p + (1 : Int)) - (1 : Int)) * (7 : Int)) + (3 : Int))) <|
      gd (decide (0 ≤ (((((r_.p + (1 : Int)) - (1 : Int)) * (7 : Int)) + (3 : Int)).tmod (r_.b.length : Int)) ∧ (((((r_.p + (1 : Int)) - (1 : Int)) * (7 : Int)) + (3 : Int)).tmod (r_.b.length : Int)) < (r_.b.length : Int))) <|
      gd (inK .i64 (r_.b.getD (((((r_.p + (1 : Int)) - (1 : Int)) * (7 : Int)) + (3 : Int)).tmod (r_.b.length : Int)).toNat default)) <|
      gd (inK .i64 ((r_.b.getD (((((r_.p + (1 : Int)) - (1 : Int)) * (7 : Int)) + (3 : Int)).tmod (r_.b.length : Int)).toNat default) * (1117 : Int))) <|
      gd (inK .i64 (((r_.b.getD (((r_.p + (1 : Int)) - (1 : Int)).tmod (r_.b.length : Int)).toNat default) * (131 : Int)) + ((r_.b.getD (((((r_.p + (1 : Int)) - (1 : Int)) * (7 : Int)) + (3 : Int)).tmod (r_.b.length : Int)).toNat default) * (1117 : Int)))) <|
      gd (inK .i64 (((r_.p + (1 : Int)) - (1 : Int)) * (29 : Int))) <|
      gd (inK .i64 ((((r_.b.getD (((r_.p + (1 : Int)) - (1 : Int)).tmod (r_.b.length : Int)).toNat default) * (131 : Int)) + ((r_.b.getD (((((r_.p + (1 : Int)) - (1 : Int)) * (7 : Int)) + (3 : Int)).tmod (r_.b.length : Int)).toNat default) * (1117 : Int))) + (((r_.p + (1 : Int)) - (1 : Int)) * (29 : Int)))) <|
      gd (inK .i64 (((r_.p + (1 : Int)) - (1 : Int)).tdiv (r_.b.length : Int))) <|
      gd (inK .i64 ((((r_.p + (1 : Int)) - (1 : Int)).tdiv (r_.b.length : Int)) * (53 : Int))) <|
      gd (inK .i64 (((((r_.b.getD (((r_.p + (1 : Int)) - (1 : Int)).tmod (r_.b.length : Int)).toNat default) * (131 : Int)) + ((r_.b.getD (((((r_.p + (1 : Int)) - (1 : Int)) * (7 : Int)) + (3 : Int)).tmod (r_.b.length : Int)).toNat default) * (1117 : Int))) + (((r_.p + (1 : Int)) - (1 : Int)) * (29 : Int))) + ((((r_.p + (1 : Int)) - (1 : Int)).tdiv (r_.b.length : Int)) * (53 : Int)))) <|
      gd (decide ((64 : Int) ≠ 0)) <|
      gd (inK .i64 ((((((r_.b.getD (((r_.p + (1 : Int)) - (1 : Int)).tmod (r_.b.length : Int)).toNat default) * (131 : Int)) + ((r_.b.getD (((((r_.p + (1 : Int)) - (1 : Int)) * (7 : Int)) + (3 : Int)).tmod (r_.b.length : Int)).toNat default) * (1117 : Int))) + (((r_.p + (1 : Int)) - (1 : Int)) * (29 : Int))) + ((((r_.p + (1 : Int)) - (1 : Int)).tdiv (r_.b.length : Int)) * (53 : Int))).tdiv (64 : Int))) <|
      gd (decide (n ≠ 0)) <|
      some ((⟨r_.b, (r_.p + (1 : Int))⟩ : Xspec_l17Rd), ((bXor .i64 (((((r_.b.getD (((r_.p + (1 : Int)) - (1 : Int)).tmod (r_.b.length : Int)).toNat default) * (131 : Int)) + ((r_.b.getD (((((r_.p + (1 : Int)) - (1 : Int)) * (7 : Int)) + (3 : Int)).tmod (r_.b.length : Int)).toNat default) * (1117 : Int))) + (((r_.p + (1 : Int)) - (1 : Int)) * (29 : Int))) + ((((r_.p + (1 : Int)) - (1 : Int)).tdiv (r_.b.length : Int)) * (53 : Int))) ((((((r_.b.getD (((r_.p + (1 : Int)) - (1 : Int)).tmod (r_.b.length : Int)).toNat default) * (131 : Int)) + ((r_.b.getD (((((r_.p + (1 : Int)) - (1 : Int)) * (7 : Int)) + (3 : Int)).tmod (r_.b.length : Int)).toNat default) * (1117 : Int))) + (((r_.p + (1 : Int)) - (1 : Int)) * (29 : Int))) + ((((r_.p + (1 : Int)) - (1 : Int)).tdiv (r_.b.length : Int)) * (53 : Int))).tdiv (64 : Int))).tmod n))

noncomputable def F_spec_l17Rd_num (r_ : Xspec_l17Rd) (list : List Int) : Option (Xspec_l17Rd × Int) :=
  Option.bind (F_spec_l17Rd_pick (⟨r_.b, r_.p⟩ : Xspec_l17Rd) (list.length : Int)) fun v1 =>
  gd (decide (0 ≤ v1.2 ∧ v1.2 < (list.length : Int))) <|
  some ((⟨v1.1.b, v1.1.p⟩ : Xspec_l17Rd), (list.getD v1.2.toNat default))

noncomputable def F_spec_DrawSmallTest (code : List Int) : Option Int :=
  Option.bind (F_spec_l17Open code) fun v1 =>
  Option.bind (F_spec_l17Rd_pick (⟨v1.b, v1.p⟩ : Xspec_l17Rd) (10 : Int)) fun v2 =>
  bif (v2.2 == (0 : Int)) then
    Option.bind (F_spec_l17Rd_num (⟨v2.1.b, v2.1.p⟩ : Xspec_l17Rd) ([(-1 : Int), (1296 : Int), (1295 : Int), (0 : Int)] : List Int)) fun v4 =>
    some v4.2
  else
    Option.bind (F_spec_l17Rd_pick (⟨v2.1.b, v2.1.p⟩ : Xspec_l17Rd) (36 : Int)) fun v5 =>
    gd (inK .i64 (v5.2 * (36 : Int))) <|
    Option.bind (F_spec_l17Rd_pick (⟨v5.1.b, v5.1.p⟩ : Xspec_l17Rd) (36 : Int)) fun v7 =>
    gd (inK .i64 ((v5.2 * (36 : Int)) + v7.2)) <|
    some ((v5.2 * (36 : Int)) + v7.2)

noncomputable def F_impl_SmallTests  : Option Int :=
  some (1296 : Int)

noncomputable def F_impl_within (x : Int) (low : Int) (high : Int) : Option Bool :=
  Option.bind (bif decide (low ≤ x) then
    some (decide (x ≤ high))
  else
    some false
  ) fun s1 =>
  some s1

noncomputable def F_impl_smallInstrs  : Option (List Ximpl_Instr) :=
  some ([(⟨(2 : Int), (0 : Int), (0 : Int), (1 : Int)⟩ : Ximpl_Instr), (⟨(2 : Int), (1 : Int), (0 : Int), (1 : Int)⟩ : Ximpl_Instr), (⟨(1 : Int), (0 : Int), (0 : Int), (0 : Int)⟩ : Ximpl_Instr), (⟨(1 : Int), (1 : Int), (1 : Int), (0 : Int)⟩ : Ximpl_Instr), (⟨(4 : Int), (0 : Int), (0 : Int), (0 : Int)⟩ : Ximpl_Instr), (⟨(5 : Int), (0 : Int), (2 : Int), (2 : Int)⟩ : Ximpl_Instr)] : List Ximpl_Instr)

noncomputable def F_impl_smallTest (n : Int) : Option (List (List Ximpl_Instr)) :=
  Option.bind (F_impl_smallInstrs ) fun v1 =>
  gd (decide ((216 : Int) ≠ 0)) <|
  gd (inK .i64 (n.tdiv (216 : Int))) <|
  gd (decide (0 ≤ (n.tdiv (216 : Int)) ∧ (n.tdiv (216 : Int)) < (v1.length : Int))) <|
  gd (decide ((36 : Int) ≠ 0)) <|
  gd (inK .i64 (n.tdiv (36 : Int))) <|
  gd (decide ((6 : Int) ≠ 0)) <|
  gd (decide (0 ≤ ((n.tdiv (36 : Int)).tmod (6 : Int)) ∧ ((n.tdiv (36 : Int)).tmod (6 : Int)) < (v1.length : Int))) <|
  gd (inK .i64 (n.tdiv (6 : Int))) <|
  gd (decide (0 ≤ ((n.tdiv (6 : Int)).tmod (6 : Int)) ∧ ((n.tdiv (6 : Int)).tmod (6 : Int)) < (v1.length : Int))) <|
  gd (decide (0 ≤ (n.tmod (6 : Int)) ∧ (n.tmod (6 : Int)) < (v1.length : Int))) <|
  some ([([(v1.getD (n.tdiv (216 : Int)).toNat default), (v1.getD ((n.tdiv (36 : Int)).tmod (6 : Int)).toNat default)] : List Ximpl_Instr), ([(v1.getD ((n.tdiv (6 : Int)).tmod (6 : Int)).toNat default), (v1.getD (n.tmod (6 : Int)).toNat default)] : List Ximpl_Instr)] : List (List Ximpl_Instr))

noncomputable def F_impl_SmallTest (n : Int) : Option ((List (List Ximpl_Instr)) × Bool) :=
  Option.bind (F_impl_SmallTests ) fun v1 =>
  gd (inK .i64 (v1 - (1 : Int))) <|
  Option.bind (F_impl_within n (0 : Int) (v1 - (1 : Int))) fun v3 =>
  bif !v3 then
    some (([] : List (List Ximpl_Instr)), false)
  else
    Option.bind (F_impl_smallTest n) fun v5 =>
    some (v5, true)

noncomputable def F_spec_l14Instrs  : Option (List Ximpl_Instr) :=
  some ([(⟨(2 : Int), (0 : Int), (0 : Int), (1 : Int)⟩ : Ximpl_Instr), (⟨(2 : Int), (1 : Int), (0 : Int), (1 : Int)⟩ : Ximpl_Instr), (⟨(1 : Int), (0 : Int), (0 : Int), (0 : Int)⟩ : Ximpl_Instr), (⟨(1 : Int), (1 : Int), (1 : Int), (0 : Int)⟩ : Ximpl_Instr), (⟨(4 : Int), (0 : Int), (0 : Int), (0 : Int)⟩ : Ximpl_Instr), (⟨(5 : Int), (0 : Int), (2 : Int), (2 : Int)⟩ : Ximpl_Instr)] : List Ximpl_Instr)

noncomputable def F_spec_SmallTests  : Option Int :=
  Option.bind (F_spec_l14Instrs ) fun v1 =>
  gd (inK .i64 ((v1.length : Int) * (v1.length : Int))) <|
  gd (inK .i64 (((v1.length : Int) * (v1.length : Int)) * (v1.length : Int))) <|
  gd (inK .i64 ((((v1.length : Int) * (v1.length : Int)) * (v1.length : Int)) * (v1.length : Int))) <|
  some ((((v1.length : Int) * (v1.length : Int)) * (v1.length : Int)) * (v1.length : Int))

noncomputable def F_spec_l14Test_L5 (v1 : (List Ximpl_Instr)) : ((List (List Ximpl_Instr)) × Int × Int) → Option (((List (List Ximpl_Instr)) × Int × Int) ⊕ (List (List Ximpl_Instr))) := fun s4 =>
  bif decide ((0 : Int) ≤ s4.2.1) then
    gd (decide ((2 : Int) ≠ 0)) <|
    gd (inK .i64 (s4.2.1.tdiv (2 : Int))) <|
    gd (decide ((v1.length : Int) ≠ 0)) <|
    gd (decide (0 ≤ (s4.2.2.tmod (v1.length : Int)) ∧ (s4.2.2.tmod (v1.length : Int)) < (v1.length : Int))) <|
    gd (decide (0 ≤ (s4.2.1.tdiv (2 : Int)) ∧ (s4.2.1.tdiv (2 : Int)) < (s4.1.length : Int))) <|
    gd (capOK (([(v1.getD (s4.2.2.tmod (v1.length : Int)).toNat default)] : List Ximpl_Instr).length + (s4.1.getD ((s4.2.1.tdiv (2 : Int)).toNat) default).length) 32) <|
    gd (inK .i64 (s4.2.2.tdiv (v1.length : Int))) <|
    gd (inK .i64 (s4.2.1 - (1 : Int))) <|
    some (.inl ((s4.1.set ((s4.2.1.tdiv (2 : Int)).toNat) (([(v1.getD (s4.2.2.tmod (v1.length : Int)).toNat default)] : List Ximpl_Instr) ++ (s4.1.getD ((s4.2.1.tdiv (2 : Int)).toNat) default))), (s4.2.1 - (1 : Int)), (s4.2.2.tdiv (v1.length : Int))))
  else
    some (.inr s4.1)

noncomputable def F_spec_l14Test (n : Int) : Option (List (List Ximpl_Instr)) :=
  Option.bind (F_spec_l14Instrs ) fun v1 =>
  Option.bind (
    loopO (F_spec_l14Test_L5 v1) (([([] : List Ximpl_Instr), ([] : List Ximpl_Instr)] : List (List Ximpl_Instr)), (3 : Int), n)
  ) fun s2 =>
  some s2

noncomputable def F_spec_SmallTest (n : Int) : Option ((List (List Ximpl_Instr)) × Bool) :=
  Option.bind (bif decide (n < (0 : Int)) then
    some true
  else
    Option.bind (F_spec_SmallTests ) fun v3 =>
    some (decide (v3 ≤ n))
  ) fun s1 =>
  bif s1 then
    some (([] : List (List Ximpl_Instr)), false)
  else
    Option.bind (F_spec_l14Test n) fun v5 =>
    some (v5, true)

noncomputable def F_slices_Equal_impl_Instr_impl_Instr_L4 (s1_ : List Ximpl_Instr) (s2_ : List Ximpl_Instr) : Int → Option (Int ⊕ (Unit ⊕ Bool)) := fun s3 =>
  bif decide (s3 < (s1_.length : Int)) then
    gd (decide (0 ≤ s3 ∧ s3 < (s1_.length : Int))) <|
    gd (decide (0 ≤ s3 ∧ s3 < (s2_.length : Int))) <|
    bif (!(((s1_.getD s3.toNat default).Op) == ((s2_.getD s3.toNat default).Op) && (((s1_.getD s3.toNat default).Loc) == ((s2_.getD s3.toNat default).Loc) && (((s1_.getD s3.toNat default).Reg) == ((s2_.getD s3.toNat default).Reg) && (((s1_.getD s3.toNat default).Val) == ((s2_.getD s3.toNat default).Val) && true))))) then
      some (.inr (.inr false))
    else
      gd (inK .i64 (s3 + (1 : Int))) <|
      some (.inl (s3 + (1 : Int)))
  else
    some (.inr (.inl ()))

noncomputable def F_slices_Equal_impl_Instr_impl_Instr (s1_ : List Ximpl_Instr) (s2_ : List Ximpl_Instr) : Option Bool :=
  bif ((s1_.length : Int) != (s2_.length : Int)) then
    some false
  else
    sumK (
      loopO (F_slices_Equal_impl_Instr_impl_Instr_L4 s1_ s2_) (0 : Int)
    ) fun s2 =>
    some true

noncomputable def F_impl_ProgramSame_1 (x : List Ximpl_Instr) (y : List Ximpl_Instr) : Option Bool :=
  Option.bind (F_slices_Equal_impl_Instr_impl_Instr x y) fun v1 =>
  some v1

noncomputable def F_slices_EqualFunc_impl_Instr_impl_Instr_impl_Instr_impl_Instr__impl_ProgramSame_1_L4 (s1_ : List (List Ximpl_Instr)) (s2_ : List (List Ximpl_Instr)) : Int → Option (Int ⊕ (Unit ⊕ Bool)) := fun s3 =>
  bif decide (s3 < (s1_.length : Int)) then
    gd (decide (0 ≤ s3 ∧ s3 < (s1_.length : Int))) <|
    gd (decide (0 ≤ s3 ∧ s3 < (s2_.length : Int))) <|
    Option.bind (F_impl_ProgramSame_1 (s1_.getD s3.toNat default) (s2_.getD s3.toNat default)) fun v8 =>
    bif !v8 then
      some (.inr (.inr false))
    else
      gd (inK .i64 (s3 + (1 : Int))) <|
      some (.inl (s3 + (1 : Int)))
  else
    some (.inr (.inl ()))

noncomputable def F_slices_EqualFunc_impl_Instr_impl_Instr_impl_Instr_impl_Instr__impl_ProgramSame_1 (s1_ : List (List Ximpl_Instr)) (s2_ : List (List Ximpl_Instr)) : Option Bool :=
  bif ((s1_.length : Int) != (s2_.length : Int)) then
    some false
  else
    sumK (
      loopO (F_slices_EqualFunc_impl_Instr_impl_Instr_impl_Instr_impl_Instr__impl_ProgramSame_1_L4 s1_ s2_) (0 : Int)
    ) fun s2 =>
    some true

noncomputable def F_impl_ProgramSame (a : List (List Ximpl_Instr)) (b : List (List Ximpl_Instr)) : Option Bool :=
  Option.bind (F_slices_EqualFunc_impl_Instr_impl_Instr_impl_Instr_impl_Instr__impl_ProgramSame_1 a b) fun v1 =>
  some v1

noncomputable def F_impl_InstrValid (x : Ximpl_Instr) : Option Bool :=
  sumK (
    Option.bind (
      bif (x.Op == (1 : Int)) then
        some (x.Op == (1 : Int))
      else
        some (x.Op == (3 : Int))
    ) fun s2 =>
    bif s2 then
      some (.inl (x.Loc, x.Reg, (0 : Int)))
    else
      bif (x.Op == (2 : Int)) then
        some (.inl (x.Loc, (0 : Int), x.Val))
      else
        bif (x.Op == (4 : Int)) then
          some (.inl ((0 : Int), (0 : Int), (0 : Int)))
        else
          bif (x.Op == (5 : Int)) then
            some (.inl (x.Loc, x.Reg, x.Val))
          else
            some (.inr false)
  ) fun s1 =>
  Option.bind (bif (x.Op == x.Op && (x.Loc == s1.1 && (x.Reg == s1.2.1 && (x.Val == s1.2.2 && true)))) then
    Option.bind (F_impl_within x.Loc (0 : Int) (2 : Int)) fun v10 =>
    some v10
  else
    some false
  ) fun s8 =>
  Option.bind (bif s8 then
    Option.bind (F_impl_within x.Reg (0 : Int) (2 : Int)) fun v13 =>
    some v13
  else
    some false
  ) fun s11 =>
  Option.bind (bif s11 then
    Option.bind (F_impl_within x.Val (0 : Int) (3 : Int)) fun v16 =>
    some v16
  else
    some false
  ) fun s14 =>
  some s14

noncomputable def F_impl_Instr_reads (x : Ximpl_Instr) : Option Bool :=
  Option.bind (bif (x.Op == (1 : Int)) then
    some true
  else
    some (x.Op == (5 : Int))
  ) fun s1 =>
  some s1

noncomputable def F_impl_Instr_writes (x : Ximpl_Instr) : Option Bool :=
  Option.bind (bif (x.Op == (2 : Int)) then
    some true
  else
    some (x.Op == (3 : Int))
  ) fun s1 =>
  Option.bind (bif s1 then
    some true
  else
    some (x.Op == (5 : Int))
  ) fun s3 =>
  some s3

noncomputable def F_impl_execs_1 (n : Int) (a1 : Int) : Option Int :=
  gd (inK .i64 (a1 * n)) <|
  some (if (3001 : Int) < (a1 * n) then (3001 : Int) else (a1 * n))

noncomputable def F_impl_execs_L13 (p : List (List Ximpl_Instr)) (s2 : Int × Int) (s7 : Int × Int × Int) : (Int × Int × Int) → Option ((Int × Int × Int) ⊕ (Int × Int)) := fun s12 =>
  bif decide (s12.1 < ((p.getD s7.1.toNat default).length : Int)) then
    Option.bind (
      gd (decide (0 ≤ s12.1 ∧ s12.1 < ((p.getD s7.1.toNat default).length : Int))) <|
      Option.bind (
        Option.bind (bif ((((p.getD s7.1.toNat default).getD s12.1.toNat default).Loc) == s2.2) then
          Option.bind (F_impl_Instr_reads (⟨((p.getD s7.1.toNat default).getD s12.1.toNat default).Op, ((p.getD s7.1.toNat default).getD s12.1.toNat default).Loc, ((p.getD s7.1.toNat default).getD s12.1.toNat default).Reg, ((p.getD s7.1.toNat default).getD s12.1.toNat default).Val⟩ : Ximpl_Instr)) fun v20 =>
          some v20
        else
          some false
        ) fun s18 =>
        bif s18 then
          gd (inK .i64 (s12.2.2 + (1 : Int))) <|
          some (s12.2.2 + (1 : Int))
        else
          some s12.2.2
      ) fun s17 =>
      Option.bind (bif ((((p.getD s7.1.toNat default).getD s12.1.toNat default).Loc) == s2.2) then
        Option.bind (F_impl_Instr_writes (⟨((p.getD s7.1.toNat default).getD s12.1.toNat default).Op, ((p.getD s7.1.toNat default).getD s12.1.toNat default).Loc, ((p.getD s7.1.toNat default).getD s12.1.toNat default).Reg, ((p.getD s7.1.toNat default).getD s12.1.toNat default).Val⟩ : Ximpl_Instr)) fun v25 =>
        some v25
      else
        some false
      ) fun s23 =>
      bif s23 then
        gd (inK .i64 (s12.2.1 + (1 : Int))) <|
        some ((s12.2.1 + (1 : Int)), s17)
      else
        some (s12.2.1, s17)
    ) fun s15 =>
    gd (inK .i64 (s12.1 + (1 : Int))) <|
    some (.inl ((s12.1 + (1 : Int)), s15.1, s15.2))
  else
    some (.inr (s12.2.1, s12.2.2))

noncomputable def F_impl_execs_L8 (p : List (List Ximpl_Instr)) (s2 : Int × Int) : (Int × Int × Int) → Option ((Int × Int × Int) ⊕ (Int × Int)) := fun s7 =>
  bif decide (s7.1 < (p.length : Int)) then
    Option.bind (
      gd (decide (0 ≤ s7.1 ∧ s7.1 < (p.length : Int))) <|
      loopO (F_impl_execs_L13 p s2 s7) ((0 : Int), s7.2.1, s7.2.2)
    ) fun s10 =>
    gd (inK .i64 (s7.1 + (1 : Int))) <|
    some (.inl ((s7.1 + (1 : Int)), s10.1, s10.2))
  else
    some (.inr (s7.2.1, s7.2.2))

noncomputable def F_impl_execs_L32 (s6 : Int × Int) : (Int × Int) → Option ((Int × Int) ⊕ Int) := fun s31 =>
  bif decide (s31.2 < s6.2) then
    gd (inK .i64 (s6.1 + (1 : Int))) <|
    Option.bind (F_impl_execs_1 (s6.1 + (1 : Int)) s31.1) fun v35 =>
    gd (inK .i64 (s31.2 + (1 : Int))) <|
    some (.inl (v35, (s31.2 + (1 : Int))))
  else
    some (.inr s31.1)

noncomputable def F_impl_execs_L38 (s6 : Int × Int) : (Int × Int) → Option ((Int × Int) ⊕ Int) := fun s37 =>
  bif decide (s37.2 < s6.1) then
    gd (inK .i64 (s37.2 + (1 : Int))) <|
    Option.bind (F_impl_execs_1 (s37.2 + (1 : Int)) s37.1) fun v41 =>
    some (.inl (v41, (s37.2 + (1 : Int))))
  else
    some (.inr s37.1)

noncomputable def F_impl_execs_L3 (p : List (List Ximpl_Instr)) : (Int × Int) → Option ((Int × Int) ⊕ Int) := fun s2 =>
  bif decide (s2.2 < (3 : Int)) then
    Option.bind (
      Option.bind (
        loopO (F_impl_execs_L8 p s2) ((0 : Int), (0 : Int), (0 : Int))
      ) fun s6 =>
      Option.bind (
        loopO (F_impl_execs_L32 s6) (s2.1, (0 : Int))
      ) fun s30 =>
      loopO (F_impl_execs_L38 s6) (s30, (0 : Int))
    ) fun s5 =>
    gd (inK .i64 (s2.2 + (1 : Int))) <|
    some (.inl (s5, (s2.2 + (1 : Int))))
  else
    some (.inr s2.1)

noncomputable def F_impl_execs (p : List (List Ximpl_Instr)) : Option Int :=
  Option.bind (
    loopO (F_impl_execs_L3 p) ((1 : Int), (0 : Int))
  ) fun s1 =>
  some s1

noncomputable def F_impl_ProgramValid_L11 (p : List (List Ximpl_Instr)) (s4 : Int × Int) : (Int × Int) → Option ((Int × Int) ⊕ (Int ⊕ (Int ⊕ ((Int × Int) ⊕ (Int ⊕ Bool))))) := fun s10 =>
  bif decide (s10.1 < ((p.getD s4.1.toNat default).length : Int)) then
    sumK (
      gd (decide (0 ≤ s10.1 ∧ s10.1 < ((p.getD s4.1.toNat default).length : Int))) <|
      Option.bind (F_impl_InstrValid (⟨((p.getD s4.1.toNat default).getD s10.1.toNat default).Op, ((p.getD s4.1.toNat default).getD s10.1.toNat default).Loc, ((p.getD s4.1.toNat default).getD s10.1.toNat default).Reg, ((p.getD s4.1.toNat default).getD s10.1.toNat default).Val⟩ : Ximpl_Instr)) fun v15 =>
      bif !v15 then
        some (.inr (.inr (.inr (.inr (.inr (.inr false))))))
      else
        bif ((((p.getD s4.1.toNat default).getD s10.1.toNat default).Op) != (4 : Int)) then
          gd (inK .i64 (s10.2 + (1 : Int))) <|
          some (.inl (s10.2 + (1 : Int)))
        else
          some (.inl s10.2)
    ) fun s13 =>
    gd (inK .i64 (s10.1 + (1 : Int))) <|
    some (.inl ((s10.1 + (1 : Int)), s13))
  else
    some (.inr (.inl s10.2))

noncomputable def F_impl_ProgramValid_L5 (p : List (List Ximpl_Instr)) : (Int × Int) → Option ((Int × Int) ⊕ (Int ⊕ Bool)) := fun s4 =>
  bif decide (s4.1 < (p.length : Int)) then
    sumK (
      gd (decide (0 ≤ s4.1 ∧ s4.1 < (p.length : Int))) <|
      sumK (
        loopO (F_impl_ProgramValid_L11 p s4) ((0 : Int), s4.2)
      ) fun s9 =>
      bif decide ((7 : Int) < ((p.getD s4.1.toNat default).length : Int)) then
        some (.inr (.inr (.inr false)))
      else
        some (.inl s9)
    ) fun s7 =>
    gd (inK .i64 (s4.1 + (1 : Int))) <|
    some (.inl ((s4.1 + (1 : Int)), s7))
  else
    some (.inr (.inl s4.2))

noncomputable def F_impl_ProgramValid (p : List (List Ximpl_Instr)) : Option Bool :=
  Option.bind (F_impl_within (p.length : Int) (1 : Int) (3 : Int)) fun v1 =>
  bif !v1 then
    some false
  else
    sumK (
      loopO (F_impl_ProgramValid_L5 p) ((0 : Int), (0 : Int))
    ) fun s3 =>
    Option.bind (bif decide (s3 ≤ (12 : Int)) then
      Option.bind (F_impl_execs p) fun v24 =>
      some (decide (v24 ≤ (3000 : Int)))
    else
      some false
    ) fun s22 =>
    some s22

noncomputable def F_laws_FnSmallTest (code : List Int) : Option Bool :=
  bif decide ((1048576 : Int) < (code.length : Int)) then
    some true
  else
    Option.bind (F_spec_DrawSmallTest code) fun v2 =>
    Option.bind (F_impl_SmallTest v2) fun v3 =>
    Option.bind (F_spec_SmallTest v2) fun v4 =>
    Option.bind (bif (!(v3.2 == v4.2)) then
      some true
    else
      Option.bind (F_impl_ProgramSame v3.1 v4.1) fun v7 =>
      some (!v7)
    ) fun s5 =>
    Option.bind (bif s5 then
      some true
    else
      Option.bind (bif decide ((0 : Int) ≤ v2) then
        Option.bind (F_impl_SmallTests ) fun v12 =>
        some (decide (v2 < v12))
      else
        some false
      ) fun s10 =>
      some (!(v3.2 == s10))
    ) fun s8 =>
    Option.bind (bif s8 then
      some true
    else
      some (!v3.2)
    ) fun s13 =>
    bif s13 then
      Option.bind (bif (v3.2 == v4.2) then
        Option.bind (F_impl_ProgramSame v3.1 v4.1) fun v18 =>
        some v18
      else
        some false
      ) fun s16 =>
      Option.bind (bif s16 then
        Option.bind (bif decide ((0 : Int) ≤ v2) then
          Option.bind (F_impl_SmallTests ) fun v23 =>
          some (decide (v2 < v23))
        else
          some false
        ) fun s21 =>
        some (v3.2 == s21)
      else
        some false
      ) fun s19 =>
      some s19
    else
      Option.bind (F_impl_NumberOfTest v3.1) fun v24 =>
      Option.bind (bif v24.2 then
        some (v24.1 == v2)
      else
        some false
      ) fun s25 =>
      Option.bind (bif s25 then
        Option.bind (F_impl_ProgramValid v3.1) fun v29 =>
        Option.bind (F_impl_SmallTests ) fun v30 =>
        gd (inK .i64 (v30 - (1 : Int))) <|
        some (v29 == (decide (v2 < (v30 - (1 : Int)))))
      else
        some false
      ) fun s27 =>
      some s27
end Go.Proofs.Ytjjkgemgomfmdaa
