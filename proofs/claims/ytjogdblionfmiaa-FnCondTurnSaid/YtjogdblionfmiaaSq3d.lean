/-
  spec.l3Seq over plain values, by hand. No conditions.
-/
import Derived.Test.YtjogdblionfmiaaS3d
namespace Go.Proofs.Ytjogdblionfmiaa
open Go.RowKit
set_option maxRecDepth 100000
abbrev Tb := List (List ByteArray)
noncomputable def F_spec_l3Seq_I (p : List (List Ximpl_Instr)) (s : Xspec_l3State) : (Int × Tb × List Xspec_l3State) → Option ((Int × Tb × List Xspec_l3State) ⊕ (Tb × List Xspec_l3State)) := fun z =>
  bif decide (z.1 < (p.length : Int)) then
    gd (decide (0 ≤ z.1 ∧ z.1 < (s.at_.length : Int))) <|
    gd (decide (0 ≤ z.1 ∧ z.1 < (p.length : Int))) <|
    bif (s.at_.getD z.1.toNat default == ((p.getD z.1.toNat default).length : Int)) then
      gd (inK .i64 (z.1 + (1 : Int))) <|
      some (.inl (z.1 + (1 : Int), z.2.1, z.2.2))
    else
      Option.bind (F_spec_l3Do p s z.1) fun n =>
      Option.bind (F_spec_l3Key n) fun k =>
      Option.bind (F_spec_l3Found z.2.1 k) fun f =>
      bif !f then
        Option.bind (F_spec_l3Hash k) fun v =>
        gd (decide (0 ≤ v ∧ v < (z.2.1.length : Int))) <|
        gd (capOK ((z.2.1.getD v.toNat []).length + 1) 16) <|
        gd (capOK (z.2.2.length + 1) 96) <|
        gd (inK .i64 (z.1 + (1 : Int))) <|
        some (.inl (z.1 + (1 : Int), z.2.1.set v.toNat (z.2.1.getD v.toNat [] ++ [k]), z.2.2 ++ [n]))
      else
        gd (inK .i64 (z.1 + (1 : Int))) <|
        some (.inl (z.1 + (1 : Int), z.2.1, z.2.2))
  else
    some (.inr z.2)
noncomputable def F_spec_l3Seq_O (p : List (List Ximpl_Instr)) : (Tb × List Xspec_l3State × Int × List (List Int)) → Option ((Tb × List Xspec_l3State × Int × List (List Int)) ⊕ (Int × List (List Int))) := fun z =>
  bif decide ((0 : Int) < (z.2.1.length : Int)) then
    gd (inK .i64 ((z.2.1.length : Int) - (1 : Int))) <|
    gd (decide (0 ≤ ((z.2.1.length : Int) - (1 : Int)) ∧ ((z.2.1.length : Int) - (1 : Int)) < (z.2.1.length : Int))) <|
    gd (inK .i64 (z.2.2.1 + (1 : Int))) <|
    Option.bind (F_spec_l3Done p (z.2.1.getD ((z.2.1.length : Int) - (1 : Int)).toNat default)) fun d =>
    Option.bind (bif d then
      Option.bind (F_spec_l3Outcome (z.2.1.getD ((z.2.1.length : Int) - (1 : Int)).toNat default)) fun o =>
      F_spec_l3Put z.2.2.2 o
    else some z.2.2.2) fun outs =>
    Option.bind (loopO (F_spec_l3Seq_I p (z.2.1.getD ((z.2.1.length : Int) - (1 : Int)).toNat default)) ((0 : Int), z.1, z.2.1.take (z.2.1.length - 1))) fun y =>
    some (.inl (y.1, y.2, z.2.2.1 + (1 : Int), outs))
  else
    some (.inr z.2.2)
noncomputable def F_spec_l3Seq (p : List (List Ximpl_Instr)) : Option Xspec_l3Search :=
  Option.bind (F_spec_l3Start p (0 : Int)) fun s =>
  Option.bind (F_spec_l3Key s) fun k =>
  Option.bind (F_spec_l3Hash k) fun v =>
  gd (decide (0 ≤ v ∧ v < ((List.replicate 4096 ([] : List ByteArray)).length : Int))) <|
  Option.bind (loopO (F_spec_l3Seq_O p) ((List.replicate 4096 ([] : List ByteArray)).set v.toNat ([] ++ [k]), [s], (0 : Int), ([] : List (List Int)))) fun y =>
  some ⟨y.1, y.2⟩
end Go.Proofs.Ytjogdblionfmiaa
