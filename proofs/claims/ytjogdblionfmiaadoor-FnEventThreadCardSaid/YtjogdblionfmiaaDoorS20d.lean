/-
  Functions over plain values, as the program's code computes; printed by lift.py. No conditions.
-/
import Derived.Test.YtjogdblionfmiaaDoorSt
import Derived.Test.YtjogdblionfmiaaDoorMud
import Derived.Test.YtjogdblionfmiaaDoorSEd
import Derived.Test.YtjogdblionfmiaaDoorSQd
import Derived.Test.YtjogdblionfmiaaDoorSRd
namespace Go.Proofs.YtjogdblionfmiaaDoor
open Go.RowKit
set_option maxRecDepth 100000
noncomputable def F_spec_DrawEventText (code : List Int) : Option ((List (List Ximpl_Instr)) × Int) :=
  Option.bind (F_spec_l17Open code) fun v1 =>
  Option.bind (F_spec_l1Draw (⟨v1.b, v1.p⟩ : Xspec_l17Rd)) fun v2 =>
  Option.bind (F_spec_l1Mutate (⟨v2.1.b, v2.1.p⟩ : Xspec_l17Rd) v2.2) fun v3 =>
  Option.bind (F_spec_l17Rd_num (⟨v3.1.b, v3.1.p⟩ : Xspec_l17Rd) ([(3 : Int), (0 : Int), (4 : Int), (5 : Int), (6 : Int), (-1 : Int), (20 : Int)] : List Int)) fun v4 =>
  some (v3.2, v4.2)

noncomputable def F_laws_FnEventThread (code : List Int) : Option Bool :=
  bif decide ((1048576 : Int) < (code.length : Int)) then
    some true
  else
    Option.bind (F_spec_DrawEventText code) fun v2 =>
    Option.bind (F_impl_EventText v2.1 v2.2) fun v3 =>
    Option.bind (F_impl_EventsOf v2.1) fun v4 =>
    Option.bind (F_spec_EventText v2.1 v2.2) fun v5 =>
    Option.bind (bif (!decide (v3 = v5)) then
      some true
    else
      some (decide (v3 = (⟨#[]⟩ : ByteArray)))
    ) fun s6 =>
    Option.bind (bif s6 then
      some true
    else
      gd (decide (0 ≤ v2.2 ∧ v2.2 < (v4.length : Int))) <|
      some (decide (((v4.getD v2.2.toNat default).Thread) < (0 : Int)))
    ) fun s8 =>
    bif s8 then
      Option.bind (F_spec_EventText v2.1 v2.2) fun v12 =>
      some (decide (v3 = v12))
    else
      gd (decide (0 ≤ v2.2 ∧ v2.2 < (v4.length : Int))) <|
      gd (decide (0 ≤ (v4.getD v2.2.toNat default).Thread ∧ (v4.getD v2.2.toNat default).Thread < (v2.1.length : Int))) <|
      gd (decide (0 ≤ (v4.getD v2.2.toNat default).Index ∧ (v4.getD v2.2.toNat default).Index < ((v2.1.getD ((v4.getD v2.2.toNat default).Thread).toNat default).length : Int))) <|
      Option.bind (F_impl_FormatInstr ((v2.1.getD ((v4.getD v2.2.toNat default).Thread).toNat default).getD ((v4.getD v2.2.toNat default).Index).toNat default)) fun v16 =>
      gd (inK .i64 ((v16.size : Int) + (2 : Int))) <|
      Option.bind (bif ((v3.size : Int) == ((v16.size : Int) + (2 : Int))) then
        gd (decide (0 ≤ (2 : Int) ∧ (2 : Int) ≤ (v3.size : Int) ∧ (v3.size : Int) ≤ (v3.size : Int))) <|
        some (decide ((v3.extract (2 : Int).toNat (v3.size : Int).toNat) = v16))
      else
        some false
      ) fun s18 =>
      some s18
end Go.Proofs.YtjogdblionfmiaaDoor
