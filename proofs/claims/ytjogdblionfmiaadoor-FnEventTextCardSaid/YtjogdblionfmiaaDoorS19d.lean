/-
  Functions over plain values, as the program's code computes; printed by lift.py. No conditions.
-/
import Derived.Test.YtjogdblionfmiaaDoorSt
import Derived.Test.YtjogdblionfmiaaDoorMud
import Derived.Test.YtjogdblionfmiaaDoorSEd
import Derived.Test.YtjogdblionfmiaaDoorSQd
import Derived.Test.YtjogdblionfmiaaDoorSRd
namespace Go.Proofs.YtjogdblionfmiaaDoor
open Go.RowKit
set_option maxRecDepth 100000
noncomputable def F_spec_DrawEventText (code : List Int) : Option ((List (List Ximpl_Instr)) × Int) :=
  Option.bind (F_spec_l17Open code) fun v1 =>
  Option.bind (F_spec_l1Draw (⟨v1.b, v1.p⟩ : Xspec_l17Rd)) fun v2 =>
  Option.bind (F_spec_l1Mutate (⟨v2.1.b, v2.1.p⟩ : Xspec_l17Rd) v2.2) fun v3 =>
  Option.bind (F_spec_l17Rd_num (⟨v3.1.b, v3.1.p⟩ : Xspec_l17Rd) ([(3 : Int), (0 : Int), (4 : Int), (5 : Int), (6 : Int), (-1 : Int), (20 : Int)] : List Int)) fun v4 =>
  some (v3.2, v4.2)

noncomputable def F_laws_FnEventText_L16 (v2 : (List (List Ximpl_Instr)) × Int) (v3 : ByteArray) (v4 : (List Ximpl_Event)) : Int → Option (Int ⊕ (Unit ⊕ Bool)) := fun s15 =>
  bif decide (s15 < (v4.length : Int)) then
    sumK (
      Option.bind (
        gd (decide (0 ≤ s15 ∧ s15 < (v4.length : Int))) <|
        gd (decide (0 ≤ v2.2 ∧ v2.2 < (v4.length : Int))) <|
        bif (((v4.getD s15.toNat default).Thread) != ((v4.getD v2.2.toNat default).Thread)) then
          Option.bind (F_impl_EventText v2.1 s15) fun v23 =>
          some (decide (v23 = v3))
        else
          some false
      ) fun s19 =>
      bif s19 then
        some (.inr (.inr (.inr false)))
      else
        some (.inl ())
    ) fun s18 =>
    gd (inK .i64 (s15 + (1 : Int))) <|
    some (.inl (s15 + (1 : Int)))
  else
    some (.inr (.inl ()))

noncomputable def F_laws_FnEventText (code : List Int) : Option Bool :=
  bif decide ((1048576 : Int) < (code.length : Int)) then
    some true
  else
    Option.bind (F_spec_DrawEventText code) fun v2 =>
    Option.bind (F_impl_EventText v2.1 v2.2) fun v3 =>
    Option.bind (F_impl_EventsOf v2.1) fun v4 =>
    Option.bind (F_spec_EventText v2.1 v2.2) fun v5 =>
    Option.bind (bif (!decide (v3 = v5)) then
      some true
    else
      some (decide (v3 = (⟨#[]⟩ : ByteArray)))
    ) fun s6 =>
    bif s6 then
      Option.bind (F_spec_EventText v2.1 v2.2) fun v9 =>
      Option.bind (bif decide (v3 = v9) then
        Option.bind (bif decide (v2.2 < (0 : Int)) then
          some true
        else
          some (decide ((v4.length : Int) ≤ v2.2))
        ) fun s12 =>
        some s12
      else
        some false
      ) fun s10 =>
      some s10
    else
      sumK (
        loopO (F_laws_FnEventText_L16 v2 v3 v4) (0 : Int)
      ) fun s14 =>
      some true
end Go.Proofs.YtjogdblionfmiaaDoor
