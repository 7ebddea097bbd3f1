/-
  Functions over plain values, as the program's code computes; printed by lift.py. No conditions.
-/
import Derived.Test.YtjogdblionfmiaaSt
import Derived.Test.YtjogdblionfmiaaBrTid
import Derived.Test.YtjogdblionfmiaaSPd
import Derived.Test.YtjogdblionfmiaaSTd
namespace Go.Proofs.Ytjogdblionfmiaa
open Go.RowKit
set_option maxRecDepth 100000
noncomputable def F_laws_FnTurnOutcome (code : List Int) : Option Bool :=
  bif decide ((1048576 : Int) < (code.length : Int)) then
    some true
  else
    Option.bind (F_spec_DrawTurnOutcome code) fun v2 =>
    Option.bind (F_impl_TurnOutcome v2.1 v2.2.1 v2.2.2.1 v2.2.2.2.1 v2.2.2.2.2.1 v2.2.2.2.2.2) fun v3 =>
    Option.bind (F_spec_TurnOutcome v2.1 v2.2.1 v2.2.2.1 v2.2.2.2.1 v2.2.2.2.2.1 v2.2.2.2.2.2) fun v4 =>
    Option.bind (bif (!(v3.2 == v4.2)) then
      some true
    else
      Option.bind (F_laws_wmInts v3.1 v4.1) fun v7 =>
      some (!v7)
    ) fun s5 =>
    Option.bind (bif s5 then
      some true
    else
      some (!v3.2)
    ) fun s8 =>
    bif s8 then
      Option.bind (bif (v3.2 == v4.2) then
        Option.bind (F_laws_wmInts v3.1 v4.1) fun v13 =>
        some v13
      else
        some false
      ) fun s11 =>
      some s11
    else
      Option.bind (F_impl_TurnOutcome v2.1 v3.1 v2.2.2.1 v2.2.2.2.1 v2.2.2.2.2.1 v2.2.2.2.2.2) fun v14 =>
      Option.bind (F_impl_TurnThreads v2.1 v2.2.2.1 v2.2.2.2.1) fun v15 =>
      Option.bind (F_impl_TurnThreads v15.1 v2.2.2.1 v2.2.2.2.1) fun v16 =>
      Option.bind (bif v14.2 then
        Option.bind (F_laws_wmInts v14.1 v2.2.1) fun v19 =>
        some v19
      else
        some false
      ) fun s17 =>
      Option.bind (bif s17 then
        some v15.2
      else
        some false
      ) fun s20 =>
      Option.bind (bif s20 then
        some v16.2
      else
        some false
      ) fun s22 =>
      Option.bind (bif s22 then
        Option.bind (F_impl_ProgramSame v16.1 v2.1) fun v26 =>
        some v26
      else
        some false
      ) fun s24 =>
      some s24
end Go.Proofs.Ytjogdblionfmiaa
