/-
 Functions over plain values, as the program's code computes; printed by lift.py. No conditions.
-/
import Derived.Test.YtlgfihlflchhgaaSt
import Derived.Test.YtlgfihlflchhgaaBrDid
import Derived.Test.YtlgfihlflchhgaaBrDsd
import Derived.Test.YtlgfihlflchhgaaMud
import Derived.Test.YtlgfihlflchhgaaSMd
import Derived.Test.YtlgfihlflchhgaaSPd
import Derived.Test.YtlgfihlflchhgaaSQd
import Derived.Test.YtlgfihlflchhgaaSRd
namespace Go.Proofs.Ytlgfihlflchhgaa
open Go.RowKit
set_option maxRecDepth 100000
noncomputable def F_spec_l12Two (code:List Int):Option ((List (List ZIn))×Int×Int):=
 Option.bind (F_spec_l17Open code) fun v1=>
 Option.bind (F_spec_l8Small (⟨v1.b,v1.p⟩:Xspec_l17Rd)) fun v2=>
 Option.bind (F_spec_l1Mutate (⟨v2.1.b,v2.1.p⟩:Xspec_l17Rd) v2.2) fun v3=>
 Option.bind (F_spec_l17Rd_num (⟨v3.1.b,v3.1.p⟩:Xspec_l17Rd) ([(0:Int),(1:Int),(0:Int),(2:Int),(-1:Int)]:List Int)) fun v4=>
 Option.bind (F_spec_l17Rd_num (⟨v4.1.b,v4.1.p⟩:Xspec_l17Rd) ([(1:Int),(0:Int),(2:Int),(3:Int)]:List Int)) fun v5=>
 some (v3.2,v4.2,v5.2)
noncomputable def F_spec_DrawDropThread (code:List Int):Option ((List (List ZIn))×Int):=
 Option.bind (F_spec_l12Two code) fun v1=>
 some (v1.1,v1.2.1)
noncomputable def F_laws_FnDropThread_L20 (v2:(List (List ZIn))×Int):(Int×Bool)->Option ((Int×Bool) ⊕ Bool):=fun s19=>
 gd (decide (0<=v2.2/\v2.2<(v2.1.length:Int))) <|
 bif decide (s19.1<((v2.1.getD v2.2.toNat default).length:Int)) then
  Option.bind (bif s19.2 then
   gd (decide (0<=s19.1/\s19.1<((v2.1.getD v2.2.toNat default).length:Int))) <|
   Option.bind (bif ((((v2.1.getD v2.2.toNat default).getD s19.1.toNat default).Op)==(1:Int)) then
    some true
   else
    some ((((v2.1.getD v2.2.toNat default).getD s19.1.toNat default).Op)==(4:Int))
   ) fun s26=>
   some s26
  else
   some false
  ) fun s23=>
  gd (inK .i64 (s19.1+(1:Int))) <|
  some (.inl ((s19.1+(1:Int)),s23))
 else
  some (.inr s19.2)
noncomputable def F_laws_FnDropThread (code:List Int):Option Bool:=
 bif decide ((1048576:Int)<(code.length:Int)) then
  some true
 else
  Option.bind (F_spec_DrawDropThread code) fun v2=>
  Option.bind (F_impl_DropThread v2.1 v2.2) fun v3=>
  Option.bind (F_spec_DropThread v2.1 v2.2) fun v4=>
  Option.bind (bif (!(v3.2==v4.2)) then
   some true
  else
   Option.bind (F_impl_ProgramSame v3.1 v4.1) fun v7=>
   some (!v7)
  ) fun s5=>
  Option.bind (bif s5 then
   some true
  else
   some (!v3.2)
  ) fun s8=>
  bif s8 then
   Option.bind (bif (v3.2==v4.2) then
    Option.bind (F_impl_ProgramSame v3.1 v4.1) fun v13=>
    some v13
   else
    some false
   ) fun s11=>
   some s11
  else
   Option.bind (F_impl_RunSeq v2.1) fun v14=>
   Option.bind (F_impl_RunSeq v3.1) fun v15=>
   Option.bind (
    loopO (F_laws_FnDropThread_L20 v2) ((0:Int),true)
   ) fun s16=>
   gd (inK .i64 ((v2.1.length:Int)-(1:Int))) <|
   Option.bind (bif ((v3.1.length:Int)==((v2.1.length:Int)-(1:Int))) then
    Option.bind (bif !s16 then
     some true
    else
     some (decide ((v15.length:Int)<=(v14.length:Int)))
    ) fun s32=>
    some s32
   else
    some false
   ) fun s30=>
   some s30
end Go.Proofs.Ytlgfihlflchhgaa
