/-
 Functions over plain values, as the program's code computes; printed by lift.py. No conditions.
-/
import Derived.Test.YtlmjnhnpahicmaaSt
import Derived.Test.YtlmjnhnpahicmaaS26d
import Derived.Test.YtlmjnhnpahicmaaS33d
import Derived.Test.YtlmjnhnpahicmaaSDd
namespace Go.Proofs.Ytlmjnhnpahicmaa
open Go.RowKit
set_option maxRecDepth 100000
noncomputable def F_laws_FnSameTrace (code:List Int):Option Bool:=
 bif decide ((1048576:Int)<(code.length:Int)) then
  some true
 else
  Option.bind (F_spec_DrawSameTrace code) fun v2=>
  Option.bind (F_impl_SameTrace v2.1 v2.2.1 v2.2.2) fun v3=>
  Option.bind (F_spec_SameTrace v2.1 v2.2.1 v2.2.2) fun v4=>
  Option.bind (bif (!(v3==v4)) then
   some true
  else
   Option.bind (F_impl_SameTrace v2.1 v2.2.2 v2.2.1) fun v7=>
   some (!(v3==v7))
  ) fun s5=>
  Option.bind (bif s5 then
   some true
  else
   some (!v3)
  ) fun s8=>
  bif s8 then
   Option.bind (F_spec_SameTrace v2.1 v2.2.1 v2.2.2) fun v11=>
   Option.bind (bif (v3==v11) then
    Option.bind (F_impl_SameTrace v2.1 v2.2.2 v2.2.1) fun v14=>
    some (v3==v14)
   else
    some false
   ) fun s12=>
   some s12
  else
   Option.bind (F_impl_LeastSchedule v2.1 v2.2.1) fun v15=>
   Option.bind (F_impl_LeastSchedule v2.1 v2.2.2) fun v16=>
   Option.bind (F_impl_RunSchedule v2.1 v2.2.1) fun v17=>
   Option.bind (F_impl_RunSchedule v2.1 v2.2.2) fun v18=>
   Option.bind (bif v15.2 then
    some v16.2
   else
    some false
   ) fun s19=>
   Option.bind (bif s19 then
    Option.bind (F_laws_wmInts v15.1 v16.1) fun v23=>
    some v23
   else
    some false
   ) fun s21=>
   Option.bind (bif s21 then
    some v17.2
   else
    some false
   ) fun s24=>
   Option.bind (bif s24 then
    some v18.2
   else
    some false
   ) fun s26=>
   Option.bind (bif s26 then
    Option.bind (F_laws_wmInts v17.1 v18.1) fun v30=>
    some v30
   else
    some false
   ) fun s28=>
   some s28
end Go.Proofs.Ytlmjnhnpahicmaa
