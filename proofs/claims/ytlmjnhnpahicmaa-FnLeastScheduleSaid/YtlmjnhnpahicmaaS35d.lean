/-
 Functions over plain values, as the program's code computes; printed by lift.py. No conditions.
-/
import Derived.Test.YtlmjnhnpahicmaaSt
import Derived.Test.YtlmjnhnpahicmaaS26d
import Derived.Test.YtlmjnhnpahicmaaS33d
import Derived.Test.YtlmjnhnpahicmaaSDd
namespace Go.Proofs.Ytlmjnhnpahicmaa
open Go.RowKit
set_option maxRecDepth 100000
noncomputable def F_laws_FnLeastSchedule_L20 (v2:(List (List ZIn))×(List Int)) (v3:(List Int)×Bool):Int->Option (Int ⊕ Int):=fun s19=>
 sumK (
  Option.bind (
   bif decide (s19<(v2.2.length:Int)) then
    gd (decide (0<=s19/\s19<(v3.1.length:Int))) <|
    gd (decide (0<=s19/\s19<(v2.2.length:Int))) <|
    some ((v3.1.getD s19.toNat default)==(v2.2.getD s19.toNat default))
   else
    some false
  ) fun s22=>
  bif s22 then
   some (.inl ())
  else
   some (.inr (.inr s19))
 ) fun s21=>
 gd (inK .i64 (s19+(1:Int))) <|
 some (.inl (s19+(1:Int)))
noncomputable def F_laws_FnLeastSchedule (code:List Int):Option Bool:=
 bif decide ((1048576:Int)<(code.length:Int)) then
  some true
 else
  Option.bind (F_spec_DrawLeastSchedule code) fun v2=>
  Option.bind (F_impl_LeastSchedule v2.1 v2.2) fun v3=>
  Option.bind (F_spec_LeastSchedule v2.1 v2.2) fun v4=>
  Option.bind (bif (!(v3.2==v4.2)) then
   some true
  else
   Option.bind (F_laws_wmInts v3.1 v4.1) fun v7=>
   some (!v7)
  ) fun s5=>
  Option.bind (bif s5 then
   some true
  else
   some (!v3.2)
  ) fun s8=>
  bif s8 then
   Option.bind (bif (v3.2==v4.2) then
    Option.bind (F_laws_wmInts v3.1 v4.1) fun v13=>
    some v13
   else
    some false
   ) fun s11=>
   some s11
  else
   Option.bind (F_impl_RunSchedule v2.1 v2.2) fun v14=>
   Option.bind (F_impl_RunSchedule v2.1 v3.1) fun v15=>
   Option.bind (
    loopO (F_laws_FnLeastSchedule_L20 v2 v3) (0:Int)
   ) fun s16=>
   Option.bind (
    bif v14.2 then
     bif v15.2 then
      Option.bind (F_laws_wmInts v14.1 v15.1) fun v31=>
      bif v31 then
       Option.bind (F_impl_SameTrace v2.1 v2.2 v3.1) fun v33=>
       bif v33 then
        bif (s16==(v2.2.length:Int)) then
         some true
        else
         gd (decide (0<=s16/\s16<(v3.1.length:Int))) <|
         gd (decide (0<=s16/\s16<(v2.2.length:Int))) <|
         some (decide ((v3.1.getD s16.toNat default)<(v2.2.getD s16.toNat default)))
       else
        some false
      else
       some false
     else
      some false
    else
     some false
   ) fun s28=>
   some s28
end Go.Proofs.Ytlmjnhnpahicmaa
