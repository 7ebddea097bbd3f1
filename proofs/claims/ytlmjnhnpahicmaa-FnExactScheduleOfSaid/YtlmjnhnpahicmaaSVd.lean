/-
 Functions over plain values, as the program's code computes; printed by lift.py. No conditions.
-/
import Derived.Test.YtlmjnhnpahicmaaSt
import Derived.Test.YtlmjnhnpahicmaaBrVd
import Derived.Test.YtlmjnhnpahicmaaS26d
import Derived.Test.YtlmjnhnpahicmaaS33d
import Derived.Test.YtlmjnhnpahicmaaSMd
import Derived.Test.YtlmjnhnpahicmaaSrSd
namespace Go.Proofs.Ytlmjnhnpahicmaa
open Go.RowKit
set_option maxRecDepth 100000
noncomputable def F_impl_writersOf_L8 (list:List ZEv) (loc:Int):((List Int)×Int)->Option (((List Int)×Int) ⊕ (List Int)):=fun s7=>
 bif decide (s7.2<(list.length:Int)) then
  Option.bind (
   gd (decide (0<=s7.2/\s7.2<(list.length:Int))) <|
   Option.bind (bif (list.getD s7.2.toNat default).Writes then
    some (((list.getD s7.2.toNat default).Loc)==loc)
   else
    some false
   ) fun s15=>
   bif s15 then
    gd (capOK (s7.1.length+1) 8) <|
    some (s7.1++[s7.2])
   else
    some s7.1
  ) fun s13=>
  gd (inK .i64 (s7.2+(1:Int))) <|
  some (.inl (s13,(s7.2+(1:Int))))
 else
  some (.inr s7.1)
noncomputable def F_impl_writersOf (list:List ZEv) (loc:Int):Option (List Int):=
 Option.bind (
  loopO (F_impl_writersOf_L8 list loc) (([]:List Int),(0:Int))
 ) fun s1=>
 some s1
noncomputable def F_slices_Clone_int_int (s:List Int):Option (List Int):=
 nilK (s.isEmpty) (
  some ([]:List Int)
 ) (
  gd (capOK (([]:List Int).length+s.length) 8) <|
  some (([]:List Int)++s)
 )
noncomputable def F_impl_ExecValid_L11 (x:ZEx) (v3:(List ZEv)):Int->Option (Int ⊕ (Unit ⊕ Bool)):=fun s10=>
 bif decide (s10<(v3.length:Int)) then
  gd (decide (0<=s10/\s10<(v3.length:Int))) <|
  gd (decide (0<=s10/\s10<(x.From.length:Int))) <|
  Option.bind (bif !((v3.getD s10.toNat default).Reads) then
   some ((x.From.getD s10.toNat default) != (-1:Int))
  else
   some false
  ) fun s15=>
  Option.bind (bif s15 then
   some true
  else
   Option.bind (bif (v3.getD s10.toNat default).Reads then
    Option.bind (bif ((x.From.getD s10.toNat default)==s10) then
     some true
    else
     Option.bind (F_impl_writersOf v3 ((v3.getD s10.toNat default).Loc)) fun v23=>
     Option.bind (F_slices_Contains_int_int v23 (x.From.getD s10.toNat default)) fun v24=>
     some (!v24)
    ) fun s21=>
    some s21
   else
    some false
   ) fun s19=>
   some s19
  ) fun s17=>
  bif s17 then
   some (.inr (.inr false))
  else
   gd (inK .i64 (s10+(1:Int))) <|
   some (.inl (s10+(1:Int)))
 else
  some (.inr (.inl ()))
noncomputable def F_impl_ExecValid_L31 (x:ZEx) (v3:(List ZEv)):Int->Option (Int ⊕ (Unit ⊕ Bool)):=fun s30=>
 bif decide (s30<(x.Order.length:Int)) then
  gd (decide (0<=s30/\s30<(x.Order.length:Int))) <|
  Option.bind (F_slices_Clone_int_int (x.Order.getD s30.toNat default)) fun v34=>
  Option.bind (F_slices_Sort v34) fun v38=>
  Option.bind (F_impl_writersOf v3 s30) fun v39=>
  Option.bind (F_slices_Equal_int_int v38 v39) fun v40=>
  Option.bind (bif !v40 then
   some true
  else
   gd (decide (0<=(0:Int)/\(0:Int)<((x.Order.getD s30.toNat default).length:Int))) <|
   some (((x.Order.getD s30.toNat default).getD (0:Int).toNat default) != s30)
  ) fun s41=>
  bif s41 then
   some (.inr (.inr false))
  else
   gd (inK .i64 (s30+(1:Int))) <|
   some (.inl (s30+(1:Int)))
 else
  some (.inr (.inl ()))
noncomputable def F_impl_ExecValid (p:List (List ZIn)) (x:ZEx):Option Bool:=
 Option.bind (F_impl_ProgramValid p) fun v1=>
 bif !v1 then
  some false
 else
  Option.bind (F_impl_events p) fun v3=>
  Option.bind (bif ((x.From.length:Int) != (v3.length:Int)) then
   some true
  else
   some ((x.Order.length:Int) != (3:Int))
  ) fun s4=>
  bif s4 then
   some false
  else
   sumK (
    loopO (F_impl_ExecValid_L11 x v3) (0:Int)
   ) fun s7=>
   sumK (
    loopO (F_impl_ExecValid_L31 x v3) (0:Int)
   ) fun s27=>
   some true
noncomputable def F_impl_ScheduleOf (p:List (List ZIn)) (x:ZEx):Option ((List Int)×Bool):=
 Option.bind (F_impl_ExecValid p x) fun v1=>
 bif !v1 then
  some (([]:List Int),false)
 else
  Option.bind (F_impl_scheduleOf p x) fun v3=>
  some (v3.1,v3.2)
noncomputable def F_laws_szIntS (a:List Int) (left:Int):Option Int:=
 gd (inK .i64 (left-(a.length:Int))) <|
 bif decide ((left-(a.length:Int))<(0:Int)) then
  some (-1:Int)
 else
  some (left-(a.length:Int))
noncomputable def F_laws_szIntSS_L7 (a:List (List Int)):(Int×Int)->Option ((Int×Int) ⊕ (Int ⊕ Int)):=fun s6=>
 bif decide (s6.1<(a.length:Int)) then
  gd (decide (0<=s6.1/\s6.1<(a.length:Int))) <|
  Option.bind (F_laws_szIntS (a.getD s6.1.toNat default) s6.2) fun v10=>
  bif decide (v10<(0:Int)) then
   some (.inr (.inr (-1:Int)))
  else
   gd (inK .i64 (s6.1+(1:Int))) <|
   some (.inl ((s6.1+(1:Int)),v10))
 else
  some (.inr (.inl s6.2))
noncomputable def F_laws_szIntSS (a:List (List Int)) (left:Int):Option Int:=
 gd (inK .i64 (left-(a.length:Int))) <|
 bif decide ((left-(a.length:Int))<(0:Int)) then
  some (-1:Int)
 else
  sumK (
   loopO (F_laws_szIntSS_L7 a) ((0:Int),(left-(a.length:Int)))
  ) fun s3=>
  some s3
noncomputable def F_laws_szExec (a:Xlaws_Exec) (left:Int):Option Int:=
 Option.bind (F_laws_szIntS a.From left) fun v1=>
 bif decide (v1<(0:Int)) then
  some (-1:Int)
 else
  Option.bind (F_laws_szIntSS a.Order v1) fun v3=>
  bif decide (v3<(0:Int)) then
   some (-1:Int)
  else
   some v3
noncomputable def F_laws_eqIntSS_L6 (a:List (List Int)) (b:List (List Int)):Int->Option (Int ⊕ (Unit ⊕ Bool)):=fun s5=>
 bif decide (s5<(a.length:Int)) then
  gd (decide (0<=s5/\s5<(a.length:Int))) <|
  gd (decide (0<=s5/\s5<(b.length:Int))) <|
  Option.bind (F_laws_eqIntS (a.getD s5.toNat default) (b.getD s5.toNat default)) fun v10=>
  bif !v10 then
   some (.inr (.inr false))
  else
   gd (inK .i64 (s5+(1:Int))) <|
   some (.inl (s5+(1:Int)))
 else
  some (.inr (.inl ()))
noncomputable def F_laws_eqIntSS (a:List (List Int)) (b:List (List Int)):Option Bool:=
 bif ((a.length:Int) != (b.length:Int)) then
  some false
 else
  sumK (
   loopO (F_laws_eqIntSS_L6 a b) (0:Int)
  ) fun s2=>
  some true
noncomputable def F_laws_eqExec (a:ZEx) (b:ZEx):Option Bool:=
 Option.bind (F_laws_eqIntS a.From b.From) fun v1=>
 bif !v1 then
  some false
 else
  Option.bind (F_laws_eqIntSS a.Order b.Order) fun v3=>
  bif !v3 then
   some false
  else
   some true
end Go.Proofs.Ytlmjnhnpahicmaa
