/-
 Functions over plain values, as the program's code computes; printed by lift.py. No conditions.
-/
import Derived.Test.YtlmjnhnpahicmaaSt
import Derived.Test.YtlmjnhnpahicmaaBrVd
import Derived.Test.YtlmjnhnpahicmaaS26d
import Derived.Test.YtlmjnhnpahicmaaSMd
namespace Go.Proofs.Ytlmjnhnpahicmaa
open Go.RowKit
set_option maxRecDepth 100000
noncomputable def F_impl_tracer_last_L14 (s:ZTv) (pc:Z3i) (loc:Int) (s4:Int×Int):(Int×Int)->Option ((Int×Int) ⊕ Int):=fun s13=>
 bif decide (s13.1<((((s.p.getD s4.1.toNat default).drop (0:Int).toNat).take ((Z3i.get pc s4.1).toNat-(0:Int).toNat)).length:Int)) then
  Option.bind (
   gd (decide (0<=s13.1/\s13.1<((((s.p.getD s4.1.toNat default).drop (0:Int).toNat).take ((Z3i.get pc s4.1).toNat-(0:Int).toNat)).length:Int))) <|
   Option.bind (F_impl_Instr_writes (⟨((((s.p.getD s4.1.toNat default).drop (0:Int).toNat).take ((Z3i.get pc s4.1).toNat-(0:Int).toNat)).getD s13.1.toNat default).Op,((((s.p.getD s4.1.toNat default).drop (0:Int).toNat).take ((Z3i.get pc s4.1).toNat-(0:Int).toNat)).getD s13.1.toNat default).Loc,((((s.p.getD s4.1.toNat default).drop (0:Int).toNat).take ((Z3i.get pc s4.1).toNat-(0:Int).toNat)).getD s13.1.toNat default).Reg,((((s.p.getD s4.1.toNat default).drop (0:Int).toNat).take ((Z3i.get pc s4.1).toNat-(0:Int).toNat)).getD s13.1.toNat default).Val⟩:ZIn)) fun v18=>
   Option.bind (bif v18 then
    some ((((((s.p.getD s4.1.toNat default).drop (0:Int).toNat).take ((Z3i.get pc s4.1).toNat-(0:Int).toNat)).getD s13.1.toNat default).Loc)==loc)
   else
    some false
   ) fun s19=>
   bif s19 then
    gd (inK .i64 (s13.2+(1:Int))) <|
    some (s13.2+(1:Int))
   else
    some s13.2
  ) fun s16=>
  gd (inK .i64 (s13.1+(1:Int))) <|
  some (.inl ((s13.1+(1:Int)),s16))
 else
  some (.inr s13.2)
noncomputable def F_impl_tracer_last_L5 (s:ZTv) (pc:Z3i) (loc:Int):(Int×Int)->Option ((Int×Int) ⊕ Int):=fun s4=>
 bif decide (s4.1<(s.p.length:Int)) then
  Option.bind (
   gd (decide (0<=s4.1/\s4.1<(s.p.length:Int))) <|
   gd (decide (0<=s4.1/\s4.1<3)) <|
   gd (decide (0<=(0:Int)/\(0:Int)<=(Z3i.get pc s4.1)/\(Z3i.get pc s4.1)<=((s.p.getD s4.1.toNat default).length:Int))) <|
   loopO (F_impl_tracer_last_L14 s pc loc s4) ((0:Int),s4.2)
  ) fun s7=>
  gd (inK .i64 (s4.1+(1:Int))) <|
  some (.inl ((s4.1+(1:Int)),s7))
 else
  some (.inr s4.2)
noncomputable def F_impl_tracer_last (s:ZTv) (pc:Z3i) (loc:Int):Option Int:=
 Option.bind (
  loopO (F_impl_tracer_last_L5 s pc loc) ((0:Int),(0:Int))
 ) fun s1=>
 some s1
noncomputable def F_impl_tracer_can (s:ZTv) (pc:Z3i) (t:Int):Option Bool:=
 gd (decide (0<=t/\t<3)) <|
 gd (decide (0<=t/\t<(s.p.length:Int))) <|
 bif ((Z3i.get pc t)==((s.p.getD t.toNat default).length:Int)) then
  some false
 else
  gd (decide (0<=(Z3i.get pc t)/\(Z3i.get pc t)<((s.p.getD t.toNat default).length:Int))) <|
  gd (decide (0<=t/\t<(s.number.length:Int))) <|
  gd (decide (0<=(Z3i.get pc t)/\(Z3i.get pc t)<((s.number.getD t.toNat default).length:Int))) <|
  bif ((((s.p.getD t.toNat default).getD (Z3i.get pc t).toNat default).Op)==(4:Int)) then
   some true
  else
   gd (decide (0<=((s.p.getD t.toNat default).getD (Z3i.get pc t).toNat default).Loc/\((s.p.getD t.toNat default).getD (Z3i.get pc t).toNat default).Loc<(s.x.Order.length:Int))) <|
   Option.bind (F_impl_tracer_last s pc (((s.p.getD t.toNat default).getD (Z3i.get pc t).toNat default).Loc)) fun v9=>
   Option.bind (
    Option.bind (F_impl_Instr_reads (⟨((s.p.getD t.toNat default).getD (Z3i.get pc t).toNat default).Op,((s.p.getD t.toNat default).getD (Z3i.get pc t).toNat default).Loc,((s.p.getD t.toNat default).getD (Z3i.get pc t).toNat default).Reg,((s.p.getD t.toNat default).getD (Z3i.get pc t).toNat default).Val⟩:ZIn)) fun v11=>
    bif !v11 then
     Option.bind (F_impl_Instr_writes (⟨((s.p.getD t.toNat default).getD (Z3i.get pc t).toNat default).Op,((s.p.getD t.toNat default).getD (Z3i.get pc t).toNat default).Loc,((s.p.getD t.toNat default).getD (Z3i.get pc t).toNat default).Reg,((s.p.getD t.toNat default).getD (Z3i.get pc t).toNat default).Val⟩:ZIn)) fun v13=>
     bif !v13 then
      some true
     else
      gd (inK .i64 (v9+(1:Int))) <|
      gd (decide (0<=(v9+(1:Int))/\(v9+(1:Int))<((s.x.Order.getD (((s.p.getD t.toNat default).getD (Z3i.get pc t).toNat default).Loc).toNat default).length:Int))) <|
      some (((s.x.Order.getD (((s.p.getD t.toNat default).getD (Z3i.get pc t).toNat default).Loc).toNat default).getD (v9+(1:Int)).toNat default)==((s.number.getD t.toNat default).getD (Z3i.get pc t).toNat default))
    else
     gd (decide (0<=((s.number.getD t.toNat default).getD (Z3i.get pc t).toNat default)/\((s.number.getD t.toNat default).getD (Z3i.get pc t).toNat default)<(s.x.From.length:Int))) <|
     gd (decide (0<=v9/\v9<((s.x.Order.getD (((s.p.getD t.toNat default).getD (Z3i.get pc t).toNat default).Loc).toNat default).length:Int))) <|
     bif ((s.x.From.getD ((s.number.getD t.toNat default).getD (Z3i.get pc t).toNat default).toNat default)==((s.x.Order.getD (((s.p.getD t.toNat default).getD (Z3i.get pc t).toNat default).Loc).toNat default).getD v9.toNat default)) then
      Option.bind (F_impl_Instr_writes (⟨((s.p.getD t.toNat default).getD (Z3i.get pc t).toNat default).Op,((s.p.getD t.toNat default).getD (Z3i.get pc t).toNat default).Loc,((s.p.getD t.toNat default).getD (Z3i.get pc t).toNat default).Reg,((s.p.getD t.toNat default).getD (Z3i.get pc t).toNat default).Val⟩:ZIn)) fun v20=>
      bif !v20 then
       some true
      else
       gd (inK .i64 (v9+(1:Int))) <|
       gd (decide (0<=(v9+(1:Int))/\(v9+(1:Int))<((s.x.Order.getD (((s.p.getD t.toNat default).getD (Z3i.get pc t).toNat default).Loc).toNat default).length:Int))) <|
       some (((s.x.Order.getD (((s.p.getD t.toNat default).getD (Z3i.get pc t).toNat default).Loc).toNat default).getD (v9+(1:Int)).toNat default)==((s.number.getD t.toNat default).getD (Z3i.get pc t).toNat default))
     else
      some false
   ) fun s10=>
   some s10
noncomputable def F_impl_tracer_from_L6 (s:ZTr) (pc:Z3i):(Int×Bool)->Option ((Int×Bool) ⊕ Bool):=fun s5=>
 bif decide (s5.1<(s.p.length:Int)) then
  Option.bind (
   bif s5.2 then
    gd (decide (0<=s5.1/\s5.1<3)) <|
    gd (decide (0<=s5.1/\s5.1<(s.p.length:Int))) <|
    some ((Z3i.get pc s5.1)==((s.p.getD s5.1.toNat default).length:Int))
   else
    some false
  ) fun s8=>
  gd (inK .i64 (s5.1+(1:Int))) <|
  some (.inl ((s5.1+(1:Int)),s8))
 else
  some (.inr s5.2)
noncomputable def F_impl_tracer_from_L19 (rcf:ZTr->Z3i->Option (ZTr×Bool)) (s:ZTr) (pc:Z3i):((List (List ZIn))×(List Int)×(List (List Int))×(List (List Int))×(List Int)×(List ((Int×Int×Int)×Bool))×Int)->Option (((List (List ZIn))×(List Int)×(List (List Int))×(List (List Int))×(List Int)×(List ((Int×Int×Int)×Bool))×Int) ⊕ (((List (List ZIn))×(List Int)×(List (List Int))×(List (List Int))×(List Int)×(List ((Int×Int×Int)×Bool))) ⊕ (ZTr×Bool))):=fun s18=>
 bif decide (s18.2.2.2.2.2.2<(s.p.length:Int)) then
  sumK (
   Option.bind (F_impl_tracer_can (⟨s18.1,(⟨s18.2.1,s18.2.2.1⟩:ZEx),s18.2.2.2.1⟩:ZTv) pc s18.2.2.2.2.2.2) fun v23=>
   bif !v23 then
    some (.inl (s18.1,s18.2.1,s18.2.2.1,s18.2.2.2.1,s18.2.2.2.2.1,s18.2.2.2.2.2.1))
   else
    gd (decide (0<=s18.2.2.2.2.2.2/\s18.2.2.2.2.2.2<3)) <|
    gd (inK .i64 ((Z3i.get pc s18.2.2.2.2.2.2)+(1:Int))) <|
    gd (capOK (s18.2.2.2.2.1.length+1) 8) <|
    Option.bind (rcf (⟨s18.1,(⟨s18.2.1,s18.2.2.1⟩:ZEx),s18.2.2.2.1,(s18.2.2.2.2.1++[s18.2.2.2.2.2.2]),s18.2.2.2.2.2.1⟩:ZTr) (Z3i.set pc s18.2.2.2.2.2.2 ((Z3i.get pc s18.2.2.2.2.2.2)+(1:Int)))) fun v28=>
    bif v28.2 then
     some (.inr (.inr (.inr ((⟨v28.1.p,(⟨v28.1.x.From,v28.1.x.Order⟩:ZEx),v28.1.number,v28.1.schedule,v28.1.failed⟩:ZTr),true))))
    else
     gd (inK .i64 ((v28.1.schedule.length:Int)-(1:Int))) <|
     gd (decide (0<=(0:Int)/\(0:Int)<=((v28.1.schedule.length:Int)-(1:Int))/\((v28.1.schedule.length:Int)-(1:Int))<=(v28.1.schedule.length:Int))) <|
     some (.inl (v28.1.p,v28.1.x.From,v28.1.x.Order,v28.1.number,((v28.1.schedule.drop (0:Int).toNat).take (((v28.1.schedule.length:Int)-(1:Int)).toNat-(0:Int).toNat)),v28.1.failed))
  ) fun s22=>
  gd (inK .i64 (s18.2.2.2.2.2.2+(1:Int))) <|
  some (.inl (s22.1,s22.2.1,s22.2.2.1,s22.2.2.2.1,s22.2.2.2.2.1,s22.2.2.2.2.2,(s18.2.2.2.2.2.2+(1:Int))))
 else
  some (.inr (.inl (s18.1,s18.2.1,s18.2.2.1,s18.2.2.2.1,s18.2.2.2.2.1,s18.2.2.2.2.2.1)))
noncomputable def F_impl_tracer_from_B (rcf:ZTr->Z3i->Option (ZTr×Bool)) (s:ZTr) (pc:Z3i):Option (ZTr×Bool):=
 bif ((mget s.failed (pc.x0,pc.x1,pc.x2)).getD false) then
  some ((⟨s.p,(⟨s.x.From,s.x.Order⟩:ZEx),s.number,s.schedule,s.failed⟩:ZTr),false)
 else
  Option.bind (
   loopO (F_impl_tracer_from_L6 s pc) ((0:Int),true)
  ) fun s2=>
  bif s2 then
   some ((⟨s.p,(⟨s.x.From,s.x.Order⟩:ZEx),s.number,s.schedule,s.failed⟩:ZTr),true)
  else
   sumK (
    loopO (F_impl_tracer_from_L19 rcf s pc) (s.p,s.x.From,s.x.Order,s.number,s.schedule,s.failed,(0:Int))
   ) fun s14=>
   some ((⟨s14.1,(⟨s14.2.1,s14.2.2.1⟩:ZEx),s14.2.2.2.1,s14.2.2.2.2.1,(mput s14.2.2.2.2.2 (pc.x0,pc.x1,pc.x2) true)⟩:ZTr),false)
noncomputable def F_impl_tracer_from_N:Nat->ZTr->Z3i->Option (ZTr×Bool)
 | 0=>fun _ _=>none
 | n+1=>F_impl_tracer_from_B (F_impl_tracer_from_N n)
noncomputable def F_impl_tracer_from (s:ZTr) (pc:Z3i):Option (ZTr×Bool):=fixC fun nf=>F_impl_tracer_from_N nf s pc
noncomputable def F_impl_scheduleOf (p:List (List ZIn)) (x:ZEx):Option ((List Int)×Bool):=
 Option.bind (F_impl_numbers p) fun v1=>
 Option.bind (F_impl_tracer_from (⟨p,(⟨x.From,x.Order⟩:ZEx),v1,([]:List Int),([]:List ((Int×Int×Int)×Bool))⟩:ZTr) (⟨(0:Int),(0:Int),(0:Int)⟩:Z3i)) fun v2=>
 bif !v2.2 then
  some (([]:List Int),false)
 else
  some (v2.1.schedule,true)
noncomputable def F_spec_l6Writers_L6 (events:List ZEv) (loc:Int):((List Int)×Int)->Option (((List Int)×Int) ⊕ (List Int)):=fun s5=>
 bif decide (s5.2<(events.length:Int)) then
  Option.bind (
   gd (decide (0<=s5.2/\s5.2<(events.length:Int))) <|
   Option.bind (bif (events.getD s5.2.toNat default).Writes then
    some (((events.getD s5.2.toNat default).Loc)==loc)
   else
    some false
   ) fun s11=>
   bif s11 then
    gd (capOK (s5.1.length+1) 8) <|
    some (s5.1++[s5.2])
   else
    some s5.1
  ) fun s9=>
  gd (inK .i64 (s5.2+(1:Int))) <|
  some (.inl (s9,(s5.2+(1:Int))))
 else
  some (.inr s5.1)
noncomputable def F_spec_l6Writers (events:List ZEv) (loc:Int):Option (List Int):=
 Option.bind (
  loopO (F_spec_l6Writers_L6 events loc) (([]:List Int),(0:Int))
 ) fun s1=>
 some s1
noncomputable def F_spec_l6Place_L5 (list:List Int) (n:Int):Int->Option (Int ⊕ (Unit ⊕ Int)):=fun s4=>
 bif decide (s4<(list.length:Int)) then
  gd (decide (0<=s4/\s4<(list.length:Int))) <|
  bif ((list.getD s4.toNat default)==n) then
   some (.inr (.inr s4))
  else
   gd (inK .i64 (s4+(1:Int))) <|
   some (.inl (s4+(1:Int)))
 else
  some (.inr (.inl ()))
noncomputable def F_spec_l6Place (list:List Int) (n:Int):Option Int:=
 sumK (
  loopO (F_spec_l6Place_L5 list n) (0:Int)
 ) fun s1=>
 some (-1:Int)
noncomputable def F_spec_l6Order_L11 (list:List Int) (writers:List Int):Int->Option (Int ⊕ (Unit ⊕ Bool)):=fun s10=>
 bif decide (s10<(writers.length:Int)) then
  gd (decide (0<=s10/\s10<(writers.length:Int))) <|
  Option.bind (F_spec_l6Place list (writers.getD s10.toNat default)) fun v14=>
  bif decide (v14<(0:Int)) then
   some (.inr (.inr false))
  else
   gd (inK .i64 (s10+(1:Int))) <|
   some (.inl (s10+(1:Int)))
 else
  some (.inr (.inl ()))
noncomputable def F_spec_l6Order (list:List Int) (writers:List Int):Option Bool:=
 sumK (
  Option.bind (
   bif ((list.length:Int) != (writers.length:Int)) then
    some true
   else
    gd (decide (0<=(0:Int)/\(0:Int)<(list.length:Int))) <|
    gd (decide (0<=(0:Int)/\(0:Int)<(writers.length:Int))) <|
    some ((list.getD (0:Int).toNat default) != (writers.getD (0:Int).toNat default))
  ) fun s2=>
  bif s2 then
   some (.inr false)
  else
   some (.inl ())
 ) fun s1=>
 sumK (
  loopO (F_spec_l6Order_L11 list writers) (0:Int)
 ) fun s7=>
 some true
noncomputable def F_spec_ExecValid_L11 (x:ZEx) (v3:(List ZEv)):Int->Option (Int ⊕ (Unit ⊕ Bool)):=fun s10=>
 bif decide (s10<(v3.length:Int)) then
  sumK (
   sumK (
    Option.bind (
     gd (decide (0<=s10/\s10<(v3.length:Int))) <|
     bif (v3.getD s10.toNat default).Reads then
      Option.bind (F_spec_l6Writers v3 ((v3.getD s10.toNat default).Loc)) fun v18=>
      gd (decide (0<=s10/\s10<(x.From.length:Int))) <|
      Option.bind (F_spec_l6Place v18 (x.From.getD s10.toNat default)) fun v20=>
      some (decide (v20<(0:Int)))
     else
      some false
    ) fun s15=>
    bif s15 then
     some (.inr (.inr (.inr (.inr false))))
    else
     some (.inl ())
   ) fun s14=>
   gd (decide (0<=s10/\s10<(v3.length:Int))) <|
   Option.bind (bif !((v3.getD s10.toNat default).Reads) then
    gd (decide (0<=s10/\s10<(x.From.length:Int))) <|
    some ((x.From.getD s10.toNat default) != (-1:Int))
   else
    some false
   ) fun s23=>
   Option.bind (bif s23 then
    some true
   else
    gd (decide (0<=s10/\s10<(x.From.length:Int))) <|
    some ((x.From.getD s10.toNat default)==s10)
   ) fun s26=>
   bif s26 then
    some (.inr (.inr (.inr false)))
   else
    some (.inl ())
  ) fun s13=>
  gd (inK .i64 (s10+(1:Int))) <|
  some (.inl (s10+(1:Int)))
 else
  some (.inr (.inl ()))
noncomputable def F_spec_ExecValid_L35 (x:ZEx) (v3:(List ZEv)):Int->Option (Int ⊕ (Unit ⊕ Bool)):=fun s34=>
 bif decide (s34<=(2:Int)) then
  gd (decide (0<=s34/\s34<(x.Order.length:Int))) <|
  Option.bind (F_spec_l6Writers v3 s34) fun v38=>
  Option.bind (F_spec_l6Order (x.Order.getD s34.toNat default) v38) fun v39=>
  bif !v39 then
   some (.inr (.inr false))
  else
   gd (inK .i64 (s34+(1:Int))) <|
   some (.inl (s34+(1:Int)))
 else
  some (.inr (.inl ()))
noncomputable def F_spec_ExecValid (p:List (List ZIn)) (x:ZEx):Option Bool:=
 Option.bind (F_spec_ProgramValid p) fun v1=>
 bif !v1 then
  some false
 else
  Option.bind (F_spec_l6Events p) fun v3=>
  Option.bind (bif ((x.From.length:Int) != (v3.length:Int)) then
   some true
  else
   some ((x.Order.length:Int) != (3:Int))
  ) fun s4=>
  bif s4 then
   some false
  else
   sumK (
    loopO (F_spec_ExecValid_L11 x v3) (0:Int)
   ) fun s7=>
   sumK (
    loopO (F_spec_ExecValid_L35 x v3) (0:Int)
   ) fun s31=>
   some true
noncomputable def F_spec_l6Before (x:ZEx) (loc:Int) (i:Int) (k_:Int):Option Bool:=
 gd (decide (0<=loc/\loc<(x.Order.length:Int))) <|
 Option.bind (F_spec_l6Place (x.Order.getD loc.toNat default) i) fun v2=>
 Option.bind (F_spec_l6Place (x.Order.getD loc.toNat default) k_) fun v3=>
 some (decide (v2<v3))
noncomputable def F_spec_l6Fence_L6 (list:List ZIn) (to:Int):Int->Option (Int ⊕ (Unit ⊕ Bool)):=fun s5=>
 bif decide (s5<to) then
  gd (decide (0<=s5/\s5<(list.length:Int))) <|
  bif (((list.getD s5.toNat default).Op)==(4:Int)) then
   some (.inr (.inr true))
  else
   gd (inK .i64 (s5+(1:Int))) <|
   some (.inl (s5+(1:Int)))
 else
  some (.inr (.inl ()))
noncomputable def F_spec_l6Fence (list:List ZIn) (from_:Int) (to:Int):Option Bool:=
 sumK (
  gd (inK .i64 (from_+(1:Int))) <|
  loopO (F_spec_l6Fence_L6 list to) (from_+(1:Int))
 ) fun s1=>
 some false
noncomputable def F_spec_l6Pair (p:List (List ZIn)) (x:ZEx) (events:List ZEv) (name:ByteArray) (i:Int) (k_:Int):Option Bool:=
 gd (decide (0<=i/\i<(events.length:Int))) <|
 gd (decide (0<=k_/\k_<(events.length:Int))) <|
 Option.bind (bif (((events.getD i.toNat default).Thread)==((events.getD k_.toNat default).Thread)) then
  some (decide ((0:Int)<=((events.getD i.toNat default).Thread)))
 else
  some false
 ) fun s3=>
 sumK (
  bif decide (name=(⟨#[112,111]⟩:ByteArray)) then
   Option.bind (bif s3 then
    some (decide (((events.getD i.toNat default).Index)<((events.getD k_.toNat default).Index)))
   else
    some false
   ) fun s7=>
   some (.inr s7)
  else
   bif decide (name=(⟨#[108,111,99]⟩:ByteArray)) then
    some (.inr (((events.getD i.toNat default).Loc)==((events.getD k_.toNat default).Loc)))
   else
    bif decide (name=(⟨#[101,120,116]⟩:ByteArray)) then
     some (.inr (!s3))
    else
     bif decide (name=(⟨#[114,102]⟩:ByteArray)) then
      Option.bind (bif (events.getD k_.toNat default).Reads then
       gd (decide (0<=k_/\k_<(x.From.length:Int))) <|
       some ((x.From.getD k_.toNat default)==i)
      else
       some false
      ) fun s12=>
      some (.inr s12)
     else
      bif decide (name=(⟨#[99,111]⟩:ByteArray)) then
       Option.bind (bif (events.getD i.toNat default).Writes then
        some ((events.getD k_.toNat default).Writes)
       else
        some false
       ) fun s16=>
       Option.bind (bif s16 then
        some (((events.getD i.toNat default).Loc)==((events.getD k_.toNat default).Loc))
       else
        some false
       ) fun s18=>
       Option.bind (bif s18 then
        Option.bind (F_spec_l6Before x ((events.getD i.toNat default).Loc) i k_) fun v22=>
        some v22
       else
        some false
       ) fun s20=>
       some (.inr s20)
      else
       bif decide (name=(⟨#[102,114]⟩:ByteArray)) then
        Option.bind (
         bif (events.getD i.toNat default).Reads then
          bif (events.getD k_.toNat default).Writes then
           bif (((events.getD i.toNat default).Loc)==((events.getD k_.toNat default).Loc)) then
            bif (i != k_) then
             gd (decide (0<=i/\i<(x.From.length:Int))) <|
             Option.bind (F_spec_l6Before x ((events.getD i.toNat default).Loc) (x.From.getD i.toNat default) k_) fun v30=>
             some v30
            else
             some false
           else
            some false
          else
           some false
         else
          some false
        ) fun s24=>
        some (.inr s24)
       else
        bif decide (name=(⟨#[102,101,110,99,101]⟩:ByteArray)) then
         Option.bind (
          bif s3 then
           bif decide (((events.getD i.toNat default).Index)<((events.getD k_.toNat default).Index)) then
            gd (decide (0<=(events.getD i.toNat default).Thread/\(events.getD i.toNat default).Thread<(p.length:Int))) <|
            Option.bind (F_spec_l6Fence (p.getD ((events.getD i.toNat default).Thread).toNat default) ((events.getD i.toNat default).Index) ((events.getD k_.toNat default).Index)) fun v36=>
            some v36
           else
            some false
          else
           some false
         ) fun s32=>
         some (.inr s32)
        else
         bif decide (name=(⟨#[119,114]⟩:ByteArray)) then
          Option.bind (bif (events.getD i.toNat default).Writes then
           some (!((events.getD i.toNat default).Reads))
          else
           some false
          ) fun s38=>
          Option.bind (bif s38 then
           some ((events.getD k_.toNat default).Reads)
          else
           some false
          ) fun s40=>
          Option.bind (bif s40 then
           some (!((events.getD k_.toNat default).Writes))
          else
           some false
          ) fun s42=>
          some (.inr s42)
         else
          bif decide (name=(⟨#[119,119]⟩:ByteArray)) then
           Option.bind (bif (events.getD i.toNat default).Writes then
            some (!((events.getD i.toNat default).Reads))
           else
            some false
           ) fun s45=>
           Option.bind (bif s45 then
            some ((events.getD k_.toNat default).Writes)
           else
            some false
           ) fun s47=>
           Option.bind (bif s47 then
            some (!((events.getD k_.toNat default).Reads))
           else
            some false
           ) fun s49=>
           some (.inr s49)
          else
           some (.inl ())
 ) fun s5=>
 Option.bind (bif decide (name=(⟨#[105,100]⟩:ByteArray)) then
  some (i==k_)
 else
  some false
 ) fun s51=>
 some s51
noncomputable def F_spec_l6Rel_L15 (p:List (List ZIn)) (x:ZEx) (name:ByteArray) (v1:(List ZEv)) (s6:(List Int)×Int):(Int×Int)->Option ((Int×Int) ⊕ Int):=fun s14=>
 bif decide (s14.1<(v1.length:Int)) then
  Option.bind (
   Option.bind (F_spec_l6Pair p x v1 name s6.2 s14.1) fun v18=>
   bif v18 then
    gd (decide (0<=s14.1)) <|
    some (bOr .i64 s14.2 (bShl .i64 (1:Int) s14.1))
   else
    some s14.2
  ) fun s17=>
  gd (inK .i64 (s14.1+(1:Int))) <|
  some (.inl ((s14.1+(1:Int)),s17))
 else
  some (.inr s14.2)
noncomputable def F_spec_l6Rel_L7 (p:List (List ZIn)) (x:ZEx) (name:ByteArray) (v1:(List ZEv)):((List Int)×Int)->Option (((List Int)×Int) ⊕ (List Int)):=fun s6=>
 bif decide (s6.2<(v1.length:Int)) then
  Option.bind (
   Option.bind (
    loopO (F_spec_l6Rel_L15 p x name v1 s6) ((0:Int),(0:Int))
   ) fun s11=>
   gd (capOK (s6.1.length+1) 8) <|
   some (s6.1++[s11])
  ) fun s10=>
  gd (inK .i64 (s6.2+(1:Int))) <|
  some (.inl (s10,(s6.2+(1:Int))))
 else
  some (.inr s6.1)
noncomputable def F_spec_l6Rel (p:List (List ZIn)) (x:ZEx) (name:ByteArray):Option (List Int):=
 Option.bind (F_spec_l6Events p) fun v1=>
 Option.bind (
  loopO (F_spec_l6Rel_L7 p x name v1) (([]:List Int),(0:Int))
 ) fun s2=>
 some s2
noncomputable def F_spec_l2Union_L6 (a:List Int) (b:List Int):((List Int)×Int)->Option (((List Int)×Int) ⊕ (List Int)):=fun s5=>
 bif decide (s5.2<(a.length:Int)) then
  gd (decide (0<=s5.2/\s5.2<(a.length:Int))) <|
  gd (decide (0<=s5.2/\s5.2<(b.length:Int))) <|
  gd (capOK (s5.1.length+1) 8) <|
  gd (inK .i64 (s5.2+(1:Int))) <|
  some (.inl ((s5.1++[(bOr .i64 (a.getD s5.2.toNat default) (b.getD s5.2.toNat default))]),(s5.2+(1:Int))))
 else
  some (.inr s5.1)
noncomputable def F_spec_l2Union (a:List Int) (b:List Int):Option (List Int):=
 Option.bind (
  loopO (F_spec_l2Union_L6 a b) (([]:List Int),(0:Int))
 ) fun s1=>
 some s1
noncomputable def F_spec_l13Before (p:List (List ZIn)) (x:ZEx):Option (List Int):=
 Option.bind (F_spec_l6Rel p x (⟨#[112,111]⟩:ByteArray)) fun v1=>
 Option.bind (F_spec_l6Rel p x (⟨#[114,102]⟩:ByteArray)) fun v2=>
 Option.bind (F_spec_l2Union v1 v2) fun v3=>
 Option.bind (F_spec_l6Rel p x (⟨#[99,111]⟩:ByteArray)) fun v4=>
 Option.bind (F_spec_l2Union v3 v4) fun v5=>
 Option.bind (F_spec_l6Rel p x (⟨#[102,114]⟩:ByteArray)) fun v6=>
 Option.bind (F_spec_l2Union v5 v6) fun v7=>
 some v7
noncomputable def F_spec_l2Full (n:Int):Option Int:=
 gd (decide (0<=n)) <|
 gd (inK .i64 ((bShl .i64 (1:Int) n)-(1:Int))) <|
 some ((bShl .i64 (1:Int) n)-(1:Int))
noncomputable def F_spec_l13Event_L5 (events:List ZEv) (t:Int) (index:Int):Int->Option (Int ⊕ (Unit ⊕ Int)):=fun s4=>
 bif decide (s4<(events.length:Int)) then
  gd (decide (0<=s4/\s4<(events.length:Int))) <|
  Option.bind (bif (((events.getD s4.toNat default).Thread)==t) then
   some (((events.getD s4.toNat default).Index)==index)
  else
   some false
  ) fun s8=>
  bif s8 then
   some (.inr (.inr s4))
  else
   gd (inK .i64 (s4+(1:Int))) <|
   some (.inl (s4+(1:Int)))
 else
  some (.inr (.inl ()))
noncomputable def F_spec_l13Event (events:List ZEv) (t:Int) (index:Int):Option Int:=
 sumK (
  loopO (F_spec_l13Event_L5 events t index) (0:Int)
 ) fun s1=>
 some (-1:Int)
noncomputable def F_spec_l2Has (r_:List Int) (i:Int) (k_:Int):Option Bool:=
 gd (decide (0<=i/\i<(r_.length:Int))) <|
 gd (decide (0<=k_)) <|
 some ((bAnd .i64 (bShr .i64 (r_.getD i.toNat default) k_) (1:Int))==(1:Int))
noncomputable def F_spec_l13Ready_L5 (before:List Int) (done:Int) (k_:Int):Int->Option (Int ⊕ (Unit ⊕ Bool)):=fun s4=>
 bif decide (s4<(before.length:Int)) then
  Option.bind (F_spec_l2Has before s4 k_) fun v7=>
  Option.bind (bif v7 then
   gd (decide (0<=s4)) <|
   some ((bAnd .i64 (bShr .i64 done s4) (1:Int))==(0:Int))
  else
   some false
  ) fun s8=>
  bif s8 then
   some (.inr (.inr false))
  else
   gd (inK .i64 (s4+(1:Int))) <|
   some (.inl (s4+(1:Int)))
 else
  some (.inr (.inl ()))
noncomputable def F_spec_l13Ready (before:List Int) (done:Int) (k_:Int):Option Bool:=
 sumK (
  loopO (F_spec_l13Ready_L5 before done k_) (0:Int)
 ) fun s1=>
 some true
noncomputable def F_spec_l13Sort_L19 (p:List (List ZIn)) (before:List Int) (v1:(List ZEv)):((List Int)×(List Int)×Int×Bool×Int)->Option (((List Int)×(List Int)×Int×Bool×Int) ⊕ (((List Int)×(List Int)×Bool×Int) ⊕ ((List Int)×(List Int)))):=fun s18=>
 Option.bind (bif decide (s18.2.2.1<(p.length:Int)) then
  some (!s18.2.2.2.1)
 else
  some false
 ) fun s22=>
 bif s22 then
  Option.bind (
   gd (decide (0<=s18.2.2.1/\s18.2.2.1<(s18.1.length:Int))) <|
   gd (decide (0<=s18.2.2.1/\s18.2.2.1<(p.length:Int))) <|
   bif ((s18.1.getD s18.2.2.1.toNat default)==((p.getD s18.2.2.1.toNat default).length:Int)) then
    some (s18.1,s18.2.1,s18.2.2.2.1,s18.2.2.2.2)
   else
    Option.bind (F_spec_l13Event v1 s18.2.2.1 (s18.1.getD s18.2.2.1.toNat default)) fun v29=>
    Option.bind (bif decide ((0:Int)<=v29) then
     Option.bind (F_spec_l13Ready before s18.2.2.2.2 v29) fun v32=>
     some (!v32)
    else
     some false
    ) fun s30=>
    bif s30 then
     some (s18.1,s18.2.1,s18.2.2.2.1,s18.2.2.2.2)
    else
     Option.bind (
      bif decide ((0:Int)<=v29) then
       gd (decide (0<=v29)) <|
       some (bOr .i64 s18.2.2.2.2 (bShl .i64 (1:Int) v29))
      else
       some s18.2.2.2.2
     ) fun s34=>
     gd (inK .i64 ((s18.1.getD s18.2.2.1.toNat default)+(1:Int))) <|
     gd (capOK (s18.2.1.length+1) 8) <|
     some ((s18.1.set s18.2.2.1.toNat ((s18.1.getD s18.2.2.1.toNat default)+(1:Int))),(s18.2.1++[s18.2.2.1]),true,s34)
  ) fun s25=>
  gd (inK .i64 (s18.2.2.1+(1:Int))) <|
  some (.inl (s25.1,s25.2.1,(s18.2.2.1+(1:Int)),s25.2.2.1,s25.2.2.2))
 else
  some (.inr (.inl (s18.1,s18.2.1,s18.2.2.2.1,s18.2.2.2.2)))
noncomputable def F_spec_l13Sort_L10 (p:List (List ZIn)) (before:List Int) (v1:(List ZEv)):((List Int)×(List Int)×Bool×Int)->Option (((List Int)×(List Int)×Bool×Int) ⊕ ((List Int)×(List Int))):=fun s9=>
 bif s9.2.2.1 then
  loopO (F_spec_l13Sort_L19 p before v1) (s9.1,s9.2.1,(0:Int),false,s9.2.2.2)
 else
  some (.inr (s9.1,s9.2.1))
noncomputable def F_spec_l13Sort_L48 (p:List (List ZIn)) (s4:(List Int)×(List Int)):Int->Option (Int ⊕ (Unit ⊕ ((List Int)×Bool))):=fun s47=>
 bif decide (s47<(p.length:Int)) then
  gd (decide (0<=s47/\s47<(s4.1.length:Int))) <|
  gd (decide (0<=s47/\s47<(p.length:Int))) <|
  bif decide ((s4.1.getD s47.toNat default)<((p.getD s47.toNat default).length:Int)) then
   some (.inr (.inr (([]:List Int),false)))
  else
   gd (inK .i64 (s47+(1:Int))) <|
   some (.inl (s47+(1:Int)))
 else
  some (.inr (.inl ()))
noncomputable def F_spec_l13Sort (p:List (List ZIn)) (before:List Int):Option ((List Int)×Bool):=
 Option.bind (F_spec_l6Events p) fun v1=>
 gd (decide (0<=(p.length:Int)/\(p.length:Int)<=(p.length:Int)/\(p.length:Int)*((8:Nat):Int)<=140737488355328/\(p.length:Int)<=140737488355328)) <|
 Option.bind (F_spec_l2Full (3:Int)) fun v3=>
 Option.bind (
  loopO (F_spec_l13Sort_L10 p before v1) ((List.replicate (p.length:Int).toNat (default:Int)),([]:List Int),true,v3)
 ) fun s4=>
 sumK (
  loopO (F_spec_l13Sort_L48 p s4) (0:Int)
 ) fun s44=>
 some (s4.2,true)
noncomputable def F_spec_ScheduleOf (p:List (List ZIn)) (x:ZEx):Option ((List Int)×Bool):=
 Option.bind (F_spec_ExecValid p x) fun v1=>
 bif !v1 then
  some (([]:List Int),false)
 else
  Option.bind (F_spec_l13Before p x) fun v3=>
  Option.bind (F_spec_l13Sort p v3) fun v4=>
  some (v4.1,v4.2)
end Go.Proofs.Ytlmjnhnpahicmaa
