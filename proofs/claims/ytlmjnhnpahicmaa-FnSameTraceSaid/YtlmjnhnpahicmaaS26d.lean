/-
 Functions over plain values, as the program's code computes; printed by lift.py. No conditions.
-/
import Derived.Test.YtlmjnhnpahicmaaSt
import Derived.Test.YtlmjnhnpahicmaaBrVd
namespace Go.Proofs.Ytlmjnhnpahicmaa
open Go.RowKit
set_option maxRecDepth 100000
noncomputable def F_laws_toInstr (a:Xlaws_Instr):Option ZIn:=
 some (⟨a.Op,a.Loc,a.Reg,a.Val⟩:ZIn)
noncomputable def F_laws_toInstrS_L7 (a:List Xlaws_Instr):((List ZIn)×Int)->Option (((List ZIn)×Int) ⊕ (List ZIn)):=fun s6=>
 bif decide (s6.2<(a.length:Int)) then
  gd (decide (0<=s6.2/\s6.2<(a.length:Int))) <|
  Option.bind (F_laws_toInstr (a.getD s6.2.toNat default)) fun v11=>
  gd (decide (0<=s6.2/\s6.2<(s6.1.length:Int))) <|
  gd (inK .i64 (s6.2+(1:Int))) <|
  some (.inl ((s6.1.set s6.2.toNat v11),(s6.2+(1:Int))))
 else
  some (.inr s6.1)
noncomputable def F_laws_toInstrS (a:List Xlaws_Instr):Option (List ZIn):=
 gd (decide (0<=(a.length:Int)/\(a.length:Int)<=(a.length:Int)/\(a.length:Int)*((32:Nat):Int)<=140737488355328/\(a.length:Int)<=140737488355328)) <|
 Option.bind (
  loopO (F_laws_toInstrS_L7 a) ((List.replicate (a.length:Int).toNat (default:ZIn)),(0:Int))
 ) fun s2=>
 some s2
noncomputable def F_spec_l3Start (p:List (List ZIn)) (buffers:Int):Option ZSt:=
 gd (decide (0<=(p.length:Int)/\(p.length:Int)<=(p.length:Int)/\(p.length:Int)*((8:Nat):Int)<=140737488355328/\(p.length:Int)<=140737488355328)) <|
 gd (inK .i64 ((p.length:Int)*(3:Int))) <|
 gd (decide (0<=((p.length:Int)*(3:Int))/\((p.length:Int)*(3:Int))<=((p.length:Int)*(3:Int))/\((p.length:Int)*(3:Int))*((8:Nat):Int)<=140737488355328/\((p.length:Int)*(3:Int))<=140737488355328)) <|
 gd (decide (0<=(3:Int)/\(3:Int)<=(3:Int)/\(3:Int)*((8:Nat):Int)<=140737488355328/\(3:Int)<=140737488355328)) <|
 gd (decide (0<=buffers/\buffers<=buffers/\buffers*((24:Nat):Int)<=140737488355328/\buffers<=140737488355328)) <|
 some (⟨(List.replicate (p.length:Int).toNat (default:Int)),(List.replicate ((p.length:Int)*(3:Int)).toNat (default:Int)),(List.replicate (3:Int).toNat (default:Int)),(List.replicate buffers.toNat ([]:List Int))⟩:ZSt)
noncomputable def F_spec_l3Copy_L7 (s:ZSt):Unit->Option (Unit ⊕ Unit):=fun s6=>
 bif decide ((0:Int)<(s.buf.length:Int)) then
  none
 else
  some (.inr ())
noncomputable def F_spec_l3Copy (s:ZSt):Option ZSt:=
 gd (capOK (([]:List Int).length+s.at_.length) 8) <|
 gd (capOK (([]:List Int).length+s.regs.length) 8) <|
 gd (capOK (([]:List Int).length+s.mem.length) 8) <|
 Option.bind (
  loopO (F_spec_l3Copy_L7 s) ()
 ) fun s4=>
 some (⟨(([]:List Int)++s.at_),(([]:List Int)++s.regs),(([]:List Int)++s.mem),([]:List (List Int))⟩:ZSt)
noncomputable def F_spec_l1Reads (x:ZIn):Option Bool:=
 Option.bind (bif (x.Op==(1:Int)) then
  some true
 else
  some (x.Op==(5:Int))
 ) fun s1=>
 some s1
noncomputable def F_spec_l3Reg (t:Int) (reg:Int):Option Int:=
 gd (inK .i64 (t*(3:Int))) <|
 gd (inK .i64 ((t*(3:Int))+reg)) <|
 some ((t*(3:Int))+reg)
noncomputable def F_spec_l1Writes (x:ZIn):Option Bool:=
 Option.bind (bif (x.Op==(2:Int)) then
  some true
 else
  some (x.Op==(3:Int))
 ) fun s1=>
 Option.bind (bif s1 then
  some true
 else
  some (x.Op==(5:Int))
 ) fun s3=>
 some s3
noncomputable def F_spec_l3Value (s:ZSt) (t:Int) (x:ZIn):Option Int:=
 bif (x.Op==(3:Int)) then
  Option.bind (F_spec_l3Reg t x.Reg) fun v2=>
  gd (decide (0<=v2/\v2<(s.regs.length:Int))) <|
  some (s.regs.getD v2.toNat default)
 else
  some x.Val
noncomputable def F_spec_l3Do (p:List (List ZIn)) (s:ZSt) (t:Int):Option ZSt:=
 Option.bind (F_spec_l3Copy s) fun v1=>
 gd (decide (0<=t/\t<(p.length:Int))) <|
 gd (decide (0<=t/\t<(s.at_.length:Int))) <|
 gd (decide (0<=(s.at_.getD t.toNat default)/\(s.at_.getD t.toNat default)<((p.getD t.toNat default).length:Int))) <|
 gd (inK .i64 ((s.at_.getD t.toNat default)+(1:Int))) <|
 gd (decide (0<=t/\t<(v1.at_.length:Int))) <|
 Option.bind (
  Option.bind (F_spec_l1Reads (⟨((p.getD t.toNat default).getD (s.at_.getD t.toNat default).toNat default).Op,((p.getD t.toNat default).getD (s.at_.getD t.toNat default).toNat default).Loc,((p.getD t.toNat default).getD (s.at_.getD t.toNat default).toNat default).Reg,((p.getD t.toNat default).getD (s.at_.getD t.toNat default).toNat default).Val⟩:ZIn)) fun v8=>
  bif v8 then
   Option.bind (F_spec_l3Reg t (((p.getD t.toNat default).getD (s.at_.getD t.toNat default).toNat default).Reg)) fun v10=>
   gd (decide (0<=((p.getD t.toNat default).getD (s.at_.getD t.toNat default).toNat default).Loc/\((p.getD t.toNat default).getD (s.at_.getD t.toNat default).toNat default).Loc<(s.mem.length:Int))) <|
   gd (decide (0<=v10/\v10<(v1.regs.length:Int))) <|
   some (v1.regs.set v10.toNat (s.mem.getD (((p.getD t.toNat default).getD (s.at_.getD t.toNat default).toNat default).Loc).toNat default))
  else
   some v1.regs
 ) fun s7=>
 Option.bind (
  Option.bind (F_spec_l1Writes (⟨((p.getD t.toNat default).getD (s.at_.getD t.toNat default).toNat default).Op,((p.getD t.toNat default).getD (s.at_.getD t.toNat default).toNat default).Loc,((p.getD t.toNat default).getD (s.at_.getD t.toNat default).toNat default).Reg,((p.getD t.toNat default).getD (s.at_.getD t.toNat default).toNat default).Val⟩:ZIn)) fun v15=>
  bif v15 then
   Option.bind (F_spec_l3Value s t (⟨((p.getD t.toNat default).getD (s.at_.getD t.toNat default).toNat default).Op,((p.getD t.toNat default).getD (s.at_.getD t.toNat default).toNat default).Loc,((p.getD t.toNat default).getD (s.at_.getD t.toNat default).toNat default).Reg,((p.getD t.toNat default).getD (s.at_.getD t.toNat default).toNat default).Val⟩:ZIn)) fun v17=>
   gd (decide (0<=((p.getD t.toNat default).getD (s.at_.getD t.toNat default).toNat default).Loc/\((p.getD t.toNat default).getD (s.at_.getD t.toNat default).toNat default).Loc<(v1.mem.length:Int))) <|
   some (v1.mem.set ((((p.getD t.toNat default).getD (s.at_.getD t.toNat default).toNat default).Loc).toNat) v17)
  else
   some v1.mem
 ) fun s14=>
 some (⟨(v1.at_.set t.toNat ((s.at_.getD t.toNat default)+(1:Int))),s7,s14,([]:List (List Int))⟩:ZSt)
noncomputable def F_spec_l3Done_L5 (p:List (List ZIn)) (s:ZSt):Int->Option (Int ⊕ (Unit ⊕ Bool)):=fun s4=>
 bif decide (s4<(p.length:Int)) then
  gd (decide (0<=s4/\s4<(s.at_.length:Int))) <|
  gd (decide (0<=s4/\s4<(p.length:Int))) <|
  bif decide ((s.at_.getD s4.toNat default)<((p.getD s4.toNat default).length:Int)) then
   some (.inr (.inr false))
  else
   gd (inK .i64 (s4+(1:Int))) <|
   some (.inl (s4+(1:Int)))
 else
  some (.inr (.inl ()))
noncomputable def F_spec_l3Done (p:List (List ZIn)) (s:ZSt):Option Bool:=
 sumK (
  loopO (F_spec_l3Done_L5 p s) (0:Int)
 ) fun s1=>
 some true
noncomputable def F_spec_l3Outcome (s:ZSt):Option (List Int):=
 gd (capOK (([]:List Int).length+s.regs.length) 8) <|
 gd (capOK ((([]:List Int)++s.regs).length+s.mem.length) 8) <|
 some ((([]:List Int)++s.regs)++s.mem)
noncomputable def F_spec_RunSchedule_L8 (p:List (List ZIn)) (schedule:List Int):((List Int)×(List Int)×(List Int)×(List (List Int))×Int)->Option (((List Int)×(List Int)×(List Int)×(List (List Int))×Int) ⊕ (((List Int)×(List Int)×(List Int)×(List (List Int))) ⊕ ((List Int)×Bool))):=fun s7=>
 bif decide (s7.2.2.2.2<(schedule.length:Int)) then
  sumK (
   gd (decide (0<=s7.2.2.2.2/\s7.2.2.2.2<(schedule.length:Int))) <|
   sumK (
    Option.bind (
     bif decide ((schedule.getD s7.2.2.2.2.toNat default)<(0:Int)) then
      some true
     else
      bif decide ((p.length:Int)<=(schedule.getD s7.2.2.2.2.toNat default)) then
       some true
      else
       gd (decide (0<=(schedule.getD s7.2.2.2.2.toNat default)/\(schedule.getD s7.2.2.2.2.toNat default)<(s7.1.length:Int))) <|
       gd (decide (0<=(schedule.getD s7.2.2.2.2.toNat default)/\(schedule.getD s7.2.2.2.2.toNat default)<(p.length:Int))) <|
       some ((s7.1.getD (schedule.getD s7.2.2.2.2.toNat default).toNat default)==((p.getD (schedule.getD s7.2.2.2.2.toNat default).toNat default).length:Int))
    ) fun s13=>
    bif s13 then
     some (.inr (.inr (.inr (.inr (([]:List Int),false)))))
    else
     some (.inl ())
   ) fun s12=>
   Option.bind (F_spec_l3Do p (⟨s7.1,s7.2.1,s7.2.2.1,s7.2.2.2.1⟩:ZSt) (schedule.getD s7.2.2.2.2.toNat default)) fun v19=>
   some (.inl (v19.at_,v19.regs,v19.mem,v19.buf))
  ) fun s10=>
  gd (inK .i64 (s7.2.2.2.2+(1:Int))) <|
  some (.inl (s10.1,s10.2.1,s10.2.2.1,s10.2.2.2,(s7.2.2.2.2+(1:Int))))
 else
  some (.inr (.inl (s7.1,s7.2.1,s7.2.2.1,s7.2.2.2.1)))
noncomputable def F_spec_RunSchedule (p:List (List ZIn)) (schedule:List Int):Option ((List Int)×Bool):=
 Option.bind (F_spec_ProgramValid p) fun v1=>
 bif !v1 then
  some (([]:List Int),false)
 else
  Option.bind (F_spec_l3Start p (0:Int)) fun v3=>
  sumK (
   loopO (F_spec_RunSchedule_L8 p schedule) (v3.at_,v3.regs,v3.mem,v3.buf,(0:Int))
  ) fun s4=>
  Option.bind (F_spec_l3Done p (⟨s4.1,s4.2.1,s4.2.2.1,s4.2.2.2⟩:ZSt)) fun v21=>
  bif !v21 then
   some (([]:List Int),false)
  else
   Option.bind (F_spec_l3Outcome (⟨s4.1,s4.2.1,s4.2.2.1,s4.2.2.2⟩:ZSt)) fun v23=>
   some (v23,true)
noncomputable def F_spec_l6Events_L6:((List ZEv)×Int)->Option (((List ZEv)×Int) ⊕ (List ZEv)):=fun s5=>
 bif decide (s5.2<=(2:Int)) then
  gd (capOK (s5.1.length+1) 32) <|
  gd (inK .i64 (s5.2+(1:Int))) <|
  some (.inl ((s5.1++[(⟨(-1:Int),s5.2,s5.2,false,true⟩:ZEv)]),(s5.2+(1:Int))))
 else
  some (.inr s5.1)
noncomputable def F_spec_l6Events_L25 (p:List (List ZIn)) (s16:(List ZEv)×Int):((List ZEv)×Int)->Option (((List ZEv)×Int) ⊕ (List ZEv)):=fun s24=>
 gd (decide (0<=s16.2/\s16.2<(p.length:Int))) <|
 bif decide (s24.2<((p.getD s16.2.toNat default).length:Int)) then
  Option.bind (
   gd (decide (0<=s24.2/\s24.2<((p.getD s16.2.toNat default).length:Int))) <|
   bif ((((p.getD s16.2.toNat default).getD s24.2.toNat default).Op) != (4:Int)) then
    Option.bind (F_spec_l1Reads (⟨((p.getD s16.2.toNat default).getD s24.2.toNat default).Op,((p.getD s16.2.toNat default).getD s24.2.toNat default).Loc,((p.getD s16.2.toNat default).getD s24.2.toNat default).Reg,((p.getD s16.2.toNat default).getD s24.2.toNat default).Val⟩:ZIn)) fun v32=>
    Option.bind (F_spec_l1Writes (⟨((p.getD s16.2.toNat default).getD s24.2.toNat default).Op,((p.getD s16.2.toNat default).getD s24.2.toNat default).Loc,((p.getD s16.2.toNat default).getD s24.2.toNat default).Reg,((p.getD s16.2.toNat default).getD s24.2.toNat default).Val⟩:ZIn)) fun v33=>
    gd (capOK (s24.1.length+1) 32) <|
    some (s24.1++[(⟨s16.2,s24.2,((p.getD s16.2.toNat default).getD s24.2.toNat default).Loc,v32,v33⟩:ZEv)])
   else
    some s24.1
  ) fun s29=>
  gd (inK .i64 (s24.2+(1:Int))) <|
  some (.inl (s29,(s24.2+(1:Int))))
 else
  some (.inr s24.1)
noncomputable def F_spec_l6Events_L17 (p:List (List ZIn)):((List ZEv)×Int)->Option (((List ZEv)×Int) ⊕ (List ZEv)):=fun s16=>
 bif decide (s16.2<(p.length:Int)) then
  Option.bind (
   loopO (F_spec_l6Events_L25 p s16) (s16.1,(0:Int))
  ) fun s20=>
  gd (inK .i64 (s16.2+(1:Int))) <|
  some (.inl (s20,(s16.2+(1:Int))))
 else
  some (.inr s16.1)
noncomputable def F_spec_l6Events (p:List (List ZIn)):Option (List ZEv):=
 Option.bind (
  loopO F_spec_l6Events_L6 (([]:List ZEv),(0:Int))
 ) fun s1=>
 Option.bind (
  loopO (F_spec_l6Events_L17 p) (s1,(0:Int))
 ) fun s12=>
 some s12
noncomputable def F_spec_l13Order_L20 (schedule:List Int) (v1:(List ZEv)) (s8:(List Int)×(List Int)×Int):((List Int)×Int)->Option (((List Int)×Int) ⊕ (List Int)):=fun s19=>
 bif decide (s19.2<(v1.length:Int)) then
  Option.bind (
   Option.bind (
    gd (decide (0<=s19.2/\s19.2<(v1.length:Int))) <|
    bif (((v1.getD s19.2.toNat default).Thread)==(schedule.getD s8.2.2.toNat default)) then
     gd (decide (0<=(schedule.getD s8.2.2.toNat default)/\(schedule.getD s8.2.2.toNat default)<(s8.1.length:Int))) <|
     some (((v1.getD s19.2.toNat default).Index)==(s8.1.getD ((schedule.getD s8.2.2.toNat default).toNat) default))
    else
     some false
   ) fun s24=>
   bif s24 then
    gd (capOK (s19.1.length+1) 8) <|
    some (s19.1++[s19.2])
   else
    some s19.1
  ) fun s23=>
  gd (inK .i64 (s19.2+(1:Int))) <|
  some (.inl (s23,(s19.2+(1:Int))))
 else
  some (.inr s19.1)
noncomputable def F_spec_l13Order_L9 (schedule:List Int) (v1:(List ZEv)):((List Int)×(List Int)×Int)->Option (((List Int)×(List Int)×Int) ⊕ ((List Int)×(List Int))):=fun s8=>
 bif decide (s8.2.2<(schedule.length:Int)) then
  Option.bind (
   gd (decide (0<=s8.2.2/\s8.2.2<(schedule.length:Int))) <|
   Option.bind (
    loopO (F_spec_l13Order_L20 schedule v1 s8) (s8.2.1,(0:Int))
   ) fun s15=>
   gd (decide (0<=(schedule.getD s8.2.2.toNat default)/\(schedule.getD s8.2.2.toNat default)<(s8.1.length:Int))) <|
   gd (inK .i64 ((s8.1.getD ((schedule.getD s8.2.2.toNat default).toNat) default)+(1:Int))) <|
   some s15
  ) fun s13=>
  gd (inK .i64 (s8.2.2+(1:Int))) <|
  some (.inl ((s8.1.set ((schedule.getD s8.2.2.toNat default).toNat) ((s8.1.getD ((schedule.getD s8.2.2.toNat default).toNat) default)+(1:Int))),s13,(s8.2.2+(1:Int))))
 else
  some (.inr (s8.1,s8.2.1))
noncomputable def F_spec_l13Order (p:List (List ZIn)) (schedule:List Int):Option (List Int):=
 Option.bind (F_spec_l6Events p) fun v1=>
 gd (decide (0<=(p.length:Int)/\(p.length:Int)<=(p.length:Int)/\(p.length:Int)*((8:Nat):Int)<=140737488355328/\(p.length:Int)<=140737488355328)) <|
 Option.bind (
  loopO (F_spec_l13Order_L9 schedule v1) ((List.replicate (p.length:Int).toNat (default:Int)),([]:List Int),(0:Int))
 ) fun s3=>
 some s3.2
noncomputable def F_spec_l13Exec_L21 (v1:(List ZEv)):((List Int)×(List (List Int))×Int)->Option (((List Int)×(List (List Int))×Int) ⊕ ((List Int)×(List (List Int)))):=fun s20=>
 bif decide (s20.2.2<(v1.length:Int)) then
  gd (capOK (s20.1.length+1) 8) <|
  gd (inK .i64 (s20.2.2+(1:Int))) <|
  some (.inl ((s20.1++[(-1:Int)]),s20.2.1,(s20.2.2+(1:Int))))
 else
  some (.inr (s20.1,s20.2.1))
noncomputable def F_spec_l13Exec_L59:((List (List Int))×Int)->Option (((List (List Int))×Int) ⊕ (List (List Int))):=fun s58=>
 bif decide (s58.2<=(2:Int)) then
  gd (capOK (s58.1.length+1) 24) <|
  gd (inK .i64 (s58.2+(1:Int))) <|
  some (.inl ((s58.1++[([s58.2]:List Int)]),(s58.2+(1:Int))))
 else
  some (.inr s58.1)
noncomputable def F_spec_l13Exec_L95 (v1:(List ZEv)) (v75:(List Int)):((List Int)×(List (List Int))×Int)->Option (((List Int)×(List (List Int))×Int) ⊕ ((List Int)×(List (List Int)))):=fun s94=>
 bif decide (s94.2.2<(v75.length:Int)) then
  Option.bind (
   gd (decide (0<=s94.2.2/\s94.2.2<(v75.length:Int))) <|
   gd (decide (0<=(v75.getD s94.2.2.toNat default)/\(v75.getD s94.2.2.toNat default)<(v1.length:Int))) <|
   gd (decide (0<=(v1.getD (v75.getD s94.2.2.toNat default).toNat default).Loc/\(v1.getD (v75.getD s94.2.2.toNat default).toNat default).Loc<(s94.2.1.length:Int))) <|
   Option.bind (
    bif (v1.getD (v75.getD s94.2.2.toNat default).toNat default).Reads then
     gd (inK .i64 (((s94.2.1.getD (((v1.getD (v75.getD s94.2.2.toNat default).toNat default).Loc).toNat) []).length:Int)-(1:Int))) <|
     gd (decide (0<=(((s94.2.1.getD (((v1.getD (v75.getD s94.2.2.toNat default).toNat default).Loc).toNat) []).length:Int)-(1:Int))/\(((s94.2.1.getD (((v1.getD (v75.getD s94.2.2.toNat default).toNat default).Loc).toNat) []).length:Int)-(1:Int))<(((s94.2.1.getD (((v1.getD (v75.getD s94.2.2.toNat default).toNat default).Loc).toNat) []).length):Int))) <|
     gd (decide (0<=(v75.getD s94.2.2.toNat default)/\(v75.getD s94.2.2.toNat default)<(s94.1.length:Int))) <|
     some ((s94.1.set ((v75.getD s94.2.2.toNat default).toNat) ((s94.2.1.getD (((v1.getD (v75.getD s94.2.2.toNat default).toNat default).Loc).toNat) []).getD ((((s94.2.1.getD (((v1.getD (v75.getD s94.2.2.toNat default).toNat default).Loc).toNat) []).length:Int)-(1:Int)).toNat) default)),(s94.2.1.getD (((v1.getD (v75.getD s94.2.2.toNat default).toNat default).Loc).toNat) []))
    else
     some (s94.1,(s94.2.1.getD (((v1.getD (v75.getD s94.2.2.toNat default).toNat default).Loc).toNat) []))
   ) fun s115=>
   bif (v1.getD (v75.getD s94.2.2.toNat default).toNat default).Writes then
    gd (capOK (s115.2.length+1) 8) <|
    some (s115.1,(s94.2.1.set (((v1.getD (v75.getD s94.2.2.toNat default).toNat default).Loc).toNat) (s115.2++[(v75.getD s94.2.2.toNat default)])))
   else
    some (s115.1,(s94.2.1.set (((v1.getD (v75.getD s94.2.2.toNat default).toNat default).Loc).toNat) s115.2))
  ) fun s106=>
  gd (inK .i64 (s94.2.2+(1:Int))) <|
  some (.inl (s106.1,s106.2,(s94.2.2+(1:Int))))
 else
  some (.inr (s94.1,s94.2.1))
noncomputable def F_spec_l13Exec (p:List (List ZIn)) (schedule:List Int):Option ZEx:=
 Option.bind (F_spec_l6Events p) fun v1=>
 Option.bind (
  loopO (F_spec_l13Exec_L21 v1) (([]:List Int),([]:List (List Int)),(0:Int))
 ) fun s2=>
 Option.bind (
  loopO F_spec_l13Exec_L59 (s2.2,(0:Int))
 ) fun s43=>
 Option.bind (F_spec_l13Order p schedule) fun v75=>
 Option.bind (
  loopO (F_spec_l13Exec_L95 v1 v75) (s2.1,s43,(0:Int))
 ) fun s76=>
 some (⟨s76.1,s76.2⟩:ZEx)
noncomputable def F_spec_ExecOf (p:List (List ZIn)) (schedule:List Int):Option (ZEx×Bool):=
 Option.bind (F_spec_RunSchedule p schedule) fun v1=>
 bif !v1.2 then
  some ((⟨([]:List Int),([]:List (List Int))⟩:ZEx),false)
 else
  Option.bind (F_spec_l13Exec p schedule) fun v3=>
  some ((⟨v3.From,v3.Order⟩:ZEx),true)
noncomputable def F_spec_ExecSame_L8 (a:ZEx) (b:ZEx):Int->Option (Int ⊕ (Unit ⊕ Bool)):=fun s7=>
 bif decide (s7<(a.From.length:Int)) then
  gd (decide (0<=s7/\s7<(a.From.length:Int))) <|
  gd (decide (0<=s7/\s7<(b.From.length:Int))) <|
  bif ((a.From.getD s7.toNat default) != (b.From.getD s7.toNat default)) then
   some (.inr (.inr false))
  else
   gd (inK .i64 (s7+(1:Int))) <|
   some (.inl (s7+(1:Int)))
 else
  some (.inr (.inl ()))
noncomputable def F_spec_ExecSame_L27 (a:ZEx) (b:ZEx) (s17:Int):Int->Option (Int ⊕ (Unit ⊕ (Int ⊕ (Unit ⊕ Bool)))):=fun s26=>
 bif decide (s26<((a.Order.getD s17.toNat default).length:Int)) then
  gd (decide (0<=s26/\s26<((a.Order.getD s17.toNat default).length:Int))) <|
  gd (decide (0<=s26/\s26<((b.Order.getD s17.toNat default).length:Int))) <|
  bif (((a.Order.getD s17.toNat default).getD s26.toNat default) != ((b.Order.getD s17.toNat default).getD s26.toNat default)) then
   some (.inr (.inr (.inr (.inr false))))
  else
   gd (inK .i64 (s26+(1:Int))) <|
   some (.inl (s26+(1:Int)))
 else
  some (.inr (.inl ()))
noncomputable def F_spec_ExecSame_L18 (a:ZEx) (b:ZEx):Int->Option (Int ⊕ (Unit ⊕ Bool)):=fun s17=>
 bif decide (s17<(a.Order.length:Int)) then
  sumK (
   gd (decide (0<=s17/\s17<(a.Order.length:Int))) <|
   gd (decide (0<=s17/\s17<(b.Order.length:Int))) <|
   bif (((a.Order.getD s17.toNat default).length:Int) != ((b.Order.getD s17.toNat default).length:Int)) then
    some (.inr (.inr (.inr false)))
   else
    loopO (F_spec_ExecSame_L27 a b s17) (0:Int)
  ) fun s20=>
  gd (inK .i64 (s17+(1:Int))) <|
  some (.inl (s17+(1:Int)))
 else
  some (.inr (.inl ()))
noncomputable def F_spec_ExecSame (a:ZEx) (b:ZEx):Option Bool:=
 Option.bind (bif ((a.From.length:Int) != (b.From.length:Int)) then
  some true
 else
  some ((a.Order.length:Int) != (b.Order.length:Int))
 ) fun s1=>
 bif s1 then
  some false
 else
  sumK (
   loopO (F_spec_ExecSame_L8 a b) (0:Int)
  ) fun s4=>
  sumK (
   loopO (F_spec_ExecSame_L18 a b) (0:Int)
  ) fun s14=>
  some true
noncomputable def F_spec_SameTrace (p:List (List ZIn)) (a:List Int) (b:List Int):Option Bool:=
 Option.bind (F_spec_ExecOf p a) fun v1=>
 Option.bind (F_spec_ExecOf p b) fun v2=>
 Option.bind (bif v1.2 then
  some v2.2
 else
  some false
 ) fun s3=>
 Option.bind (bif s3 then
  Option.bind (F_spec_ExecSame (⟨v1.1.From,v1.1.Order⟩:ZEx) (⟨v2.1.From,v2.1.Order⟩:ZEx)) fun v7=>
  some v7
 else
  some false
 ) fun s5=>
 some s5
noncomputable def F_impl_newSeq (p:List (List ZIn)):Option ZSq:=
 some (⟨(⟨p,(⟨(0:Int),(0:Int),(0:Int)⟩:Z3b),(⟨(⟨(0:Int),(0:Int),(0:Int)⟩:Z3b),(⟨(0:Int),(0:Int),(0:Int)⟩:Z3b),(⟨(0:Int),(0:Int),(0:Int)⟩:Z3b)⟩:Z33),(⟨(0:Int),(0:Int),(0:Int)⟩:Z3b)⟩:ZVa)⟩:ZSq)
noncomputable def F_impl_values_next (v:ZVa) (t:Int):Option (ZIn×Bool):=
 gd (decide (0<=t/\t<3)) <|
 gd (inK .i64 (Z3b.get v.pc t)) <|
 gd (decide (0<=t/\t<(v.p.length:Int))) <|
 bif decide (((v.p.getD t.toNat default).length:Int)<=(Z3b.get v.pc t)) then
  some ((⟨(0:Int),(0:Int),(0:Int),(0:Int)⟩:ZIn),false)
 else
  gd (decide (0<=(Z3b.get v.pc t)/\(Z3b.get v.pc t)<((v.p.getD t.toNat default).length:Int))) <|
  some ((⟨((v.p.getD t.toNat default).getD (Z3b.get v.pc t).toNat default).Op,((v.p.getD t.toNat default).getD (Z3b.get v.pc t).toNat default).Loc,((v.p.getD t.toNat default).getD (Z3b.get v.pc t).toNat default).Reg,((v.p.getD t.toNat default).getD (Z3b.get v.pc t).toNat default).Val⟩:ZIn),true)
noncomputable def F_impl_seq_moves_L8 (s:ZSq):((List Int)×Int)->Option (((List Int)×Int) ⊕ (List Int)):=fun s7=>
 bif decide (s7.2<(s.values.p.length:Int)) then
  Option.bind (
   Option.bind (F_impl_values_next s.values s7.2) fun v14=>
   bif v14.2 then
    gd (capOK (s7.1.length+1) 8) <|
    some (s7.1++[s7.2])
   else
    some s7.1
  ) fun s13=>
  gd (inK .i64 (s7.2+(1:Int))) <|
  some (.inl (s13,(s7.2+(1:Int))))
 else
  some (.inr s7.1)
noncomputable def F_impl_seq_moves (s:ZSq):Option (List Int):=
 Option.bind (
  loopO (F_impl_seq_moves_L8 s) (([]:List Int),(0:Int))
 ) fun s1=>
 some s1
noncomputable def F_slices_Index_int_int_L5 (s:List Int) (v:Int):Int->Option (Int ⊕ (Unit ⊕ Int)):=fun s4=>
 bif decide (s4<(s.length:Int)) then
  gd (decide (0<=s4/\s4<(s.length:Int))) <|
  bif (v==(s.getD s4.toNat default)) then
   some (.inr (.inr s4))
  else
   gd (inK .i64 (s4+(1:Int))) <|
   some (.inl (s4+(1:Int)))
 else
  some (.inr (.inl ()))
noncomputable def F_slices_Index_int_int (s:List Int) (v:Int):Option Int:=
 sumK (
  loopO (F_slices_Index_int_int_L5 s v) (0:Int)
 ) fun s1=>
 some (-1:Int)
noncomputable def F_slices_Contains_int_int (s:List Int) (v:Int):Option Bool:=
 Option.bind (F_slices_Index_int_int s v) fun v1=>
 some (decide ((0:Int)<=v1))
noncomputable def F_impl_values_stored (v:ZVa) (t:Int) (x:ZIn):Option Int:=
 bif (x.Op==(3:Int)) then
  gd (decide (0<=t/\t<3)) <|
  gd (decide (0<=x.Reg/\x.Reg<3)) <|
  some (Z3b.get (Z33.get v.reg t) x.Reg)
 else
  gd (inK .u8 x.Val) <|
  some x.Val
noncomputable def F_impl_Instr_reads (x:ZIn):Option Bool:=
 Option.bind (bif (x.Op==(1:Int)) then
  some true
 else
  some (x.Op==(5:Int))
 ) fun s1=>
 some s1
noncomputable def F_impl_Instr_writes (x:ZIn):Option Bool:=
 Option.bind (bif (x.Op==(2:Int)) then
  some true
 else
  some (x.Op==(3:Int))
 ) fun s1=>
 Option.bind (bif s1 then
  some true
 else
  some (x.Op==(5:Int))
 ) fun s3=>
 some s3
noncomputable def F_impl_seq_after (s:ZSq) (t:Int):Option ZSq:=
 Option.bind (F_impl_values_next s.values t) fun v1=>
 gd (decide (0<=t/\t<3)) <|
 gd (inK .u8 ((Z3b.get s.values.pc t)+(1:Int))) <|
 Option.bind (F_impl_values_stored s.values t (⟨v1.1.Op,v1.1.Loc,v1.1.Reg,v1.1.Val⟩:ZIn)) fun v4=>
 Option.bind (
  Option.bind (F_impl_Instr_reads (⟨v1.1.Op,v1.1.Loc,v1.1.Reg,v1.1.Val⟩:ZIn)) fun v6=>
  bif v6 then
   gd (decide (0<=v1.1.Loc/\v1.1.Loc<3)) <|
   gd (decide (0<=v1.1.Reg/\v1.1.Reg<3)) <|
   some (((Z33.set s.values.reg t (Z3b.set (Z33.get s.values.reg t) v1.1.Reg (Z3b.get s.values.mem v1.1.Loc))).x0).x0,((Z33.set s.values.reg t (Z3b.set (Z33.get s.values.reg t) v1.1.Reg (Z3b.get s.values.mem v1.1.Loc))).x0).x1,((Z33.set s.values.reg t (Z3b.set (Z33.get s.values.reg t) v1.1.Reg (Z3b.get s.values.mem v1.1.Loc))).x0).x2,((Z33.set s.values.reg t (Z3b.set (Z33.get s.values.reg t) v1.1.Reg (Z3b.get s.values.mem v1.1.Loc))).x1).x0,((Z33.set s.values.reg t (Z3b.set (Z33.get s.values.reg t) v1.1.Reg (Z3b.get s.values.mem v1.1.Loc))).x1).x1,((Z33.set s.values.reg t (Z3b.set (Z33.get s.values.reg t) v1.1.Reg (Z3b.get s.values.mem v1.1.Loc))).x1).x2,((Z33.set s.values.reg t (Z3b.set (Z33.get s.values.reg t) v1.1.Reg (Z3b.get s.values.mem v1.1.Loc))).x2).x0,((Z33.set s.values.reg t (Z3b.set (Z33.get s.values.reg t) v1.1.Reg (Z3b.get s.values.mem v1.1.Loc))).x2).x1,((Z33.set s.values.reg t (Z3b.set (Z33.get s.values.reg t) v1.1.Reg (Z3b.get s.values.mem v1.1.Loc))).x2).x2)
  else
   some (s.values.reg.x0.x0,s.values.reg.x0.x1,s.values.reg.x0.x2,s.values.reg.x1.x0,s.values.reg.x1.x1,s.values.reg.x1.x2,s.values.reg.x2.x0,s.values.reg.x2.x1,s.values.reg.x2.x2)
 ) fun s5=>
 Option.bind (
  Option.bind (F_impl_Instr_writes (⟨v1.1.Op,v1.1.Loc,v1.1.Reg,v1.1.Val⟩:ZIn)) fun v11=>
  bif v11 then
   gd (decide (0<=v1.1.Loc/\v1.1.Loc<3)) <|
   some ((Z3b.set s.values.mem v1.1.Loc v4).x0,(Z3b.set s.values.mem v1.1.Loc v4).x1,(Z3b.set s.values.mem v1.1.Loc v4).x2)
  else
   some (s.values.mem.x0,s.values.mem.x1,s.values.mem.x2)
 ) fun s10=>
 some (⟨(⟨s.values.p,(⟨(Z3b.set s.values.pc t ((Z3b.get s.values.pc t)+(1:Int))).x0,(Z3b.set s.values.pc t ((Z3b.get s.values.pc t)+(1:Int))).x1,(Z3b.set s.values.pc t ((Z3b.get s.values.pc t)+(1:Int))).x2⟩:Z3b),(⟨(⟨s5.1,s5.2.1,s5.2.2.1⟩:Z3b),(⟨s5.2.2.2.1,s5.2.2.2.2.1,s5.2.2.2.2.2.1⟩:Z3b),(⟨s5.2.2.2.2.2.2.1,s5.2.2.2.2.2.2.2.1,s5.2.2.2.2.2.2.2.2⟩:Z3b)⟩:Z33),(⟨s10.1,s10.2.1,s10.2.2⟩:Z3b)⟩:ZVa)⟩:ZSq)
noncomputable def F_impl_follow__impl_seq_L5 (moves:List Int):(Int×ZSq)->Option ((Int×ZSq) ⊕ (ZSq ⊕ ((Option ZSq)×Bool))):=fun s4=>
 bif decide (s4.1<(moves.length:Int)) then
  gd (decide (0<=s4.1/\s4.1<(moves.length:Int))) <|
  Option.bind (F_impl_seq_moves s4.2) fun v8=>
  Option.bind (F_slices_Contains_int_int v8 (moves.getD s4.1.toNat default)) fun v9=>
  bif !v9 then
   some (.inr (.inr (none,false)))
  else
   Option.bind (F_impl_seq_after s4.2 (moves.getD s4.1.toNat default)) fun v11=>
   gd (inK .i64 (s4.1+(1:Int))) <|
   some (.inl ((s4.1+(1:Int)),v11))
 else
  some (.inr (.inl s4.2))
noncomputable def F_impl_follow__impl_seq (s:ZSq) (moves:List Int):Option ((Option ZSq)×Bool):=
 sumK (
  loopO (F_impl_follow__impl_seq_L5 moves) ((0:Int),s)
 ) fun s1=>
 some ((some s1),true)
noncomputable def F_impl_values_allDone_L5 (v:ZVa):Int->Option (Int ⊕ (Unit ⊕ Bool)):=fun s4=>
 bif decide (s4<(v.p.length:Int)) then
  Option.bind (F_impl_values_next v s4) fun v7=>
  bif v7.2 then
   some (.inr (.inr false))
  else
   gd (inK .i64 (s4+(1:Int))) <|
   some (.inl (s4+(1:Int)))
 else
  some (.inr (.inl ()))
noncomputable def F_impl_values_allDone (v:ZVa):Option Bool:=
 sumK (
  loopO (F_impl_values_allDone_L5 v) (0:Int)
 ) fun s1=>
 some true
noncomputable def F_impl_seq_done (s:ZSq):Option Bool:=
 Option.bind (F_impl_values_allDone s.values) fun v1=>
 some v1
noncomputable def F_impl_values_outcome_L21 (v:ZVa) (s7:(List Int)×Int):((List Int)×Int)->Option (((List Int)×Int) ⊕ (List Int)):=fun s20=>
 bif decide (s20.2<(3:Int)) then
  gd (decide (0<=s20.2/\s20.2<3)) <|
  gd (inK .i64 (Z3b.get (Z33.get v.reg s7.2) s20.2)) <|
  gd (capOK (s20.1.length+1) 8) <|
  gd (inK .i64 (s20.2+(1:Int))) <|
  some (.inl ((s20.1++[(Z3b.get (Z33.get v.reg s7.2) s20.2)]),(s20.2+(1:Int))))
 else
  some (.inr s20.1)
noncomputable def F_impl_values_outcome_L8 (v:ZVa):((List Int)×Int)->Option (((List Int)×Int) ⊕ (List Int)):=fun s7=>
 bif decide (s7.2<(v.p.length:Int)) then
  Option.bind (
   gd (decide (0<=s7.2/\s7.2<3)) <|
   loopO (F_impl_values_outcome_L21 v s7) (s7.1,(0:Int))
  ) fun s13=>
  gd (inK .i64 (s7.2+(1:Int))) <|
  some (.inl (s13,(s7.2+(1:Int))))
 else
  some (.inr s7.1)
noncomputable def F_impl_values_outcome_L44 (v:ZVa):((List Int)×Int)->Option (((List Int)×Int) ⊕ (List Int)):=fun s43=>
 bif decide (s43.2<(3:Int)) then
  gd (decide (0<=s43.2/\s43.2<3)) <|
  gd (inK .i64 (Z3b.get v.mem s43.2)) <|
  gd (capOK (s43.1.length+1) 8) <|
  gd (inK .i64 (s43.2+(1:Int))) <|
  some (.inl ((s43.1++[(Z3b.get v.mem s43.2)]),(s43.2+(1:Int))))
 else
  some (.inr s43.1)
noncomputable def F_impl_values_outcome (v:ZVa):Option (List Int):=
 Option.bind (
  loopO (F_impl_values_outcome_L8 v) (([]:List Int),(0:Int))
 ) fun s1=>
 Option.bind (
  loopO (F_impl_values_outcome_L44 v) (s1,(0:Int))
 ) fun s37=>
 some s37
noncomputable def F_impl_finished__impl_seq (s:ZSq) (moves:List Int):Option ((List Int)×Bool):=
 Option.bind (F_impl_follow__impl_seq s moves) fun v1=>
 Option.bind (bif !v1.2 then
  some true
 else
  gd (v1.1.isSome) <|
  Option.bind (F_impl_seq_done (v1.1.getD default)) fun v5=>
  some (!v5)
 ) fun s2=>
 bif s2 then
  some (([]:List Int),false)
 else
  gd (v1.1.isSome) <|
  Option.bind (F_impl_values_outcome ((v1.1.getD default).values)) fun v8=>
  some (v8,true)
noncomputable def F_impl_RunSchedule (p:List (List ZIn)) (schedule:List Int):Option ((List Int)×Bool):=
 Option.bind (F_impl_ProgramValid p) fun v1=>
 bif !v1 then
  some (([]:List Int),false)
 else
  Option.bind (F_impl_newSeq p) fun v3=>
  Option.bind (F_impl_finished__impl_seq v3 schedule) fun v4=>
  some (v4.1,v4.2)
noncomputable def F_impl_events_L8:((List ZEv)×Int)->Option (((List ZEv)×Int) ⊕ (List ZEv)):=fun s7=>
 bif decide (s7.2<(3:Int)) then
  gd (capOK (s7.1.length+1) 32) <|
  gd (inK .i64 (s7.2+(1:Int))) <|
  some (.inl ((s7.1++[(⟨(-1:Int),s7.2,s7.2,false,true⟩:ZEv)]),(s7.2+(1:Int))))
 else
  some (.inr s7.1)
noncomputable def F_impl_events_L38 (p:List (List ZIn)) (s24:(List ZEv)×Int):((List ZEv)×Int)->Option (((List ZEv)×Int) ⊕ (List ZEv)):=fun s37=>
 bif decide (s37.2<((p.getD s24.2.toNat default).length:Int)) then
  Option.bind (
   gd (decide (0<=s37.2/\s37.2<((p.getD s24.2.toNat default).length:Int))) <|
   bif ((((p.getD s24.2.toNat default).getD s37.2.toNat default).Op) != (4:Int)) then
    Option.bind (F_impl_Instr_reads (⟨((p.getD s24.2.toNat default).getD s37.2.toNat default).Op,((p.getD s24.2.toNat default).getD s37.2.toNat default).Loc,((p.getD s24.2.toNat default).getD s37.2.toNat default).Reg,((p.getD s24.2.toNat default).getD s37.2.toNat default).Val⟩:ZIn)) fun v46=>
    Option.bind (F_impl_Instr_writes (⟨((p.getD s24.2.toNat default).getD s37.2.toNat default).Op,((p.getD s24.2.toNat default).getD s37.2.toNat default).Loc,((p.getD s24.2.toNat default).getD s37.2.toNat default).Reg,((p.getD s24.2.toNat default).getD s37.2.toNat default).Val⟩:ZIn)) fun v47=>
    gd (capOK (s37.1.length+1) 32) <|
    some (s37.1++[(⟨s24.2,s37.2,((p.getD s24.2.toNat default).getD s37.2.toNat default).Loc,v46,v47⟩:ZEv)])
   else
    some s37.1
  ) fun s43=>
  gd (inK .i64 (s37.2+(1:Int))) <|
  some (.inl (s43,(s37.2+(1:Int))))
 else
  some (.inr s37.1)
noncomputable def F_impl_events_L25 (p:List (List ZIn)):((List ZEv)×Int)->Option (((List ZEv)×Int) ⊕ (List ZEv)):=fun s24=>
 bif decide (s24.2<(p.length:Int)) then
  Option.bind (
   gd (decide (0<=s24.2/\s24.2<(p.length:Int))) <|
   loopO (F_impl_events_L38 p s24) (s24.1,(0:Int))
  ) fun s30=>
  gd (inK .i64 (s24.2+(1:Int))) <|
  some (.inl (s30,(s24.2+(1:Int))))
 else
  some (.inr s24.1)
noncomputable def F_impl_events (p:List (List ZIn)):Option (List ZEv):=
 Option.bind (
  loopO F_impl_events_L8 (([]:List ZEv),(0:Int))
 ) fun s1=>
 Option.bind (
  loopO (F_impl_events_L25 p) (s1,(0:Int))
 ) fun s18=>
 some s18
noncomputable def F_math_bits_Mul64 (x:Int) (y:Int):Option (Int×Int):=
 gd (decide (0<=(32:Int))) <|
 gd (inK .u64 ((bAnd .u64 x (4294967295:Int))*(bAnd .u64 y (4294967295:Int)))) <|
 gd (inK .u64 ((bShr .u64 x (32:Int))*(bAnd .u64 y (4294967295:Int)))) <|
 gd (inK .u64 (((bShr .u64 x (32:Int))*(bAnd .u64 y (4294967295:Int)))+(bShr .u64 ((bAnd .u64 x (4294967295:Int))*(bAnd .u64 y (4294967295:Int))) (32:Int)))) <|
 gd (inK .u64 ((bAnd .u64 x (4294967295:Int))*(bShr .u64 y (32:Int)))) <|
 gd (inK .u64 ((bAnd .u64 (((bShr .u64 x (32:Int))*(bAnd .u64 y (4294967295:Int)))+(bShr .u64 ((bAnd .u64 x (4294967295:Int))*(bAnd .u64 y (4294967295:Int))) (32:Int))) (4294967295:Int))+((bAnd .u64 x (4294967295:Int))*(bShr .u64 y (32:Int))))) <|
 gd (inK .u64 ((bShr .u64 x (32:Int))*(bShr .u64 y (32:Int)))) <|
 gd (inK .u64 (((bShr .u64 x (32:Int))*(bShr .u64 y (32:Int)))+(bShr .u64 (((bShr .u64 x (32:Int))*(bAnd .u64 y (4294967295:Int)))+(bShr .u64 ((bAnd .u64 x (4294967295:Int))*(bAnd .u64 y (4294967295:Int))) (32:Int))) (32:Int)))) <|
 gd (inK .u64 ((((bShr .u64 x (32:Int))*(bShr .u64 y (32:Int)))+(bShr .u64 (((bShr .u64 x (32:Int))*(bAnd .u64 y (4294967295:Int)))+(bShr .u64 ((bAnd .u64 x (4294967295:Int))*(bAnd .u64 y (4294967295:Int))) (32:Int))) (32:Int)))+(bShr .u64 ((bAnd .u64 (((bShr .u64 x (32:Int))*(bAnd .u64 y (4294967295:Int)))+(bShr .u64 ((bAnd .u64 x (4294967295:Int))*(bAnd .u64 y (4294967295:Int))) (32:Int))) (4294967295:Int))+((bAnd .u64 x (4294967295:Int))*(bShr .u64 y (32:Int)))) (32:Int)))) <|
 gd (inK .u64 (x*y)) <|
 some (((((bShr .u64 x (32:Int))*(bShr .u64 y (32:Int)))+(bShr .u64 (((bShr .u64 x (32:Int))*(bAnd .u64 y (4294967295:Int)))+(bShr .u64 ((bAnd .u64 x (4294967295:Int))*(bAnd .u64 y (4294967295:Int))) (32:Int))) (32:Int)))+(bShr .u64 ((bAnd .u64 (((bShr .u64 x (32:Int))*(bAnd .u64 y (4294967295:Int)))+(bShr .u64 ((bAnd .u64 x (4294967295:Int))*(bAnd .u64 y (4294967295:Int))) (32:Int))) (4294967295:Int))+((bAnd .u64 x (4294967295:Int))*(bShr .u64 y (32:Int)))) (32:Int))),(x*y))
noncomputable def F_math_bits_Mul (x:Int) (y:Int):Option (Int×Int):=
 Option.bind (F_math_bits_Mul64 x y) fun v1=>
 some (v1.1,v1.2)
noncomputable def F_slices_Repeat_int_int_L17:((List Int)×Int)->Option (((List Int)×Int) ⊕ (List Int)):=fun s16=>
 bif decide (s16.2<(s16.1.length:Int)) then
  gd (decide (0<=s16.2/\s16.2<=(s16.1.length:Int)/\(s16.1.length:Int)<=(s16.1.length:Int))) <|
  gd (decide (0<=(0:Int)/\(0:Int)<=s16.2/\s16.2<=(s16.1.length:Int))) <|
  gd (inK .i64 (s16.2+((min ((s16.1.drop (0+(0:Int).toNat)).take (s16.2.toNat-(0:Int).toNat)).length ((s16.1.length:Int).toNat-s16.2.toNat):Nat):Int))) <|
  some (.inl ((cpy s16.1 (0+s16.2.toNat) ((s16.1.drop (0+(0:Int).toNat)).take (s16.2.toNat-(0:Int).toNat)) ((s16.1.length:Int).toNat-s16.2.toNat)),(s16.2+((min ((s16.1.drop (0+(0:Int).toNat)).take (s16.2.toNat-(0:Int).toNat)).length ((s16.1.length:Int).toNat-s16.2.toNat):Nat):Int))))
 else
  some (.inr s16.1)
noncomputable def F_slices_Repeat_int_int (x:List Int) (count:Int):Option (List Int):=
 Option.bind (
  bif decide (count<(0:Int)) then
   none
  else
   some ()
 ) fun s1=>
 gd (inK .u64 (x.length:Int)) <|
 gd (inK .u64 count) <|
 Option.bind (F_math_bits_Mul (x.length:Int) count) fun v5=>
 Option.bind (
  Option.bind (bif decide ((0:Int)<v5.1) then
   some true
  else
   some (decide ((9223372036854775807:Int)<v5.2))
  ) fun s7=>
  bif s7 then
   none
  else
   some ()
 ) fun s6=>
 gd (inK .i64 v5.2) <|
 gd (decide (0<=v5.2/\v5.2<=v5.2/\v5.2*((8:Nat):Int)<=140737488355328/\v5.2<=140737488355328)) <|
 Option.bind (
  loopO F_slices_Repeat_int_int_L17 ((cpy (List.replicate v5.2.toNat (default:Int)) 0 x ((List.replicate v5.2.toNat (default:Int)).length)),((min x.length ((List.replicate v5.2.toNat (default:Int)).length):Nat):Int))
 ) fun s12=>
 some s12
noncomputable def F_impl_numbers_L33 (p:List (List ZIn)) (s13:(List (List Int))×Int×Int):((List (List Int))×Int×Int)->Option (((List (List Int))×Int×Int) ⊕ ((List (List Int))×Int)):=fun s32=>
 bif decide (s32.2.1<((p.getD s13.2.1.toNat default).length:Int)) then
  Option.bind (
   gd (decide (0<=s32.2.1/\s32.2.1<((p.getD s13.2.1.toNat default).length:Int))) <|
   bif ((((p.getD s13.2.1.toNat default).getD s32.2.1.toNat default).Op)==(4:Int)) then
    gd (decide (0<=s13.2.1/\s13.2.1<(s32.1.length:Int))) <|
    gd (capOK ((s32.1.getD s13.2.1.toNat []).length+1) 8) <|
    some ((s32.1.set s13.2.1.toNat ((s32.1.getD s13.2.1.toNat [])++[(-1:Int)])),s32.2.2)
   else
    gd (decide (0<=s13.2.1/\s13.2.1<(s32.1.length:Int))) <|
    gd (capOK ((s32.1.getD s13.2.1.toNat []).length+1) 8) <|
    gd (inK .i64 (s32.2.2+(1:Int))) <|
    some ((s32.1.set s13.2.1.toNat ((s32.1.getD s13.2.1.toNat [])++[s32.2.2])),(s32.2.2+(1:Int)))
  ) fun s39=>
  gd (inK .i64 (s32.2.1+(1:Int))) <|
  some (.inl (s39.1,(s32.2.1+(1:Int)),s39.2))
 else
  some (.inr (s32.1,s32.2.2))
noncomputable def F_impl_numbers_L14 (p:List (List ZIn)):((List (List Int))×Int×Int)->Option (((List (List Int))×Int×Int) ⊕ (List (List Int))):=fun s13=>
 bif decide (s13.2.1<(p.length:Int)) then
  Option.bind (
   gd (decide (0<=s13.2.1/\s13.2.1<(p.length:Int))) <|
   loopO (F_impl_numbers_L33 p s13) (s13.1,(0:Int),s13.2.2)
  ) fun s20=>
  gd (inK .i64 (s13.2.1+(1:Int))) <|
  some (.inl (s20.1,(s13.2.1+(1:Int)),s20.2))
 else
  some (.inr s13.1)
noncomputable def F_impl_numbers (p:List (List ZIn)):Option (List (List Int)):=
 gd (decide (0<=(p.length:Int)/\(p.length:Int)<=(p.length:Int)/\(p.length:Int)*((24:Nat):Int)<=140737488355328/\(p.length:Int)<=140737488355328)) <|
 Option.bind (
  loopO (F_impl_numbers_L14 p) ((List.replicate (p.length:Int).toNat ([]:List Int)),(0:Int),(3:Int))
 ) fun s2=>
 some s2
noncomputable def F_impl_execOf_L25 (p:List (List ZIn)) (schedule:List Int) (v6:(List (List Int))):((List Int)×(List (List Int))×Int×Int×Int×Int)->Option (((List Int)×(List (List Int))×Int×Int×Int×Int) ⊕ ((List Int)×(List (List Int))×Int×Int×Int)):=fun s24=>
 bif decide (s24.2.2.2.2.2<(schedule.length:Int)) then
  Option.bind (
   gd (decide (0<=s24.2.2.2.2.2/\s24.2.2.2.2.2<(schedule.length:Int))) <|
   gd (decide (0<=(schedule.getD s24.2.2.2.2.2.toNat default)/\(schedule.getD s24.2.2.2.2.2.toNat default)<(p.length:Int))) <|
   gd (decide (0<=(schedule.getD s24.2.2.2.2.2.toNat default)/\(schedule.getD s24.2.2.2.2.2.toNat default)<3)) <|
   gd (decide (0<=(Z3i.get (⟨s24.2.2.1,s24.2.2.2.1,s24.2.2.2.2.1⟩:Z3i) (schedule.getD s24.2.2.2.2.2.toNat default))/\(Z3i.get (⟨s24.2.2.1,s24.2.2.2.1,s24.2.2.2.2.1⟩:Z3i) (schedule.getD s24.2.2.2.2.2.toNat default))<((p.getD (schedule.getD s24.2.2.2.2.2.toNat default).toNat default).length:Int))) <|
   gd (decide (0<=(schedule.getD s24.2.2.2.2.2.toNat default)/\(schedule.getD s24.2.2.2.2.2.toNat default)<(v6.length:Int))) <|
   gd (decide (0<=(Z3i.get (⟨s24.2.2.1,s24.2.2.2.1,s24.2.2.2.2.1⟩:Z3i) (schedule.getD s24.2.2.2.2.2.toNat default))/\(Z3i.get (⟨s24.2.2.1,s24.2.2.2.1,s24.2.2.2.2.1⟩:Z3i) (schedule.getD s24.2.2.2.2.2.toNat default))<((v6.getD (schedule.getD s24.2.2.2.2.2.toNat default).toNat default).length:Int))) <|
   gd (inK .i64 ((Z3i.get (⟨s24.2.2.1,s24.2.2.2.1,s24.2.2.2.2.1⟩:Z3i) (schedule.getD s24.2.2.2.2.2.toNat default))+(1:Int))) <|
   bif ((((p.getD (schedule.getD s24.2.2.2.2.2.toNat default).toNat default).getD (Z3i.get (⟨s24.2.2.1,s24.2.2.2.1,s24.2.2.2.2.1⟩:Z3i) (schedule.getD s24.2.2.2.2.2.toNat default)).toNat default).Op)==(4:Int)) then
    some (s24.1,s24.2.1)
   else
    gd (decide (0<=((p.getD (schedule.getD s24.2.2.2.2.2.toNat default).toNat default).getD (Z3i.get (⟨s24.2.2.1,s24.2.2.2.1,s24.2.2.2.2.1⟩:Z3i) (schedule.getD s24.2.2.2.2.2.toNat default)).toNat default).Loc/\((p.getD (schedule.getD s24.2.2.2.2.2.toNat default).toNat default).getD (Z3i.get (⟨s24.2.2.1,s24.2.2.2.1,s24.2.2.2.2.1⟩:Z3i) (schedule.getD s24.2.2.2.2.2.toNat default)).toNat default).Loc<(s24.2.1.length:Int))) <|
    Option.bind (
     Option.bind (F_impl_Instr_reads (⟨((p.getD (schedule.getD s24.2.2.2.2.2.toNat default).toNat default).getD (Z3i.get (⟨s24.2.2.1,s24.2.2.2.1,s24.2.2.2.2.1⟩:Z3i) (schedule.getD s24.2.2.2.2.2.toNat default)).toNat default).Op,((p.getD (schedule.getD s24.2.2.2.2.2.toNat default).toNat default).getD (Z3i.get (⟨s24.2.2.1,s24.2.2.2.1,s24.2.2.2.2.1⟩:Z3i) (schedule.getD s24.2.2.2.2.2.toNat default)).toNat default).Loc,((p.getD (schedule.getD s24.2.2.2.2.2.toNat default).toNat default).getD (Z3i.get (⟨s24.2.2.1,s24.2.2.2.1,s24.2.2.2.2.1⟩:Z3i) (schedule.getD s24.2.2.2.2.2.toNat default)).toNat default).Reg,((p.getD (schedule.getD s24.2.2.2.2.2.toNat default).toNat default).getD (Z3i.get (⟨s24.2.2.1,s24.2.2.2.1,s24.2.2.2.2.1⟩:Z3i) (schedule.getD s24.2.2.2.2.2.toNat default)).toNat default).Val⟩:ZIn)) fun v50=>
     bif v50 then
      gd (inK .i64 (((s24.2.1.getD ((((p.getD (schedule.getD s24.2.2.2.2.2.toNat default).toNat default).getD (Z3i.get (⟨s24.2.2.1,s24.2.2.2.1,s24.2.2.2.2.1⟩:Z3i) (schedule.getD s24.2.2.2.2.2.toNat default)).toNat default).Loc).toNat) []).length:Int)-(1:Int))) <|
      gd (decide (0<=(((s24.2.1.getD ((((p.getD (schedule.getD s24.2.2.2.2.2.toNat default).toNat default).getD (Z3i.get (⟨s24.2.2.1,s24.2.2.2.1,s24.2.2.2.2.1⟩:Z3i) (schedule.getD s24.2.2.2.2.2.toNat default)).toNat default).Loc).toNat) []).length:Int)-(1:Int))/\(((s24.2.1.getD ((((p.getD (schedule.getD s24.2.2.2.2.2.toNat default).toNat default).getD (Z3i.get (⟨s24.2.2.1,s24.2.2.2.1,s24.2.2.2.2.1⟩:Z3i) (schedule.getD s24.2.2.2.2.2.toNat default)).toNat default).Loc).toNat) []).length:Int)-(1:Int))<(((s24.2.1.getD ((((p.getD (schedule.getD s24.2.2.2.2.2.toNat default).toNat default).getD (Z3i.get (⟨s24.2.2.1,s24.2.2.2.1,s24.2.2.2.2.1⟩:Z3i) (schedule.getD s24.2.2.2.2.2.toNat default)).toNat default).Loc).toNat) []).length):Int))) <|
      gd (decide (0<=((v6.getD (schedule.getD s24.2.2.2.2.2.toNat default).toNat default).getD (Z3i.get (⟨s24.2.2.1,s24.2.2.2.1,s24.2.2.2.2.1⟩:Z3i) (schedule.getD s24.2.2.2.2.2.toNat default)).toNat default)/\((v6.getD (schedule.getD s24.2.2.2.2.2.toNat default).toNat default).getD (Z3i.get (⟨s24.2.2.1,s24.2.2.2.1,s24.2.2.2.2.1⟩:Z3i) (schedule.getD s24.2.2.2.2.2.toNat default)).toNat default)<(s24.1.length:Int))) <|
      some ((s24.1.set (((v6.getD (schedule.getD s24.2.2.2.2.2.toNat default).toNat default).getD (Z3i.get (⟨s24.2.2.1,s24.2.2.2.1,s24.2.2.2.2.1⟩:Z3i) (schedule.getD s24.2.2.2.2.2.toNat default)).toNat default).toNat) ((s24.2.1.getD ((((p.getD (schedule.getD s24.2.2.2.2.2.toNat default).toNat default).getD (Z3i.get (⟨s24.2.2.1,s24.2.2.2.1,s24.2.2.2.2.1⟩:Z3i) (schedule.getD s24.2.2.2.2.2.toNat default)).toNat default).Loc).toNat) []).getD ((((s24.2.1.getD ((((p.getD (schedule.getD s24.2.2.2.2.2.toNat default).toNat default).getD (Z3i.get (⟨s24.2.2.1,s24.2.2.2.1,s24.2.2.2.2.1⟩:Z3i) (schedule.getD s24.2.2.2.2.2.toNat default)).toNat default).Loc).toNat) []).length:Int)-(1:Int)).toNat) default)),(s24.2.1.getD ((((p.getD (schedule.getD s24.2.2.2.2.2.toNat default).toNat default).getD (Z3i.get (⟨s24.2.2.1,s24.2.2.2.1,s24.2.2.2.2.1⟩:Z3i) (schedule.getD s24.2.2.2.2.2.toNat default)).toNat default).Loc).toNat) []))
     else
      some (s24.1,(s24.2.1.getD ((((p.getD (schedule.getD s24.2.2.2.2.2.toNat default).toNat default).getD (Z3i.get (⟨s24.2.2.1,s24.2.2.2.1,s24.2.2.2.2.1⟩:Z3i) (schedule.getD s24.2.2.2.2.2.toNat default)).toNat default).Loc).toNat) []))
    ) fun s49=>
    Option.bind (F_impl_Instr_writes (⟨((p.getD (schedule.getD s24.2.2.2.2.2.toNat default).toNat default).getD (Z3i.get (⟨s24.2.2.1,s24.2.2.2.1,s24.2.2.2.2.1⟩:Z3i) (schedule.getD s24.2.2.2.2.2.toNat default)).toNat default).Op,((p.getD (schedule.getD s24.2.2.2.2.2.toNat default).toNat default).getD (Z3i.get (⟨s24.2.2.1,s24.2.2.2.1,s24.2.2.2.2.1⟩:Z3i) (schedule.getD s24.2.2.2.2.2.toNat default)).toNat default).Loc,((p.getD (schedule.getD s24.2.2.2.2.2.toNat default).toNat default).getD (Z3i.get (⟨s24.2.2.1,s24.2.2.2.1,s24.2.2.2.2.1⟩:Z3i) (schedule.getD s24.2.2.2.2.2.toNat default)).toNat default).Reg,((p.getD (schedule.getD s24.2.2.2.2.2.toNat default).toNat default).getD (Z3i.get (⟨s24.2.2.1,s24.2.2.2.1,s24.2.2.2.2.1⟩:Z3i) (schedule.getD s24.2.2.2.2.2.toNat default)).toNat default).Val⟩:ZIn)) fun v65=>
    bif v65 then
     gd (capOK (s49.2.length+1) 8) <|
     some (s49.1,(s24.2.1.set ((((p.getD (schedule.getD s24.2.2.2.2.2.toNat default).toNat default).getD (Z3i.get (⟨s24.2.2.1,s24.2.2.2.1,s24.2.2.2.2.1⟩:Z3i) (schedule.getD s24.2.2.2.2.2.toNat default)).toNat default).Loc).toNat) (s49.2++[((v6.getD (schedule.getD s24.2.2.2.2.2.toNat default).toNat default).getD (Z3i.get (⟨s24.2.2.1,s24.2.2.2.1,s24.2.2.2.2.1⟩:Z3i) (schedule.getD s24.2.2.2.2.2.toNat default)).toNat default)])))
    else
     some (s49.1,(s24.2.1.set ((((p.getD (schedule.getD s24.2.2.2.2.2.toNat default).toNat default).getD (Z3i.get (⟨s24.2.2.1,s24.2.2.2.1,s24.2.2.2.2.1⟩:Z3i) (schedule.getD s24.2.2.2.2.2.toNat default)).toNat default).Loc).toNat) s49.2))
  ) fun s34=>
  gd (inK .i64 (s24.2.2.2.2.2+(1:Int))) <|
  some (.inl (s34.1,s34.2,(Z3i.set (⟨s24.2.2.1,s24.2.2.2.1,s24.2.2.2.2.1⟩:Z3i) (schedule.getD s24.2.2.2.2.2.toNat default) ((Z3i.get (⟨s24.2.2.1,s24.2.2.2.1,s24.2.2.2.2.1⟩:Z3i) (schedule.getD s24.2.2.2.2.2.toNat default))+(1:Int))).x0,(Z3i.set (⟨s24.2.2.1,s24.2.2.2.1,s24.2.2.2.2.1⟩:Z3i) (schedule.getD s24.2.2.2.2.2.toNat default) ((Z3i.get (⟨s24.2.2.1,s24.2.2.2.1,s24.2.2.2.2.1⟩:Z3i) (schedule.getD s24.2.2.2.2.2.toNat default))+(1:Int))).x1,(Z3i.set (⟨s24.2.2.1,s24.2.2.2.1,s24.2.2.2.2.1⟩:Z3i) (schedule.getD s24.2.2.2.2.2.toNat default) ((Z3i.get (⟨s24.2.2.1,s24.2.2.2.1,s24.2.2.2.2.1⟩:Z3i) (schedule.getD s24.2.2.2.2.2.toNat default))+(1:Int))).x2,(s24.2.2.2.2.2+(1:Int))))
 else
  some (.inr (s24.1,s24.2.1,s24.2.2.1,s24.2.2.2.1,s24.2.2.2.2.1))
noncomputable def F_impl_execOf (p:List (List ZIn)) (schedule:List Int):Option ZEx:=
 Option.bind (F_impl_events p) fun v1=>
 Option.bind (F_slices_Repeat_int_int ([(-1:Int)]:List Int) (v1.length:Int)) fun v2=>
 Option.bind (F_impl_numbers p) fun v6=>
 Option.bind (
  loopO (F_impl_execOf_L25 p schedule v6) (v2,([([(0:Int)]:List Int),([(1:Int)]:List Int),([(2:Int)]:List Int)]:List (List Int)),(0:Int),(0:Int),(0:Int),(0:Int))
 ) fun s7=>
 some (⟨s7.1,s7.2.1⟩:ZEx)
noncomputable def F_impl_ExecOf (p:List (List ZIn)) (schedule:List Int):Option (ZEx×Bool):=
 Option.bind (F_impl_RunSchedule p schedule) fun v1=>
 bif !v1.2 then
  some ((⟨([]:List Int),([]:List (List Int))⟩:ZEx),false)
 else
  Option.bind (F_impl_execOf p schedule) fun v3=>
  some ((⟨v3.From,v3.Order⟩:ZEx),true)
noncomputable def F_slices_Equal_int_int_L6 (s1_:List Int) (s2_:List Int):Int->Option (Int ⊕ (Unit ⊕ Bool)):=fun s5=>
 bif decide (s5<(s1_.length:Int)) then
  gd (decide (0<=s5/\s5<(s1_.length:Int))) <|
  gd (decide (0<=s5/\s5<(s2_.length:Int))) <|
  bif ((s1_.getD s5.toNat default) != (s2_.getD s5.toNat default)) then
   some (.inr (.inr false))
  else
   gd (inK .i64 (s5+(1:Int))) <|
   some (.inl (s5+(1:Int)))
 else
  some (.inr (.inl ()))
noncomputable def F_slices_Equal_int_int (s1_:List Int) (s2_:List Int):Option Bool:=
 bif ((s1_.length:Int) != (s2_.length:Int)) then
  some false
 else
  sumK (
   loopO (F_slices_Equal_int_int_L6 s1_ s2_) (0:Int)
  ) fun s2=>
  some true
noncomputable def F_impl_ExecSame_1 (x:List Int) (y:List Int):Option Bool:=
 Option.bind (F_slices_Equal_int_int x y) fun v1=>
 some v1
noncomputable def F_slices_EqualFunc_int_int_int_int__impl_ExecSame_1_L6 (s1_:List (List Int)) (s2_:List (List Int)):Int->Option (Int ⊕ (Unit ⊕ Bool)):=fun s5=>
 bif decide (s5<(s1_.length:Int)) then
  gd (decide (0<=s5/\s5<(s1_.length:Int))) <|
  gd (decide (0<=s5/\s5<(s2_.length:Int))) <|
  Option.bind (F_impl_ExecSame_1 (s1_.getD s5.toNat default) (s2_.getD s5.toNat default)) fun v10=>
  bif !v10 then
   some (.inr (.inr false))
  else
   gd (inK .i64 (s5+(1:Int))) <|
   some (.inl (s5+(1:Int)))
 else
  some (.inr (.inl ()))
noncomputable def F_slices_EqualFunc_int_int_int_int__impl_ExecSame_1 (s1_:List (List Int)) (s2_:List (List Int)):Option Bool:=
 bif ((s1_.length:Int) != (s2_.length:Int)) then
  some false
 else
  sumK (
   loopO (F_slices_EqualFunc_int_int_int_int__impl_ExecSame_1_L6 s1_ s2_) (0:Int)
  ) fun s2=>
  some true
noncomputable def F_impl_ExecSame (a:ZEx) (b:ZEx):Option Bool:=
 Option.bind (F_slices_Equal_int_int a.From b.From) fun v1=>
 Option.bind (bif v1 then
  Option.bind (F_slices_EqualFunc_int_int_int_int__impl_ExecSame_1 a.Order b.Order) fun v4=>
  some v4
 else
  some false
 ) fun s2=>
 some s2
noncomputable def F_impl_SameTrace (p:List (List ZIn)) (a:List Int) (b:List Int):Option Bool:=
 Option.bind (F_impl_ExecOf p a) fun v1=>
 Option.bind (F_impl_ExecOf p b) fun v2=>
 Option.bind (bif v1.2 then
  some v2.2
 else
  some false
 ) fun s3=>
 Option.bind (bif s3 then
  Option.bind (F_impl_ExecSame (⟨v1.1.From,v1.1.Order⟩:ZEx) (⟨v2.1.From,v2.1.Order⟩:ZEx)) fun v7=>
  some v7
 else
  some false
 ) fun s5=>
 some s5
end Go.Proofs.Ytlmjnhnpahicmaa
