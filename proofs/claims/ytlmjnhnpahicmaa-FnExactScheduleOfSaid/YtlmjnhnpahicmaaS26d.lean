/-
 Functions over plain values, as the program's code computes; printed by lift.py. No conditions.
-/
import Derived.Test.YtlmjnhnpahicmaaSt
import Derived.Test.YtlmjnhnpahicmaaBrVd
import Derived.Test.YtlmjnhnpahicmaaSMd
namespace Go.Proofs.Ytlmjnhnpahicmaa
open Go.RowKit
set_option maxRecDepth 100000
noncomputable def F_laws_toInstr (a:Xlaws_Instr):Option ZIn:=
 some (⟨a.Op,a.Loc,a.Reg,a.Val⟩:ZIn)
noncomputable def F_laws_toInstrS_L7 (a:List Xlaws_Instr):((List ZIn)×Int)->Option (((List ZIn)×Int) ⊕ (List ZIn)):=fun s6=>
 bif decide (s6.2<(a.length:Int)) then
  gd (decide (0<=s6.2/\s6.2<(a.length:Int))) <|
  Option.bind (F_laws_toInstr (a.getD s6.2.toNat default)) fun v11=>
  gd (decide (0<=s6.2/\s6.2<(s6.1.length:Int))) <|
  gd (inK .i64 (s6.2+(1:Int))) <|
  some (.inl ((s6.1.set s6.2.toNat v11),(s6.2+(1:Int))))
 else
  some (.inr s6.1)
noncomputable def F_laws_toInstrS (a:List Xlaws_Instr):Option (List ZIn):=
 gd (decide (0<=(a.length:Int)/\(a.length:Int)<=(a.length:Int)/\(a.length:Int)*((32:Nat):Int)<=140737488355328/\(a.length:Int)<=140737488355328)) <|
 Option.bind (
  loopO (F_laws_toInstrS_L7 a) ((List.replicate (a.length:Int).toNat (default:ZIn)),(0:Int))
 ) fun s2=>
 some s2
noncomputable def F_spec_l1Reads (x:ZIn):Option Bool:=
 Option.bind (bif (x.Op==(1:Int)) then
  some true
 else
  some (x.Op==(5:Int))
 ) fun s1=>
 some s1
noncomputable def F_spec_l1Writes (x:ZIn):Option Bool:=
 Option.bind (bif (x.Op==(2:Int)) then
  some true
 else
  some (x.Op==(3:Int))
 ) fun s1=>
 Option.bind (bif s1 then
  some true
 else
  some (x.Op==(5:Int))
 ) fun s3=>
 some s3
noncomputable def F_spec_l6Events_L6:((List ZEv)×Int)->Option (((List ZEv)×Int) ⊕ (List ZEv)):=fun s5=>
 bif decide (s5.2<=(2:Int)) then
  gd (capOK (s5.1.length+1) 32) <|
  gd (inK .i64 (s5.2+(1:Int))) <|
  some (.inl ((s5.1++[(⟨(-1:Int),s5.2,s5.2,false,true⟩:ZEv)]),(s5.2+(1:Int))))
 else
  some (.inr s5.1)
noncomputable def F_spec_l6Events_L25 (p:List (List ZIn)) (s16:(List ZEv)×Int):((List ZEv)×Int)->Option (((List ZEv)×Int) ⊕ (List ZEv)):=fun s24=>
 gd (decide (0<=s16.2/\s16.2<(p.length:Int))) <|
 bif decide (s24.2<((p.getD s16.2.toNat default).length:Int)) then
  Option.bind (
   gd (decide (0<=s24.2/\s24.2<((p.getD s16.2.toNat default).length:Int))) <|
   bif ((((p.getD s16.2.toNat default).getD s24.2.toNat default).Op) != (4:Int)) then
    Option.bind (F_spec_l1Reads (⟨((p.getD s16.2.toNat default).getD s24.2.toNat default).Op,((p.getD s16.2.toNat default).getD s24.2.toNat default).Loc,((p.getD s16.2.toNat default).getD s24.2.toNat default).Reg,((p.getD s16.2.toNat default).getD s24.2.toNat default).Val⟩:ZIn)) fun v32=>
    Option.bind (F_spec_l1Writes (⟨((p.getD s16.2.toNat default).getD s24.2.toNat default).Op,((p.getD s16.2.toNat default).getD s24.2.toNat default).Loc,((p.getD s16.2.toNat default).getD s24.2.toNat default).Reg,((p.getD s16.2.toNat default).getD s24.2.toNat default).Val⟩:ZIn)) fun v33=>
    gd (capOK (s24.1.length+1) 32) <|
    some (s24.1++[(⟨s16.2,s24.2,((p.getD s16.2.toNat default).getD s24.2.toNat default).Loc,v32,v33⟩:ZEv)])
   else
    some s24.1
  ) fun s29=>
  gd (inK .i64 (s24.2+(1:Int))) <|
  some (.inl (s29,(s24.2+(1:Int))))
 else
  some (.inr s24.1)
noncomputable def F_spec_l6Events_L17 (p:List (List ZIn)):((List ZEv)×Int)->Option (((List ZEv)×Int) ⊕ (List ZEv)):=fun s16=>
 bif decide (s16.2<(p.length:Int)) then
  Option.bind (
   loopO (F_spec_l6Events_L25 p s16) (s16.1,(0:Int))
  ) fun s20=>
  gd (inK .i64 (s16.2+(1:Int))) <|
  some (.inl (s20,(s16.2+(1:Int))))
 else
  some (.inr s16.1)
noncomputable def F_spec_l6Events (p:List (List ZIn)):Option (List ZEv):=
 Option.bind (
  loopO F_spec_l6Events_L6 (([]:List ZEv),(0:Int))
 ) fun s1=>
 Option.bind (
  loopO (F_spec_l6Events_L17 p) (s1,(0:Int))
 ) fun s12=>
 some s12
noncomputable def F_impl_events_L8:((List ZEv)×Int)->Option (((List ZEv)×Int) ⊕ (List ZEv)):=fun s7=>
 bif decide (s7.2<(3:Int)) then
  gd (capOK (s7.1.length+1) 32) <|
  gd (inK .i64 (s7.2+(1:Int))) <|
  some (.inl ((s7.1++[(⟨(-1:Int),s7.2,s7.2,false,true⟩:ZEv)]),(s7.2+(1:Int))))
 else
  some (.inr s7.1)
noncomputable def F_impl_events_L38 (p:List (List ZIn)) (s24:(List ZEv)×Int):((List ZEv)×Int)->Option (((List ZEv)×Int) ⊕ (List ZEv)):=fun s37=>
 bif decide (s37.2<((p.getD s24.2.toNat default).length:Int)) then
  Option.bind (
   gd (decide (0<=s37.2/\s37.2<((p.getD s24.2.toNat default).length:Int))) <|
   bif ((((p.getD s24.2.toNat default).getD s37.2.toNat default).Op) != (4:Int)) then
    Option.bind (F_impl_Instr_reads (⟨((p.getD s24.2.toNat default).getD s37.2.toNat default).Op,((p.getD s24.2.toNat default).getD s37.2.toNat default).Loc,((p.getD s24.2.toNat default).getD s37.2.toNat default).Reg,((p.getD s24.2.toNat default).getD s37.2.toNat default).Val⟩:ZIn)) fun v46=>
    Option.bind (F_impl_Instr_writes (⟨((p.getD s24.2.toNat default).getD s37.2.toNat default).Op,((p.getD s24.2.toNat default).getD s37.2.toNat default).Loc,((p.getD s24.2.toNat default).getD s37.2.toNat default).Reg,((p.getD s24.2.toNat default).getD s37.2.toNat default).Val⟩:ZIn)) fun v47=>
    gd (capOK (s37.1.length+1) 32) <|
    some (s37.1++[(⟨s24.2,s37.2,((p.getD s24.2.toNat default).getD s37.2.toNat default).Loc,v46,v47⟩:ZEv)])
   else
    some s37.1
  ) fun s43=>
  gd (inK .i64 (s37.2+(1:Int))) <|
  some (.inl (s43,(s37.2+(1:Int))))
 else
  some (.inr s37.1)
noncomputable def F_impl_events_L25 (p:List (List ZIn)):((List ZEv)×Int)->Option (((List ZEv)×Int) ⊕ (List ZEv)):=fun s24=>
 bif decide (s24.2<(p.length:Int)) then
  Option.bind (
   gd (decide (0<=s24.2/\s24.2<(p.length:Int))) <|
   loopO (F_impl_events_L38 p s24) (s24.1,(0:Int))
  ) fun s30=>
  gd (inK .i64 (s24.2+(1:Int))) <|
  some (.inl (s30,(s24.2+(1:Int))))
 else
  some (.inr s24.1)
noncomputable def F_impl_events (p:List (List ZIn)):Option (List ZEv):=
 Option.bind (
  loopO F_impl_events_L8 (([]:List ZEv),(0:Int))
 ) fun s1=>
 Option.bind (
  loopO (F_impl_events_L25 p) (s1,(0:Int))
 ) fun s18=>
 some s18
noncomputable def F_impl_numbers_L33 (p:List (List ZIn)) (s13:(List (List Int))×Int×Int):((List (List Int))×Int×Int)->Option (((List (List Int))×Int×Int) ⊕ ((List (List Int))×Int)):=fun s32=>
 bif decide (s32.2.1<((p.getD s13.2.1.toNat default).length:Int)) then
  Option.bind (
   gd (decide (0<=s32.2.1/\s32.2.1<((p.getD s13.2.1.toNat default).length:Int))) <|
   bif ((((p.getD s13.2.1.toNat default).getD s32.2.1.toNat default).Op)==(4:Int)) then
    gd (decide (0<=s13.2.1/\s13.2.1<(s32.1.length:Int))) <|
    gd (capOK ((s32.1.getD s13.2.1.toNat []).length+1) 8) <|
    some ((s32.1.set s13.2.1.toNat ((s32.1.getD s13.2.1.toNat [])++[(-1:Int)])),s32.2.2)
   else
    gd (decide (0<=s13.2.1/\s13.2.1<(s32.1.length:Int))) <|
    gd (capOK ((s32.1.getD s13.2.1.toNat []).length+1) 8) <|
    gd (inK .i64 (s32.2.2+(1:Int))) <|
    some ((s32.1.set s13.2.1.toNat ((s32.1.getD s13.2.1.toNat [])++[s32.2.2])),(s32.2.2+(1:Int)))
  ) fun s39=>
  gd (inK .i64 (s32.2.1+(1:Int))) <|
  some (.inl (s39.1,(s32.2.1+(1:Int)),s39.2))
 else
  some (.inr (s32.1,s32.2.2))
noncomputable def F_impl_numbers_L14 (p:List (List ZIn)):((List (List Int))×Int×Int)->Option (((List (List Int))×Int×Int) ⊕ (List (List Int))):=fun s13=>
 bif decide (s13.2.1<(p.length:Int)) then
  Option.bind (
   gd (decide (0<=s13.2.1/\s13.2.1<(p.length:Int))) <|
   loopO (F_impl_numbers_L33 p s13) (s13.1,(0:Int),s13.2.2)
  ) fun s20=>
  gd (inK .i64 (s13.2.1+(1:Int))) <|
  some (.inl (s20.1,(s13.2.1+(1:Int)),s20.2))
 else
  some (.inr s13.1)
noncomputable def F_impl_numbers (p:List (List ZIn)):Option (List (List Int)):=
 gd (decide (0<=(p.length:Int)/\(p.length:Int)<=(p.length:Int)/\(p.length:Int)*((24:Nat):Int)<=140737488355328/\(p.length:Int)<=140737488355328)) <|
 Option.bind (
  loopO (F_impl_numbers_L14 p) ((List.replicate (p.length:Int).toNat ([]:List Int)),(0:Int),(3:Int))
 ) fun s2=>
 some s2
noncomputable def F_slices_Equal_int_int_L6 (s1_:List Int) (s2_:List Int):Int->Option (Int ⊕ (Unit ⊕ Bool)):=fun s5=>
 bif decide (s5<(s1_.length:Int)) then
  gd (decide (0<=s5/\s5<(s1_.length:Int))) <|
  gd (decide (0<=s5/\s5<(s2_.length:Int))) <|
  bif ((s1_.getD s5.toNat default) != (s2_.getD s5.toNat default)) then
   some (.inr (.inr false))
  else
   gd (inK .i64 (s5+(1:Int))) <|
   some (.inl (s5+(1:Int)))
 else
  some (.inr (.inl ()))
noncomputable def F_slices_Equal_int_int (s1_:List Int) (s2_:List Int):Option Bool:=
 bif ((s1_.length:Int) != (s2_.length:Int)) then
  some false
 else
  sumK (
   loopO (F_slices_Equal_int_int_L6 s1_ s2_) (0:Int)
  ) fun s2=>
  some true
noncomputable def F_laws_eqIntS_L6 (a:List Int) (b:List Int):Int->Option (Int ⊕ (Unit ⊕ Bool)):=fun s5=>
 bif decide (s5<(a.length:Int)) then
  gd (decide (0<=s5/\s5<(a.length:Int))) <|
  gd (decide (0<=s5/\s5<(b.length:Int))) <|
  bif ((a.getD s5.toNat default) != (b.getD s5.toNat default)) then
   some (.inr (.inr false))
  else
   gd (inK .i64 (s5+(1:Int))) <|
   some (.inl (s5+(1:Int)))
 else
  some (.inr (.inl ()))
noncomputable def F_laws_eqIntS (a:List Int) (b:List Int):Option Bool:=
 bif ((a.length:Int) != (b.length:Int)) then
  some false
 else
  sumK (
   loopO (F_laws_eqIntS_L6 a b) (0:Int)
  ) fun s2=>
  some true
end Go.Proofs.Ytlmjnhnpahicmaa
