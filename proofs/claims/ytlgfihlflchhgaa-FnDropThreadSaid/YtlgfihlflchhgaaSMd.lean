/-
 Functions over plain values, as the program's code computes; printed by lift.py. No conditions.
-/
import Derived.Test.YtlgfihlflchhgaaSt
import Derived.Test.YtlgfihlflchhgaaBrVd
import Derived.Test.YtlgfihlflchhgaaSrt
namespace Go.Proofs.Ytlgfihlflchhgaa
open Go.RowKit
set_option maxRecDepth 100000
noncomputable def F_impl_newSeq (p:List (List ZIn)):Option ZSq:=
 some (⟨(⟨p,(⟨(0:Int),(0:Int),(0:Int)⟩:Z3b),(⟨(⟨(0:Int),(0:Int),(0:Int)⟩:Z3b),(⟨(0:Int),(0:Int),(0:Int)⟩:Z3b),(⟨(0:Int),(0:Int),(0:Int)⟩:Z3b)⟩:Z33),(⟨(0:Int),(0:Int),(0:Int)⟩:Z3b)⟩:ZVa)⟩:ZSq)
noncomputable def F_impl_values_text_L7 (v:ZVa):((List Int)×Int)->Option (((List Int)×Int) ⊕ (List Int)):=fun s6=>
 bif decide (s6.2<(3:Int)) then
  gd (decide (0<=s6.2/\s6.2<3)) <|
  gd (capOK (s6.1.length+([(⟨(Z33.get v.reg s6.2).x0,(Z33.get v.reg s6.2).x1,(Z33.get v.reg s6.2).x2⟩:Z3b).x0,(⟨(Z33.get v.reg s6.2).x0,(Z33.get v.reg s6.2).x1,(Z33.get v.reg s6.2).x2⟩:Z3b).x1,(⟨(Z33.get v.reg s6.2).x0,(Z33.get v.reg s6.2).x1,(Z33.get v.reg s6.2).x2⟩:Z3b).x2]:List Int).length) 1) <|
  gd (inK .i64 (s6.2+(1:Int))) <|
  some (.inl ((s6.1++([(⟨(Z33.get v.reg s6.2).x0,(Z33.get v.reg s6.2).x1,(Z33.get v.reg s6.2).x2⟩:Z3b).x0,(⟨(Z33.get v.reg s6.2).x0,(Z33.get v.reg s6.2).x1,(Z33.get v.reg s6.2).x2⟩:Z3b).x1,(⟨(Z33.get v.reg s6.2).x0,(Z33.get v.reg s6.2).x1,(Z33.get v.reg s6.2).x2⟩:Z3b).x2]:List Int)),(s6.2+(1:Int))))
 else
  some (.inr s6.1)
noncomputable def F_impl_values_text (v:ZVa):Option ByteArray:=
 gd (capOK (([]:List Int).length+([v.pc.x0,v.pc.x1,v.pc.x2]:List Int).length) 1) <|
 Option.bind (
  loopO (F_impl_values_text_L7 v) ((([]:List Int)++([v.pc.x0,v.pc.x1,v.pc.x2]:List Int)),(0:Int))
 ) fun s2=>
 gd (capOK (s2.length+([v.mem.x0,v.mem.x1,v.mem.x2]:List Int).length) 1) <|
 some (strOfNums (s2++([v.mem.x0,v.mem.x1,v.mem.x2]:List Int)))
noncomputable def F_impl_seq_key (s:ZSq):Option ByteArray:=
 Option.bind (F_impl_values_text s.values) fun v1=>
 some v1
noncomputable def F_impl_values_next (v:ZVa) (t:Int):Option (ZIn×Bool):=
 gd (decide (0<=t/\t<3)) <|
 gd (inK .i64 (Z3b.get v.pc t)) <|
 gd (decide (0<=t/\t<(v.p.length:Int))) <|
 bif decide (((v.p.getD t.toNat default).length:Int)<=(Z3b.get v.pc t)) then
  some ((⟨(0:Int),(0:Int),(0:Int),(0:Int)⟩:ZIn),false)
 else
  gd (decide (0<=(Z3b.get v.pc t)/\(Z3b.get v.pc t)<((v.p.getD t.toNat default).length:Int))) <|
  some ((⟨((v.p.getD t.toNat default).getD (Z3b.get v.pc t).toNat default).Op,((v.p.getD t.toNat default).getD (Z3b.get v.pc t).toNat default).Loc,((v.p.getD t.toNat default).getD (Z3b.get v.pc t).toNat default).Reg,((v.p.getD t.toNat default).getD (Z3b.get v.pc t).toNat default).Val⟩:ZIn),true)
noncomputable def F_impl_values_allDone_L5 (v:ZVa):Int->Option (Int ⊕ (Unit ⊕ Bool)):=fun s4=>
 bif decide (s4<(v.p.length:Int)) then
  Option.bind (F_impl_values_next v s4) fun v7=>
  bif v7.2 then
   some (.inr (.inr false))
  else
   gd (inK .i64 (s4+(1:Int))) <|
   some (.inl (s4+(1:Int)))
 else
  some (.inr (.inl ()))
noncomputable def F_impl_values_allDone (v:ZVa):Option Bool:=
 sumK (
  loopO (F_impl_values_allDone_L5 v) (0:Int)
 ) fun s1=>
 some true
noncomputable def F_impl_seq_done (s:ZSq):Option Bool:=
 Option.bind (F_impl_values_allDone s.values) fun v1=>
 some v1
noncomputable def F_impl_values_outcome_L21 (v:ZVa) (s7:(List Int)×Int):((List Int)×Int)->Option (((List Int)×Int) ⊕ (List Int)):=fun s20=>
 bif decide (s20.2<(3:Int)) then
  gd (decide (0<=s20.2/\s20.2<3)) <|
  gd (inK .i64 (Z3b.get (Z33.get v.reg s7.2) s20.2)) <|
  gd (capOK (s20.1.length+1) 8) <|
  gd (inK .i64 (s20.2+(1:Int))) <|
  some (.inl ((s20.1++[(Z3b.get (Z33.get v.reg s7.2) s20.2)]),(s20.2+(1:Int))))
 else
  some (.inr s20.1)
noncomputable def F_impl_values_outcome_L8 (v:ZVa):((List Int)×Int)->Option (((List Int)×Int) ⊕ (List Int)):=fun s7=>
 bif decide (s7.2<(v.p.length:Int)) then
  Option.bind (
   gd (decide (0<=s7.2/\s7.2<3)) <|
   loopO (F_impl_values_outcome_L21 v s7) (s7.1,(0:Int))
  ) fun s13=>
  gd (inK .i64 (s7.2+(1:Int))) <|
  some (.inl (s13,(s7.2+(1:Int))))
 else
  some (.inr s7.1)
noncomputable def F_impl_values_outcome_L44 (v:ZVa):((List Int)×Int)->Option (((List Int)×Int) ⊕ (List Int)):=fun s43=>
 bif decide (s43.2<(3:Int)) then
  gd (decide (0<=s43.2/\s43.2<3)) <|
  gd (inK .i64 (Z3b.get v.mem s43.2)) <|
  gd (capOK (s43.1.length+1) 8) <|
  gd (inK .i64 (s43.2+(1:Int))) <|
  some (.inl ((s43.1++[(Z3b.get v.mem s43.2)]),(s43.2+(1:Int))))
 else
  some (.inr s43.1)
noncomputable def F_impl_values_outcome (v:ZVa):Option (List Int):=
 Option.bind (
  loopO (F_impl_values_outcome_L8 v) (([]:List Int),(0:Int))
 ) fun s1=>
 Option.bind (
  loopO (F_impl_values_outcome_L44 v) (s1,(0:Int))
 ) fun s37=>
 some s37
noncomputable def F_impl_seq_moves_L8 (s:ZSq):((List Int)×Int)->Option (((List Int)×Int) ⊕ (List Int)):=fun s7=>
 bif decide (s7.2<(s.values.p.length:Int)) then
  Option.bind (
   Option.bind (F_impl_values_next s.values s7.2) fun v14=>
   bif v14.2 then
    gd (capOK (s7.1.length+1) 8) <|
    some (s7.1++[s7.2])
   else
    some s7.1
  ) fun s13=>
  gd (inK .i64 (s7.2+(1:Int))) <|
  some (.inl (s13,(s7.2+(1:Int))))
 else
  some (.inr s7.1)
noncomputable def F_impl_seq_moves (s:ZSq):Option (List Int):=
 Option.bind (
  loopO (F_impl_seq_moves_L8 s) (([]:List Int),(0:Int))
 ) fun s1=>
 some s1
noncomputable def F_impl_values_stored (v:ZVa) (t:Int) (x:ZIn):Option Int:=
 bif (x.Op==(3:Int)) then
  gd (decide (0<=t/\t<3)) <|
  gd (decide (0<=x.Reg/\x.Reg<3)) <|
  some (Z3b.get (Z33.get v.reg t) x.Reg)
 else
  gd (inK .u8 x.Val) <|
  some x.Val
noncomputable def F_impl_Instr_reads (x:ZIn):Option Bool:=
 Option.bind (bif (x.Op==(1:Int)) then
  some true
 else
  some (x.Op==(5:Int))
 ) fun s1=>
 some s1
noncomputable def F_impl_Instr_writes (x:ZIn):Option Bool:=
 Option.bind (bif (x.Op==(2:Int)) then
  some true
 else
  some (x.Op==(3:Int))
 ) fun s1=>
 Option.bind (bif s1 then
  some true
 else
  some (x.Op==(5:Int))
 ) fun s3=>
 some s3
noncomputable def F_impl_seq_after (s:ZSq) (t:Int):Option ZSq:=
 Option.bind (F_impl_values_next s.values t) fun v1=>
 gd (decide (0<=t/\t<3)) <|
 gd (inK .u8 ((Z3b.get s.values.pc t)+(1:Int))) <|
 Option.bind (F_impl_values_stored s.values t (⟨v1.1.Op,v1.1.Loc,v1.1.Reg,v1.1.Val⟩:ZIn)) fun v4=>
 Option.bind (
  Option.bind (F_impl_Instr_reads (⟨v1.1.Op,v1.1.Loc,v1.1.Reg,v1.1.Val⟩:ZIn)) fun v6=>
  bif v6 then
   gd (decide (0<=v1.1.Loc/\v1.1.Loc<3)) <|
   gd (decide (0<=v1.1.Reg/\v1.1.Reg<3)) <|
   some (((Z33.set s.values.reg t (Z3b.set (Z33.get s.values.reg t) v1.1.Reg (Z3b.get s.values.mem v1.1.Loc))).x0).x0,((Z33.set s.values.reg t (Z3b.set (Z33.get s.values.reg t) v1.1.Reg (Z3b.get s.values.mem v1.1.Loc))).x0).x1,((Z33.set s.values.reg t (Z3b.set (Z33.get s.values.reg t) v1.1.Reg (Z3b.get s.values.mem v1.1.Loc))).x0).x2,((Z33.set s.values.reg t (Z3b.set (Z33.get s.values.reg t) v1.1.Reg (Z3b.get s.values.mem v1.1.Loc))).x1).x0,((Z33.set s.values.reg t (Z3b.set (Z33.get s.values.reg t) v1.1.Reg (Z3b.get s.values.mem v1.1.Loc))).x1).x1,((Z33.set s.values.reg t (Z3b.set (Z33.get s.values.reg t) v1.1.Reg (Z3b.get s.values.mem v1.1.Loc))).x1).x2,((Z33.set s.values.reg t (Z3b.set (Z33.get s.values.reg t) v1.1.Reg (Z3b.get s.values.mem v1.1.Loc))).x2).x0,((Z33.set s.values.reg t (Z3b.set (Z33.get s.values.reg t) v1.1.Reg (Z3b.get s.values.mem v1.1.Loc))).x2).x1,((Z33.set s.values.reg t (Z3b.set (Z33.get s.values.reg t) v1.1.Reg (Z3b.get s.values.mem v1.1.Loc))).x2).x2)
  else
   some (s.values.reg.x0.x0,s.values.reg.x0.x1,s.values.reg.x0.x2,s.values.reg.x1.x0,s.values.reg.x1.x1,s.values.reg.x1.x2,s.values.reg.x2.x0,s.values.reg.x2.x1,s.values.reg.x2.x2)
 ) fun s5=>
 Option.bind (
  Option.bind (F_impl_Instr_writes (⟨v1.1.Op,v1.1.Loc,v1.1.Reg,v1.1.Val⟩:ZIn)) fun v11=>
  bif v11 then
   gd (decide (0<=v1.1.Loc/\v1.1.Loc<3)) <|
   some ((Z3b.set s.values.mem v1.1.Loc v4).x0,(Z3b.set s.values.mem v1.1.Loc v4).x1,(Z3b.set s.values.mem v1.1.Loc v4).x2)
  else
   some (s.values.mem.x0,s.values.mem.x1,s.values.mem.x2)
 ) fun s10=>
 some (⟨(⟨s.values.p,(⟨(Z3b.set s.values.pc t ((Z3b.get s.values.pc t)+(1:Int))).x0,(Z3b.set s.values.pc t ((Z3b.get s.values.pc t)+(1:Int))).x1,(Z3b.set s.values.pc t ((Z3b.get s.values.pc t)+(1:Int))).x2⟩:Z3b),(⟨(⟨s5.1,s5.2.1,s5.2.2.1⟩:Z3b),(⟨s5.2.2.2.1,s5.2.2.2.2.1,s5.2.2.2.2.2.1⟩:Z3b),(⟨s5.2.2.2.2.2.2.1,s5.2.2.2.2.2.2.2.1,s5.2.2.2.2.2.2.2.2⟩:Z3b)⟩:Z33),(⟨s10.1,s10.2.1,s10.2.2⟩:Z3b)⟩:ZVa)⟩:ZSq)
noncomputable def F_slices_Equal_int_int_L6 (s1_:List Int) (s2_:List Int):Int->Option (Int ⊕ (Unit ⊕ Bool)):=fun s5=>
 bif decide (s5<(s1_.length:Int)) then
  gd (decide (0<=s5/\s5<(s1_.length:Int))) <|
  gd (decide (0<=s5/\s5<(s2_.length:Int))) <|
  bif ((s1_.getD s5.toNat default) != (s2_.getD s5.toNat default)) then
   some (.inr (.inr false))
  else
   gd (inK .i64 (s5+(1:Int))) <|
   some (.inl (s5+(1:Int)))
 else
  some (.inr (.inl ()))
noncomputable def F_slices_Equal_int_int (s1_:List Int) (s2_:List Int):Option Bool:=
 bif ((s1_.length:Int) != (s2_.length:Int)) then
  some false
 else
  sumK (
   loopO (F_slices_Equal_int_int_L6 s1_ s2_) (0:Int)
  ) fun s2=>
  some true
noncomputable def F_impl_sortedOutcomes_1 (a:List Int) (b:List Int):Option Bool:=
 Option.bind (F_slices_Equal_int_int a b) fun v1=>
 some v1
noncomputable def F_slices_CompactFunc_int_int__impl_sortedOutcomes_1_L26 (s8:(List (List Int))×Int):((List (List Int))×Int×Int)->Option (((List (List Int))×Int×Int) ⊕ ((List (List Int))×Int)):=fun s25=>
 bif decide (s25.2.1<((((s8.1.length:Int).toNat-s8.2.toNat):Nat):Int)) then
  Option.bind (
   gd (decide ((0<=s25.2.1/\s25.2.1<((((s8.1.length:Int).toNat-s8.2.toNat):Nat):Int))/\((0+s8.2.toNat)+s25.2.1.toNat)<s25.1.length)) <|
   gd (inK .i64 (s25.2.1-(1:Int))) <|
   gd (decide ((0<=(s25.2.1-(1:Int))/\(s25.2.1-(1:Int))<((((s8.1.length:Int).toNat-s8.2.toNat):Nat):Int))/\((0+s8.2.toNat)+(s25.2.1-(1:Int)).toNat)<s25.1.length)) <|
   Option.bind (F_impl_sortedOutcomes_1 (s25.1.getD ((0+s8.2.toNat)+s25.2.1.toNat) default) (s25.1.getD ((0+s8.2.toNat)+(s25.2.1-(1:Int)).toNat) default)) fun v33=>
   bif !v33 then
    gd (decide (0<=s25.2.2/\s25.2.2<(s25.1.length:Int))) <|
    gd (inK .i64 (s25.2.2+(1:Int))) <|
    some ((s25.1.set s25.2.2.toNat (s25.1.getD ((0+s8.2.toNat)+s25.2.1.toNat) default)),(s25.2.2+(1:Int)))
   else
    some (s25.1,s25.2.2)
  ) fun s29=>
  gd (inK .i64 (s25.2.1+(1:Int))) <|
  some (.inl (s29.1,(s25.2.1+(1:Int)),s29.2))
 else
  some (.inr (s25.1,s25.2.2))
noncomputable def F_slices_CompactFunc_int_int__impl_sortedOutcomes_1_L9:((List (List Int))×Int)->Option (((List (List Int))×Int) ⊕ ((List (List Int)) ⊕ (List (List Int)))):=fun s8=>
 bif decide (s8.2<(s8.1.length:Int)) then
  sumK (
   gd (decide (0<=s8.2/\s8.2<(s8.1.length:Int))) <|
   gd (inK .i64 (s8.2-(1:Int))) <|
   gd (decide (0<=(s8.2-(1:Int))/\(s8.2-(1:Int))<(s8.1.length:Int))) <|
   Option.bind (F_impl_sortedOutcomes_1 (s8.1.getD s8.2.toNat default) (s8.1.getD ((s8.2-(1:Int)).toNat) default)) fun v18=>
   bif v18 then
    gd (decide (0<=s8.2/\s8.2<=(s8.1.length:Int)/\(s8.1.length:Int)<=(s8.1.length:Int))) <|
    Option.bind (
     loopO (F_slices_CompactFunc_int_int__impl_sortedOutcomes_1_L26 s8) (s8.1,(1:Int),s8.2)
    ) fun s21=>
    gd (decide (0<=s21.2/\s21.2<=(s21.1.length:Int)/\(s21.1.length:Int)<=(s21.1.length:Int))) <|
    gd (decide (0<=(0:Int)/\(0:Int)<=s21.2/\s21.2<=(s21.1.length:Int))) <|
    some (.inr (.inr (.inr (((cpy s21.1 (0+s21.2.toNat) (List.replicate ((s21.1.length:Int).toNat-s21.2.toNat) (default:List Int)) ((s21.1.length:Int).toNat-s21.2.toNat)).drop (0:Int).toNat).take (s21.2.toNat-(0:Int).toNat)))))
   else
    some (.inl ())
  ) fun s14=>
  gd (inK .i64 (s8.2+(1:Int))) <|
  some (.inl (s8.1,(s8.2+(1:Int))))
 else
  some (.inr (.inl s8.1))
noncomputable def F_slices_CompactFunc_int_int__impl_sortedOutcomes_1 (s:List (List Int)):Option (List (List Int)):=
 bif decide ((s.length:Int)<(2:Int)) then
  some s
 else
  sumK (
   loopO F_slices_CompactFunc_int_int__impl_sortedOutcomes_1_L9 (s,(1:Int))
  ) fun s2=>
  some s2
noncomputable def F_impl_sortedOutcomes (list:List (List Int)):Option (List (List Int)):=
 Option.bind (F_slices_SortFunc list) fun v1=>
 Option.bind (F_slices_CompactFunc_int_int__impl_sortedOutcomes_1 v1) fun v2=>
 some v2
noncomputable def F_impl_reach__impl_seq_L32 (s9:(List (ByteArray×Bool))×(List (List Int))×(List ZSq)) (s19:(List (List Int))) (v27:(List Int)):((List (ByteArray×Bool))×(List ZSq)×Int)->Option (((List (ByteArray×Bool))×(List ZSq)×Int) ⊕ (((List (ByteArray×Bool))×(List (List Int))×(List ZSq)) ⊕ ((List (ByteArray×Bool))×(List (List Int))))):=fun s31=>
 bif decide (s31.2.2<(v27.length:Int)) then
  Option.bind (
   gd (decide (0<=s31.2.2/\s31.2.2<(v27.length:Int))) <|
   Option.bind (F_impl_seq_after (s9.2.2.getD (((s9.2.2.length:Int)-(1:Int)).toNat) default) (v27.getD s31.2.2.toNat default)) fun v37=>
   Option.bind (F_impl_seq_key v37) fun v38=>
   bif !((mget s31.1 v38).getD false) then
    gd (capOK (s31.2.1.length+1) 16) <|
    some ((mput s31.1 v38 true),(s31.2.1++[v37]))
   else
    some (s31.1,s31.2.1)
  ) fun s35=>
  gd (inK .i64 (s31.2.2+(1:Int))) <|
  some (.inl (s35.1,s35.2,(s31.2.2+(1:Int))))
 else
  some (.inr (.inl (s31.1,s19,s31.2.1)))
noncomputable def F_impl_reach__impl_seq_L10:((List (ByteArray×Bool))×(List (List Int))×(List ZSq))->Option (((List (ByteArray×Bool))×(List (List Int))×(List ZSq)) ⊕ ((List (ByteArray×Bool))×(List (List Int)))):=fun s9=>
 bif decide ((0:Int)<(s9.2.2.length:Int)) then
  gd (inK .i64 ((s9.2.2.length:Int)-(1:Int))) <|
  gd (decide (0<=((s9.2.2.length:Int)-(1:Int))/\((s9.2.2.length:Int)-(1:Int))<(s9.2.2.length:Int))) <|
  gd (decide (0<=(0:Int)/\(0:Int)<=((s9.2.2.length:Int)-(1:Int))/\((s9.2.2.length:Int)-(1:Int))<=(s9.2.2.length:Int))) <|
  Option.bind (
   Option.bind (F_impl_seq_done (s9.2.2.getD (((s9.2.2.length:Int)-(1:Int)).toNat) default)) fun v20=>
   bif v20 then
    Option.bind (F_impl_values_outcome ((s9.2.2.getD (((s9.2.2.length:Int)-(1:Int)).toNat) default).values)) fun v22=>
    gd (capOK (s9.2.1.length+1) 24) <|
    some (s9.2.1++[v22])
   else
    some s9.2.1
  ) fun s19=>
  Option.bind (F_impl_seq_moves (s9.2.2.getD (((s9.2.2.length:Int)-(1:Int)).toNat) default)) fun v27=>
  loopO (F_impl_reach__impl_seq_L32 s9 s19 v27) (s9.1,((s9.2.2.drop (0:Int).toNat).take (((s9.2.2.length:Int)-(1:Int)).toNat-(0:Int).toNat)),(0:Int))
 else
  some (.inr (s9.1,s9.2.1))
noncomputable def F_impl_reach__impl_seq (start:ZSq):Option ((List (List Int))×Int):=
 Option.bind (F_impl_seq_key start) fun v1=>
 Option.bind (
  loopO F_impl_reach__impl_seq_L10 ((mput ([]:List (ByteArray×Bool)) v1 true),([]:List (List Int)),([start]:List ZSq))
 ) fun s2=>
 Option.bind (F_impl_sortedOutcomes s2.2) fun v46=>
 some (v46,(s2.1.length:Int))
noncomputable def F_impl_RunSeq (p:List (List ZIn)):Option (List (List Int)):=
 Option.bind (F_impl_ProgramValid p) fun v1=>
 bif !v1 then
  some ([]:List (List Int))
 else
  Option.bind (F_impl_newSeq p) fun v3=>
  Option.bind (F_impl_reach__impl_seq v3) fun v4=>
  some v4.1
end Go.Proofs.Ytlgfihlflchhgaa
