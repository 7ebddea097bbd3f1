/-
 Functions over plain values, as the program's code computes; printed by lift.py. No conditions.
-/
import Derived.Test.YtlgfihlflchhgaaSt
import Derived.Test.YtlgfihlflchhgaaBrVd
import Derived.Test.YtlgfihlflchhgaaSQd
namespace Go.Proofs.Ytlgfihlflchhgaa
open Go.RowKit
set_option maxRecDepth 100000
noncomputable def F_spec_l1Tests:Option (List ByteArray):=
 some ([(⟨#[120,61,49,59,97,61,121,124,121,61,49,59,97,61,120]⟩:ByteArray),(⟨#[120,61,49,59,102,101,110,99,101,59,97,61,121,124,121,61,49,59,102,101,110,99,101,59,97,61,120]⟩:ByteArray),(⟨#[120,61,49,59,121,61,49,124,97,61,121,59,98,61,120]⟩:ByteArray),(⟨#[120,61,49,59,121,61,49,124,97,61,121,59,102,101,110,99,101,59,98,61,120]⟩:ByteArray),(⟨#[120,61,49,59,102,101,110,99,101,59,121,61,49,124,97,61,121,59,98,61,120]⟩:ByteArray),(⟨#[97,61,120,59,121,61,49,124,97,61,121,59,120,61,49]⟩:ByteArray),(⟨#[97,61,120,59,121,61,97,124,97,61,121,59,120,61,97]⟩:ByteArray),(⟨#[120,61,49,124,120,61,50,124,97,61,120,59,98,61,120]⟩:ByteArray),(⟨#[120,61,49,124,121,61,49,124,97,61,120,59,98,61,121,124,97,61,121,59,98,61,120]⟩:ByteArray),(⟨#[120,61,49,124,97,61,120,59,121,61,49,124,97,61,121,59,98,61,120]⟩:ByteArray),(⟨#[120,61,49,124,121,61,49,124,97,61,120,59,98,61,121]⟩:ByteArray),(⟨#[97,61,120,58,49,124,97,61,120,58,50,124,120,61,51]⟩:ByteArray),(⟨#[120,61,49,59,97,61,120,59,98,61,121,124,121,61,49,59,97,61,121,59,98,61,120]⟩:ByteArray),(⟨#[120,61,50,59,121,61,49,124,121,61,50,59,120,61,49]⟩:ByteArray),(⟨#[97,61,120,58,49,59,98,61,121,124,97,61,121,58,49,59,98,61,120]⟩:ByteArray),(⟨#[120,61,49,59,120,61,50,124,97,61,120,59,98,61,120]⟩:ByteArray),(⟨#[120,61,49,59,121,61,49,59,97,61,122,124,122,61,49,59,97,61,121,59,98,61,120]⟩:ByteArray),(⟨#[97,61,120,58,49,124,98,61,120,58,49]⟩:ByteArray),(⟨#[102,101,110,99,101]⟩:ByteArray),(⟨#[]⟩:ByteArray),(⟨#[120,61,49,59,97,61,121,124,121,61,49,59,102,101,110,99,101,59,97,61,120]⟩:ByteArray)]:List ByteArray)
noncomputable def F_spec_l17Cut_L6 (s:ByteArray) (c:Int):((List ByteArray)×Int×Int)->Option (((List ByteArray)×Int×Int) ⊕ (List ByteArray)):=fun s5=>
 bif decide (s5.2.1<=(s.size:Int)) then
  Option.bind (
   Option.bind (bif (s5.2.1==(s.size:Int)) then
    some true
   else
    gd (decide (0<=s5.2.1/\s5.2.1<(s.size:Int))) <|
    some (((s.data.getD s5.2.1.toNat 0).toNat:Int)==c)
   ) fun s10=>
   bif s10 then
    gd (decide (0<=s5.2.2/\s5.2.2<=s5.2.1/\s5.2.1<=(s.size:Int))) <|
    gd (capOK (s5.1.length+1) 16) <|
    gd (inK .i64 (s5.2.1+(1:Int))) <|
    some ((s5.1++[(s.extract s5.2.2.toNat s5.2.1.toNat)]),(s5.2.1+(1:Int)))
   else
    some (s5.1,s5.2.2)
  ) fun s9=>
  gd (inK .i64 (s5.2.1+(1:Int))) <|
  some (.inl (s9.1,(s5.2.1+(1:Int)),s9.2))
 else
  some (.inr s5.1)
noncomputable def F_spec_l17Cut (s:ByteArray) (c:Int):Option (List ByteArray):=
 Option.bind (
  loopO (F_spec_l17Cut_L6 s c) (([]:List ByteArray),(0:Int),(0:Int))
 ) fun s1=>
 some s1
noncomputable def F_spec_l1Place (s:ByteArray) (at_:Int) (from_:Int) (most:Int):Option Int:=
 Option.bind (bif decide ((s.size:Int)<=at_) then
  some true
 else
  gd (decide (0<=at_/\at_<(s.size:Int))) <|
  some (decide (((s.data.getD at_.toNat 0).toNat:Int)<from_))
 ) fun s1=>
 Option.bind (bif s1 then
  some true
 else
  gd (decide (0<=at_/\at_<(s.size:Int))) <|
  gd (inK .u8 (((s.data.getD at_.toNat 0).toNat:Int)-from_)) <|
  gd (inK .i64 (((s.data.getD at_.toNat 0).toNat:Int)-from_)) <|
  some (decide (most<(((s.data.getD at_.toNat 0).toNat:Int)-from_)))
 ) fun s4=>
 bif s4 then
  some (-1:Int)
 else
  gd (decide (0<=at_/\at_<(s.size:Int))) <|
  gd (inK .u8 (((s.data.getD at_.toNat 0).toNat:Int)-from_)) <|
  gd (inK .i64 (((s.data.getD at_.toNat 0).toNat:Int)-from_)) <|
  some (((s.data.getD at_.toNat 0).toNat:Int)-from_)
noncomputable def F_spec_l1Parse (s:ByteArray):Option ZIn:=
 bif decide (s=(⟨#[102,101,110,99,101]⟩:ByteArray)) then
  some (⟨(4:Int),(0:Int),(0:Int),(0:Int)⟩:ZIn)
 else
  Option.bind (F_spec_l1Place s (0:Int) (97:Int) (2:Int)) fun v2=>
  Option.bind (F_spec_l1Place s (0:Int) (120:Int) (2:Int)) fun v3=>
  Option.bind (bif decide ((0:Int)<=v2) then
   some ((s.size:Int)==(3:Int))
  else
   some false
  ) fun s4=>
  bif s4 then
   Option.bind (F_spec_l1Place s (2:Int) (120:Int) (2:Int)) fun v7=>
   some (⟨(1:Int),v7,v2,(0:Int)⟩:ZIn)
  else
   Option.bind (bif decide ((0:Int)<=v2) then
    some ((s.size:Int)==(5:Int))
   else
    some false
   ) fun s8=>
   bif s8 then
    Option.bind (F_spec_l1Place s (2:Int) (120:Int) (2:Int)) fun v11=>
    Option.bind (F_spec_l1Place s (4:Int) (48:Int) (3:Int)) fun v12=>
    some (⟨(5:Int),v11,v2,v12⟩:ZIn)
   else
    Option.bind (bif decide ((0:Int)<=v3) then
     Option.bind (F_spec_l1Place s (2:Int) (97:Int) (2:Int)) fun v15=>
     some (decide ((0:Int)<=v15))
    else
     some false
    ) fun s13=>
    bif s13 then
     Option.bind (F_spec_l1Place s (2:Int) (97:Int) (2:Int)) fun v17=>
     some (⟨(3:Int),v3,v17,(0:Int)⟩:ZIn)
    else
     Option.bind (F_spec_l1Place s (2:Int) (48:Int) (3:Int)) fun v18=>
     some (⟨(2:Int),v3,(0:Int),v18⟩:ZIn)
noncomputable def F_spec_l1Letter (from_:Int) (n:Int):Option ByteArray:=
 gd (inK .u8 n) <|
 gd (inK .u8 (from_+n)) <|
 some (strOfNums ([(from_+n)]:List Int))
noncomputable def F_spec_l17Dec_L10:(ByteArray×Int)->Option ((ByteArray×Int) ⊕ (ByteArray×Int)):=fun s9=>
 bif decide ((9:Int)<s9.2) then
  gd (decide ((10:Int)≠0)) <|
  gd (inK .i64 ((48:Int)+(s9.2.tmod (10:Int)))) <|
  gd (inK .u8 ((48:Int)+(s9.2.tmod (10:Int)))) <|
  gd (decide ((strOfNums ([((48:Int)+(s9.2.tmod (10:Int)))]:List Int)).size+s9.1.size<=9223372036854775807)) <|
  gd (inK .i64 (s9.2.tdiv (10:Int))) <|
  some (.inl (((strOfNums ([((48:Int)+(s9.2.tmod (10:Int)))]:List Int))++s9.1),(s9.2.tdiv (10:Int))))
 else
  some (.inr (s9.1,s9.2))
noncomputable def F_spec_l17Dec_B (rcf:Int->Option ByteArray) (n:Int):Option ByteArray:=
 bif decide (n<(-9223372036854775807:Int)) then
  some (⟨#[45,57,50,50,51,51,55,50,48,51,54,56,53,52,55,55,53,56,48,56]⟩:ByteArray)
 else
  bif decide (n<(0:Int)) then
   gd (inK .i64 (0-n)) <|
   Option.bind (rcf (0-n)) fun v4=>
   gd (decide ((⟨#[45]⟩:ByteArray).size+v4.size<=9223372036854775807)) <|
   some ((⟨#[45]⟩:ByteArray)++v4)
  else
   Option.bind (
    loopO F_spec_l17Dec_L10 ((⟨#[]⟩:ByteArray),n)
   ) fun s6=>
   gd (inK .i64 ((48:Int)+s6.2)) <|
   gd (inK .u8 ((48:Int)+s6.2)) <|
   gd (decide ((strOfNums ([((48:Int)+s6.2)]:List Int)).size+s6.1.size<=9223372036854775807)) <|
   some ((strOfNums ([((48:Int)+s6.2)]:List Int))++s6.1)
noncomputable def F_spec_l17Dec_N:Nat->Int->Option ByteArray
 | 0=>fun _=>none
 | n+1=>F_spec_l17Dec_B (F_spec_l17Dec_N n)
noncomputable def F_spec_l17Dec (n:Int):Option ByteArray:=fixC fun nf=>F_spec_l17Dec_N nf n
noncomputable def F_spec_l1Text (x:ZIn):Option ByteArray:=
 Option.bind (F_spec_l1Letter (120:Int) x.Loc) fun v1=>
 Option.bind (F_spec_l1Letter (97:Int) x.Reg) fun v2=>
 bif (x.Op==(1:Int)) then
  gd (decide (v2.size+(⟨#[61]⟩:ByteArray).size<=9223372036854775807)) <|
  gd (decide ((v2++(⟨#[61]⟩:ByteArray)).size+v1.size<=9223372036854775807)) <|
  some ((v2++(⟨#[61]⟩:ByteArray))++v1)
 else
  bif (x.Op==(2:Int)) then
   gd (decide (v1.size+(⟨#[61]⟩:ByteArray).size<=9223372036854775807)) <|
   Option.bind (F_spec_l17Dec x.Val) fun v8=>
   gd (decide ((v1++(⟨#[61]⟩:ByteArray)).size+v8.size<=9223372036854775807)) <|
   some ((v1++(⟨#[61]⟩:ByteArray))++v8)
  else
   bif (x.Op==(3:Int)) then
    gd (decide (v1.size+(⟨#[61]⟩:ByteArray).size<=9223372036854775807)) <|
    gd (decide ((v1++(⟨#[61]⟩:ByteArray)).size+v2.size<=9223372036854775807)) <|
    some ((v1++(⟨#[61]⟩:ByteArray))++v2)
   else
    bif (x.Op==(5:Int)) then
     gd (decide (v2.size+(⟨#[61]⟩:ByteArray).size<=9223372036854775807)) <|
     gd (decide ((v2++(⟨#[61]⟩:ByteArray)).size+v1.size<=9223372036854775807)) <|
     gd (decide (((v2++(⟨#[61]⟩:ByteArray))++v1).size+(⟨#[58]⟩:ByteArray).size<=9223372036854775807)) <|
     Option.bind (F_spec_l17Dec x.Val) fun v17=>
     gd (decide ((((v2++(⟨#[61]⟩:ByteArray))++v1)++(⟨#[58]⟩:ByteArray)).size+v17.size<=9223372036854775807)) <|
     some ((((v2++(⟨#[61]⟩:ByteArray))++v1)++(⟨#[58]⟩:ByteArray))++v17)
    else
     some (⟨#[102,101,110,99,101]⟩:ByteArray)
noncomputable def F_spec_l1Program_L14 (p:List (List ZIn)) (s4:Int×ByteArray):(Int×ByteArray)->Option ((Int×ByteArray) ⊕ ByteArray):=fun s13=>
 gd (decide (0<=s4.1/\s4.1<(p.length:Int))) <|
 bif decide (s13.1<((p.getD s4.1.toNat default).length:Int)) then
  Option.bind (
   bif decide ((0:Int)<s13.1) then
    gd (decide (s13.2.size+(⟨#[59]⟩:ByteArray).size<=9223372036854775807)) <|
    some (s13.2++(⟨#[59]⟩:ByteArray))
   else
    some s13.2
  ) fun s17=>
  gd (decide (0<=s13.1/\s13.1<((p.getD s4.1.toNat default).length:Int))) <|
  Option.bind (F_spec_l1Text ((p.getD s4.1.toNat default).getD s13.1.toNat default)) fun v21=>
  gd (decide (s17.size+v21.size<=9223372036854775807)) <|
  gd (inK .i64 (s13.1+(1:Int))) <|
  some (.inl ((s13.1+(1:Int)),(s17++v21)))
 else
  some (.inr s13.2)
noncomputable def F_spec_l1Program_L5 (p:List (List ZIn)):(Int×ByteArray)->Option ((Int×ByteArray) ⊕ ByteArray):=fun s4=>
 bif decide (s4.1<(p.length:Int)) then
  Option.bind (
   Option.bind (
    bif decide ((0:Int)<s4.1) then
     gd (decide (s4.2.size+(⟨#[124]⟩:ByteArray).size<=9223372036854775807)) <|
     some (s4.2++(⟨#[124]⟩:ByteArray))
    else
     some s4.2
   ) fun s8=>
   loopO (F_spec_l1Program_L14 p s4) ((0:Int),s8)
  ) fun s7=>
  gd (inK .i64 (s4.1+(1:Int))) <|
  some (.inl ((s4.1+(1:Int)),s7))
 else
  some (.inr s4.2)
noncomputable def F_spec_l1Program (p:List (List ZIn)):Option ByteArray:=
 Option.bind (
  loopO (F_spec_l1Program_L5 p) ((0:Int),(⟨#[]⟩:ByteArray))
 ) fun s1=>
 some s1
noncomputable def F_spec_ParseProgram_L20 (v1:(List ByteArray)) (s6:(List (List ZIn))×Int) (v14:(List ByteArray)):((List ZIn)×Int)->Option (((List ZIn)×Int) ⊕ (List ZIn)):=fun s19=>
 Option.bind (bif decide (s19.2<(v14.length:Int)) then
  some (decide (s19.2<=(7:Int)))
 else
  some false
 ) fun s22=>
 Option.bind (bif s22 then
  some (!decide ((v1.getD s6.2.toNat default)=(⟨#[]⟩:ByteArray)))
 else
  some false
 ) fun s24=>
 bif s24 then
  gd (decide (0<=s19.2/\s19.2<(v14.length:Int))) <|
  Option.bind (F_spec_l1Parse (v14.getD s19.2.toNat default)) fun v28=>
  gd (capOK (s19.1.length+1) 32) <|
  gd (inK .i64 (s19.2+(1:Int))) <|
  some (.inl ((s19.1++[v28]),(s19.2+(1:Int))))
 else
  some (.inr s19.1)
noncomputable def F_spec_ParseProgram_L7 (v1:(List ByteArray)):((List (List ZIn))×Int)->Option (((List (List ZIn))×Int) ⊕ (List (List ZIn))):=fun s6=>
 Option.bind (bif decide (s6.2<(v1.length:Int)) then
  some (decide (s6.2<=(3:Int)))
 else
  some false
 ) fun s9=>
 bif s9 then
  Option.bind (
   gd (decide (0<=s6.2/\s6.2<(v1.length:Int))) <|
   Option.bind (F_spec_l17Cut (v1.getD s6.2.toNat default) (59:Int)) fun v14=>
   Option.bind (
    loopO (F_spec_ParseProgram_L20 v1 s6 v14) (([]:List ZIn),(0:Int))
   ) fun s15=>
   gd (capOK (s6.1.length+1) 24) <|
   some (s6.1++[s15])
  ) fun s12=>
  gd (inK .i64 (s6.2+(1:Int))) <|
  some (.inl (s12,(s6.2+(1:Int))))
 else
  some (.inr s6.1)
noncomputable def F_spec_ParseProgram (text:ByteArray):Option ((List (List ZIn))×Bool):=
 Option.bind (F_spec_l17Cut text (124:Int)) fun v1=>
 Option.bind (
  loopO (F_spec_ParseProgram_L7 v1) (([]:List (List ZIn)),(0:Int))
 ) fun s2=>
 Option.bind (F_spec_ProgramValid s2) fun v36=>
 Option.bind (bif !v36 then
  some true
 else
  Option.bind (F_spec_l1Program s2) fun v39=>
  some (!decide (v39=text))
 ) fun s37=>
 bif s37 then
  some (([]:List (List ZIn)),false)
 else
  some (s2,true)
noncomputable def F_spec_l1Instr (r_:Xspec_l17Rd):Option (Xspec_l17Rd×ZIn):=
 Option.bind (F_spec_l17Rd_pick (⟨r_.b,r_.p⟩:Xspec_l17Rd) (2:Int)) fun v1=>
 Option.bind (F_spec_l17Rd_pick (⟨v1.1.b,v1.1.p⟩:Xspec_l17Rd) (7:Int)) fun v2=>
 bif (v2.2==(0:Int)) then
  some ((⟨v2.1.b,v2.1.p⟩:Xspec_l17Rd),(⟨(4:Int),(0:Int),(0:Int),(0:Int)⟩:ZIn))
 else
  bif (v2.2==(1:Int)) then
   Option.bind (F_spec_l17Rd_pick (⟨v2.1.b,v2.1.p⟩:Xspec_l17Rd) (2:Int)) fun v5=>
   some ((⟨v5.1.b,v5.1.p⟩:Xspec_l17Rd),(⟨(3:Int),v1.2,v5.2,(0:Int)⟩:ZIn))
  else
   bif (v2.2==(2:Int)) then
    Option.bind (F_spec_l17Rd_pick (⟨v2.1.b,v2.1.p⟩:Xspec_l17Rd) (2:Int)) fun v7=>
    Option.bind (F_spec_l17Rd_pick (⟨v7.1.b,v7.1.p⟩:Xspec_l17Rd) (3:Int)) fun v8=>
    gd (inK .i64 ((1:Int)+v8.2)) <|
    some ((⟨v8.1.b,v8.1.p⟩:Xspec_l17Rd),(⟨(5:Int),v1.2,v7.2,((1:Int)+v8.2)⟩:ZIn))
   else
    Option.bind (
     bif (v2.2==(3:Int)) then
      some (v2.2==(3:Int))
     else
      some (v2.2==(4:Int))
    ) fun s10=>
    bif s10 then
     Option.bind (F_spec_l17Rd_pick (⟨v2.1.b,v2.1.p⟩:Xspec_l17Rd) (3:Int)) fun v13=>
     gd (inK .i64 ((1:Int)+v13.2)) <|
     some ((⟨v13.1.b,v13.1.p⟩:Xspec_l17Rd),(⟨(2:Int),v1.2,(0:Int),((1:Int)+v13.2)⟩:ZIn))
    else
     Option.bind (F_spec_l17Rd_pick (⟨v2.1.b,v2.1.p⟩:Xspec_l17Rd) (2:Int)) fun v15=>
     some ((⟨v15.1.b,v15.1.p⟩:Xspec_l17Rd),(⟨(1:Int),v1.2,v15.2,(0:Int)⟩:ZIn))
noncomputable def F_spec_l1Draw_L25:((List Int)×Int×(List ZIn)×Int)->Option (((List Int)×Int×(List ZIn)×Int) ⊕ ((List Int)×Int×(List ZIn))):=fun s24=>
 bif decide ((0:Int)<s24.2.2.2) then
  Option.bind (F_spec_l1Instr (⟨s24.1,s24.2.1⟩:Xspec_l17Rd)) fun v28=>
  gd (capOK (s24.2.2.1.length+1) 32) <|
  gd (inK .i64 (s24.2.2.2-(1:Int))) <|
  some (.inl (v28.1.b,v28.1.p,(s24.2.2.1++[v28.2]),(s24.2.2.2-(1:Int))))
 else
  some (.inr (s24.1,s24.2.1,s24.2.2.1))
noncomputable def F_spec_l1Draw_L15:((List Int)×Int×(List (List ZIn))×Int)->Option (((List Int)×Int×(List (List ZIn))×Int) ⊕ ((List Int)×Int×(List (List ZIn)))):=fun s14=>
 bif decide ((0:Int)<s14.2.2.2) then
  Option.bind (
   Option.bind (
    Option.bind (F_spec_l17Rd_num (⟨s14.1,s14.2.1⟩:Xspec_l17Rd) ([(2:Int),(1:Int),(3:Int),(2:Int),(0:Int)]:List Int)) fun v20=>
    loopO F_spec_l1Draw_L25 (v20.1.b,v20.1.p,([]:List ZIn),v20.2)
   ) fun s19=>
   gd (capOK (s14.2.2.1.length+1) 24) <|
   some (s19.1,s19.2.1,(s14.2.2.1++[s19.2.2]))
  ) fun s18=>
  gd (inK .i64 (s14.2.2.2-(1:Int))) <|
  some (.inl (s18.1,s18.2.1,s18.2.2,(s14.2.2.2-(1:Int))))
 else
  some (.inr (s14.1,s14.2.1,s14.2.2.1))
noncomputable def F_spec_l1Draw (r_:Xspec_l17Rd):Option (Xspec_l17Rd×(List (List ZIn))):=
 Option.bind (F_spec_l1Tests ) fun v1=>
 sumK (
  Option.bind (F_spec_l17Rd_pick (⟨r_.b,r_.p⟩:Xspec_l17Rd) (3:Int)) fun v3=>
  bif decide ((0:Int)<v3.2) then
   Option.bind (F_spec_l17Rd_pick (⟨v3.1.b,v3.1.p⟩:Xspec_l17Rd) (v1.length:Int)) fun v5=>
   gd (decide (0<=v5.2/\v5.2<(v1.length:Int))) <|
   Option.bind (F_spec_ParseProgram (v1.getD v5.2.toNat default)) fun v7=>
   bif v7.2 then
    some (.inr ((⟨v5.1.b,v5.1.p⟩:Xspec_l17Rd),v7.1))
   else
    some (.inl (v5.1.b,v5.1.p))
  else
   some (.inl (v3.1.b,v3.1.p))
 ) fun s2=>
 Option.bind (
  Option.bind (F_spec_l17Rd_num (⟨s2.1,s2.2⟩:Xspec_l17Rd) ([(2:Int),(3:Int),(1:Int)]:List Int)) fun v10=>
  loopO F_spec_l1Draw_L15 (v10.1.b,v10.1.p,([]:List (List ZIn)),v10.2)
 ) fun s9=>
 Option.bind (F_spec_ProgramValid s9.2.2) fun v36=>
 bif v36 then
  some ((⟨s9.1,s9.2.1⟩:Xspec_l17Rd),s9.2.2)
 else
  Option.bind (F_spec_l1Instr (⟨s9.1,s9.2.1⟩:Xspec_l17Rd)) fun v38=>
  some ((⟨v38.1.b,v38.1.p⟩:Xspec_l17Rd),([([v38.2]:List ZIn)]:List (List ZIn)))
noncomputable def F_spec_l1Writes (x:ZIn):Option Bool:=
 Option.bind (bif (x.Op==(2:Int)) then
  some true
 else
  some (x.Op==(3:Int))
 ) fun s1=>
 Option.bind (bif s1 then
  some true
 else
  some (x.Op==(5:Int))
 ) fun s3=>
 some s3
noncomputable def F_spec_l1Reads (x:ZIn):Option Bool:=
 Option.bind (bif (x.Op==(1:Int)) then
  some true
 else
  some (x.Op==(5:Int))
 ) fun s1=>
 some s1
noncomputable def F_spec_l1Count_L11 (p:List (List ZIn)) (loc:Int) (writes:Bool) (s4:Int×Int):(Int×Int)->Option ((Int×Int) ⊕ Int):=fun s10=>
 gd (decide (0<=s4.1/\s4.1<(p.length:Int))) <|
 bif decide (s10.1<((p.getD s4.1.toNat default).length:Int)) then
  Option.bind (
   gd (decide (0<=s10.1/\s10.1<((p.getD s4.1.toNat default).length:Int))) <|
   Option.bind (bif ((((p.getD s4.1.toNat default).getD s10.1.toNat default).Loc)==loc) then
    Option.bind (bif writes then
     Option.bind (F_spec_l1Writes (⟨((p.getD s4.1.toNat default).getD s10.1.toNat default).Op,((p.getD s4.1.toNat default).getD s10.1.toNat default).Loc,((p.getD s4.1.toNat default).getD s10.1.toNat default).Reg,((p.getD s4.1.toNat default).getD s10.1.toNat default).Val⟩:ZIn)) fun v20=>
     some v20
    else
     some false
    ) fun s18=>
    Option.bind (bif s18 then
     some true
    else
     Option.bind (bif !writes then
      Option.bind (F_spec_l1Reads (⟨((p.getD s4.1.toNat default).getD s10.1.toNat default).Op,((p.getD s4.1.toNat default).getD s10.1.toNat default).Loc,((p.getD s4.1.toNat default).getD s10.1.toNat default).Reg,((p.getD s4.1.toNat default).getD s10.1.toNat default).Val⟩:ZIn)) fun v25=>
      some v25
     else
      some false
     ) fun s23=>
     some s23
    ) fun s21=>
    some s21
   else
    some false
   ) fun s16=>
   bif s16 then
    gd (inK .i64 (s10.2+(1:Int))) <|
    some (s10.2+(1:Int))
   else
    some s10.2
  ) fun s14=>
  gd (inK .i64 (s10.1+(1:Int))) <|
  some (.inl ((s10.1+(1:Int)),s14))
 else
  some (.inr s10.2)
noncomputable def F_spec_l1Count_L5 (p:List (List ZIn)) (loc:Int) (writes:Bool):(Int×Int)->Option ((Int×Int) ⊕ Int):=fun s4=>
 bif decide (s4.1<(p.length:Int)) then
  Option.bind (
   loopO (F_spec_l1Count_L11 p loc writes s4) ((0:Int),s4.2)
  ) fun s7=>
  gd (inK .i64 (s4.1+(1:Int))) <|
  some (.inl ((s4.1+(1:Int)),s7))
 else
  some (.inr s4.2)
noncomputable def F_spec_l1Count (p:List (List ZIn)) (loc:Int) (writes:Bool):Option Int:=
 Option.bind (
  loopO (F_spec_l1Count_L5 p loc writes) ((0:Int),(0:Int))
 ) fun s1=>
 some s1
noncomputable def F_spec_l1Execs_L13 (p:List (List ZIn)) (most:Int) (s4:Int×Int) (v8:Int):(Int×Int)->Option ((Int×Int) ⊕ Int):=fun s12=>
 Option.bind (F_spec_l1Count p s4.1 false) fun v14=>
 Option.bind (bif decide (s12.1<v14) then
  some (decide (s12.2<=most))
 else
  some false
 ) fun s15=>
 bif s15 then
  gd (inK .i64 (v8+(1:Int))) <|
  gd (inK .i64 (s12.2*(v8+(1:Int)))) <|
  gd (inK .i64 (s12.1+(1:Int))) <|
  some (.inl ((s12.1+(1:Int)),(s12.2*(v8+(1:Int)))))
 else
  some (.inr s12.2)
noncomputable def F_spec_l1Execs_L24 (most:Int) (v8:Int):(Int×Int)->Option ((Int×Int) ⊕ Int):=fun s23=>
 Option.bind (bif decide (s23.1<=v8) then
  some (decide (s23.2<=most))
 else
  some false
 ) fun s25=>
 bif s25 then
  gd (inK .i64 (s23.2*s23.1)) <|
  gd (inK .i64 (s23.1+(1:Int))) <|
  some (.inl ((s23.1+(1:Int)),(s23.2*s23.1)))
 else
  some (.inr s23.2)
noncomputable def F_spec_l1Execs_L5 (p:List (List ZIn)) (most:Int):(Int×Int)->Option ((Int×Int) ⊕ Int):=fun s4=>
 bif decide (s4.1<=(2:Int)) then
  Option.bind (
   Option.bind (F_spec_l1Count p s4.1 true) fun v8=>
   Option.bind (
    loopO (F_spec_l1Execs_L13 p most s4 v8) ((0:Int),s4.2)
   ) fun s9=>
   loopO (F_spec_l1Execs_L24 most v8) ((2:Int),s9)
  ) fun s7=>
  gd (inK .i64 (s4.1+(1:Int))) <|
  some (.inl ((s4.1+(1:Int)),s7))
 else
  some (.inr s4.2)
noncomputable def F_spec_l1Execs (p:List (List ZIn)) (most:Int):Option Int:=
 Option.bind (
  loopO (F_spec_l1Execs_L5 p most) ((0:Int),(1:Int))
 ) fun s1=>
 bif decide (most<s1) then
  gd (inK .i64 (most+(1:Int))) <|
  some (most+(1:Int))
 else
  some s1
noncomputable def F_spec_l8Small (r_:Xspec_l17Rd):Option (Xspec_l17Rd×(List (List ZIn))):=
 Option.bind (F_spec_l1Draw (⟨r_.b,r_.p⟩:Xspec_l17Rd)) fun v1=>
 Option.bind (F_spec_l1Execs v1.2 (200:Int)) fun v2=>
 bif decide (v2<=(200:Int)) then
  some ((⟨v1.1.b,v1.1.p⟩:Xspec_l17Rd),v1.2)
 else
  Option.bind (F_spec_ParseProgram (⟨#[120,61,49,59,97,61,121,124,121,61,49,59,97,61,120]⟩:ByteArray)) fun v4=>
  some ((⟨v1.1.b,v1.1.p⟩:Xspec_l17Rd),v4.1)
end Go.Proofs.Ytlgfihlflchhgaa
