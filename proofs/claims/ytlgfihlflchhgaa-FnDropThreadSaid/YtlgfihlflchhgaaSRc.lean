/-
 Computable twins of plain functions (loops with fuel), and that they answer alike; printed by fuel.py. No conditions.
-/
import Derived.Test.YtlgfihlflchhgaaSRd
import Derived.Test.YtlgfihlflchhgaaFu
import Derived.Test.YtlgfihlflchhgaaDec
namespace Go.Proofs.Ytlgfihlflchhgaa
open Go.RowKit
set_option maxRecDepth 100000
def C_spec_l17Cut_L6 (s:ByteArray) (c:Int):((List ByteArray)×Int×Int)->Option (((List ByteArray)×Int×Int) ⊕ (List ByteArray)):=fun s5=>
 bif decide (s5.2.1<=(s.size:Int)) then
  Option.bind (
   Option.bind (bif (s5.2.1==(s.size:Int)) then
    some true
   else
    gd (decide (0<=s5.2.1/\s5.2.1<(s.size:Int))) <|
    some (((s.data.getD s5.2.1.toNat 0).toNat:Int)==c)
   ) fun s10=>
   bif s10 then
    gd (decide (0<=s5.2.2/\s5.2.2<=s5.2.1/\s5.2.1<=(s.size:Int))) <|
    gd (capOK (s5.1.length+1) 16) <|
    gd (inK .i64 (s5.2.1+(1:Int))) <|
    some ((s5.1++[(s.extract s5.2.2.toNat s5.2.1.toNat)]),(s5.2.1+(1:Int)))
   else
    some (s5.1,s5.2.2)
  ) fun s9=>
  gd (inK .i64 (s5.2.1+(1:Int))) <|
  some (.inl (s9.1,(s5.2.1+(1:Int)),s9.2))
 else
  some (.inr s5.1)
theorem C_spec_l17Cut_L6_le (s:ByteArray) (c:Int) (sQ:_):Le (C_spec_l17Cut_L6 s c sQ) (F_spec_l17Cut_L6 s c sQ):=by
 unfold C_spec_l17Cut_L6 F_spec_l17Cut_L6
 repeat' (first | with_reducible exact Le.refl _ | with_reducible refine Le.gd _ ?_ | with_reducible refine Le.bif _ ?_ ?_ | with_reducible refine Le.bind ?_ (fun _ => ?_) | with_reducible refine Le.sumK ?_ (fun _ => ?_) | with_reducible refine Le.loop (fun _ => ?_) _ | with_reducible refine Le.nilK ?_ ?_ | with_reducible refine Le.ifc _ ?_ ?_)
def C_spec_l17Cut (s:ByteArray) (c:Int):Option (List ByteArray):=
 Option.bind (
  loopN' 40 (C_spec_l17Cut_L6 s c) (([]:List ByteArray),(0:Int),(0:Int))
 ) fun s1=>
 some s1
theorem C_spec_l17Cut_le (s:ByteArray) (c:Int):Le (C_spec_l17Cut s c) (F_spec_l17Cut s c):=by
 unfold C_spec_l17Cut F_spec_l17Cut
 repeat' (first | with_reducible exact Le.refl _ | with_reducible exact C_spec_l17Cut_L6_le .. | with_reducible refine Le.gd _ ?_ | with_reducible refine Le.bif _ ?_ ?_ | with_reducible refine Le.bind ?_ (fun _ => ?_) | with_reducible refine Le.sumK ?_ (fun _ => ?_) | with_reducible refine Le.loop (fun _ => ?_) _ | with_reducible refine Le.nilK ?_ ?_ | with_reducible refine Le.ifc _ ?_ ?_)
def C_spec_l1Place (s:ByteArray) (at_:Int) (from_:Int) (most:Int):Option Int:=
 Option.bind (bif decide ((s.size:Int)<=at_) then
  some true
 else
  gd (decide (0<=at_/\at_<(s.size:Int))) <|
  some (decide (((s.data.getD at_.toNat 0).toNat:Int)<from_))
 ) fun s1=>
 Option.bind (bif s1 then
  some true
 else
  gd (decide (0<=at_/\at_<(s.size:Int))) <|
  gd (inK .u8 (((s.data.getD at_.toNat 0).toNat:Int)-from_)) <|
  gd (inK .i64 (((s.data.getD at_.toNat 0).toNat:Int)-from_)) <|
  some (decide (most<(((s.data.getD at_.toNat 0).toNat:Int)-from_)))
 ) fun s4=>
 bif s4 then
  some (-1:Int)
 else
  gd (decide (0<=at_/\at_<(s.size:Int))) <|
  gd (inK .u8 (((s.data.getD at_.toNat 0).toNat:Int)-from_)) <|
  gd (inK .i64 (((s.data.getD at_.toNat 0).toNat:Int)-from_)) <|
  some (((s.data.getD at_.toNat 0).toNat:Int)-from_)
theorem C_spec_l1Place_le (s:ByteArray) (at_:Int) (from_:Int) (most:Int):Le (C_spec_l1Place s at_ from_ most) (F_spec_l1Place s at_ from_ most):=by
 unfold C_spec_l1Place F_spec_l1Place
 repeat' (first | with_reducible exact Le.refl _ | with_reducible refine Le.gd _ ?_ | with_reducible refine Le.bif _ ?_ ?_ | with_reducible refine Le.bind ?_ (fun _ => ?_) | with_reducible refine Le.sumK ?_ (fun _ => ?_) | with_reducible refine Le.loop (fun _ => ?_) _ | with_reducible refine Le.nilK ?_ ?_ | with_reducible refine Le.ifc _ ?_ ?_)
def C_spec_l1Parse (s:ByteArray):Option ZIn:=
 bif decide (s=(⟨#[102,101,110,99,101]⟩:ByteArray)) then
  some (⟨(4:Int),(0:Int),(0:Int),(0:Int)⟩:ZIn)
 else
  Option.bind (C_spec_l1Place s (0:Int) (97:Int) (2:Int)) fun v2=>
  Option.bind (C_spec_l1Place s (0:Int) (120:Int) (2:Int)) fun v3=>
  Option.bind (bif decide ((0:Int)<=v2) then
   some ((s.size:Int)==(3:Int))
  else
   some false
  ) fun s4=>
  bif s4 then
   Option.bind (C_spec_l1Place s (2:Int) (120:Int) (2:Int)) fun v7=>
   some (⟨(1:Int),v7,v2,(0:Int)⟩:ZIn)
  else
   Option.bind (bif decide ((0:Int)<=v2) then
    some ((s.size:Int)==(5:Int))
   else
    some false
   ) fun s8=>
   bif s8 then
    Option.bind (C_spec_l1Place s (2:Int) (120:Int) (2:Int)) fun v11=>
    Option.bind (C_spec_l1Place s (4:Int) (48:Int) (3:Int)) fun v12=>
    some (⟨(5:Int),v11,v2,v12⟩:ZIn)
   else
    Option.bind (bif decide ((0:Int)<=v3) then
     Option.bind (C_spec_l1Place s (2:Int) (97:Int) (2:Int)) fun v15=>
     some (decide ((0:Int)<=v15))
    else
     some false
    ) fun s13=>
    bif s13 then
     Option.bind (C_spec_l1Place s (2:Int) (97:Int) (2:Int)) fun v17=>
     some (⟨(3:Int),v3,v17,(0:Int)⟩:ZIn)
    else
     Option.bind (C_spec_l1Place s (2:Int) (48:Int) (3:Int)) fun v18=>
     some (⟨(2:Int),v3,(0:Int),v18⟩:ZIn)
theorem C_spec_l1Parse_le (s:ByteArray):Le (C_spec_l1Parse s) (F_spec_l1Parse s):=by
 unfold C_spec_l1Parse F_spec_l1Parse
 repeat' (first | with_reducible exact Le.refl _ | with_reducible exact C_spec_l1Place_le .. | with_reducible refine Le.gd _ ?_ | with_reducible refine Le.bif _ ?_ ?_ | with_reducible refine Le.bind ?_ (fun _ => ?_) | with_reducible refine Le.sumK ?_ (fun _ => ?_) | with_reducible refine Le.loop (fun _ => ?_) _ | with_reducible refine Le.nilK ?_ ?_ | with_reducible refine Le.ifc _ ?_ ?_)
def C_spec_ParseProgram_L20 (v1:(List ByteArray)) (s6:(List (List ZIn))×Int) (v14:(List ByteArray)):((List ZIn)×Int)->Option (((List ZIn)×Int) ⊕ (List ZIn)):=fun s19=>
 Option.bind (bif decide (s19.2<(v14.length:Int)) then
  some (decide (s19.2<=(7:Int)))
 else
  some false
 ) fun s22=>
 Option.bind (bif s22 then
  some (!decide ((v1.getD s6.2.toNat default)=(⟨#[]⟩:ByteArray)))
 else
  some false
 ) fun s24=>
 bif s24 then
  gd (decide (0<=s19.2/\s19.2<(v14.length:Int))) <|
  Option.bind (C_spec_l1Parse (v14.getD s19.2.toNat default)) fun v28=>
  gd (capOK (s19.1.length+1) 32) <|
  gd (inK .i64 (s19.2+(1:Int))) <|
  some (.inl ((s19.1++[v28]),(s19.2+(1:Int))))
 else
  some (.inr s19.1)
theorem C_spec_ParseProgram_L20_le (v1:(List ByteArray)) (s6:(List (List ZIn))×Int) (v14:(List ByteArray)) (sQ:_):Le (C_spec_ParseProgram_L20 v1 s6 v14 sQ) (F_spec_ParseProgram_L20 v1 s6 v14 sQ):=by
 unfold C_spec_ParseProgram_L20 F_spec_ParseProgram_L20
 repeat' (first | with_reducible exact Le.refl _ | with_reducible exact C_spec_l1Parse_le .. | with_reducible refine Le.gd _ ?_ | with_reducible refine Le.bif _ ?_ ?_ | with_reducible refine Le.bind ?_ (fun _ => ?_) | with_reducible refine Le.sumK ?_ (fun _ => ?_) | with_reducible refine Le.loop (fun _ => ?_) _ | with_reducible refine Le.nilK ?_ ?_ | with_reducible refine Le.ifc _ ?_ ?_)
def C_spec_ParseProgram_L7 (v1:(List ByteArray)):((List (List ZIn))×Int)->Option (((List (List ZIn))×Int) ⊕ (List (List ZIn))):=fun s6=>
 Option.bind (bif decide (s6.2<(v1.length:Int)) then
  some (decide (s6.2<=(3:Int)))
 else
  some false
 ) fun s9=>
 bif s9 then
  Option.bind (
   gd (decide (0<=s6.2/\s6.2<(v1.length:Int))) <|
   Option.bind (C_spec_l17Cut (v1.getD s6.2.toNat default) (59:Int)) fun v14=>
   Option.bind (
    loopN' 40 (C_spec_ParseProgram_L20 v1 s6 v14) (([]:List ZIn),(0:Int))
   ) fun s15=>
   gd (capOK (s6.1.length+1) 24) <|
   some (s6.1++[s15])
  ) fun s12=>
  gd (inK .i64 (s6.2+(1:Int))) <|
  some (.inl (s12,(s6.2+(1:Int))))
 else
  some (.inr s6.1)
theorem C_spec_ParseProgram_L7_le (v1:(List ByteArray)) (sQ:_):Le (C_spec_ParseProgram_L7 v1 sQ) (F_spec_ParseProgram_L7 v1 sQ):=by
 unfold C_spec_ParseProgram_L7 F_spec_ParseProgram_L7
 repeat' (first | with_reducible exact Le.refl _ | with_reducible exact C_spec_l17Cut_le .. | with_reducible exact C_spec_ParseProgram_L20_le .. | with_reducible refine Le.gd _ ?_ | with_reducible refine Le.bif _ ?_ ?_ | with_reducible refine Le.bind ?_ (fun _ => ?_) | with_reducible refine Le.sumK ?_ (fun _ => ?_) | with_reducible refine Le.loop (fun _ => ?_) _ | with_reducible refine Le.nilK ?_ ?_ | with_reducible refine Le.ifc _ ?_ ?_)
def C_spec_l1Letter (from_:Int) (n:Int):Option ByteArray:=
 gd (inK .u8 n) <|
 gd (inK .u8 (from_+n)) <|
 some (strOfNums ([(from_+n)]:List Int))
theorem C_spec_l1Letter_le (from_:Int) (n:Int):Le (C_spec_l1Letter from_ n) (F_spec_l1Letter from_ n):=by
 unfold C_spec_l1Letter F_spec_l1Letter
 repeat' (first | with_reducible exact Le.refl _ | with_reducible refine Le.gd _ ?_ | with_reducible refine Le.bif _ ?_ ?_ | with_reducible refine Le.bind ?_ (fun _ => ?_) | with_reducible refine Le.sumK ?_ (fun _ => ?_) | with_reducible refine Le.loop (fun _ => ?_) _ | with_reducible refine Le.nilK ?_ ?_ | with_reducible refine Le.ifc _ ?_ ?_)
def C_spec_l1Text (x:ZIn):Option ByteArray:=
 Option.bind (C_spec_l1Letter (120:Int) x.Loc) fun v1=>
 Option.bind (C_spec_l1Letter (97:Int) x.Reg) fun v2=>
 bif (x.Op==(1:Int)) then
  gd (decide (v2.size+(⟨#[61]⟩:ByteArray).size<=9223372036854775807)) <|
  gd (decide ((v2++(⟨#[61]⟩:ByteArray)).size+v1.size<=9223372036854775807)) <|
  some ((v2++(⟨#[61]⟩:ByteArray))++v1)
 else
  bif (x.Op==(2:Int)) then
   gd (decide (v1.size+(⟨#[61]⟩:ByteArray).size<=9223372036854775807)) <|
   Option.bind (C_spec_l17Dec x.Val) fun v8=>
   gd (decide ((v1++(⟨#[61]⟩:ByteArray)).size+v8.size<=9223372036854775807)) <|
   some ((v1++(⟨#[61]⟩:ByteArray))++v8)
  else
   bif (x.Op==(3:Int)) then
    gd (decide (v1.size+(⟨#[61]⟩:ByteArray).size<=9223372036854775807)) <|
    gd (decide ((v1++(⟨#[61]⟩:ByteArray)).size+v2.size<=9223372036854775807)) <|
    some ((v1++(⟨#[61]⟩:ByteArray))++v2)
   else
    bif (x.Op==(5:Int)) then
     gd (decide (v2.size+(⟨#[61]⟩:ByteArray).size<=9223372036854775807)) <|
     gd (decide ((v2++(⟨#[61]⟩:ByteArray)).size+v1.size<=9223372036854775807)) <|
     gd (decide (((v2++(⟨#[61]⟩:ByteArray))++v1).size+(⟨#[58]⟩:ByteArray).size<=9223372036854775807)) <|
     Option.bind (C_spec_l17Dec x.Val) fun v17=>
     gd (decide ((((v2++(⟨#[61]⟩:ByteArray))++v1)++(⟨#[58]⟩:ByteArray)).size+v17.size<=9223372036854775807)) <|
     some ((((v2++(⟨#[61]⟩:ByteArray))++v1)++(⟨#[58]⟩:ByteArray))++v17)
    else
     some (⟨#[102,101,110,99,101]⟩:ByteArray)
theorem C_spec_l1Text_le (x:ZIn):Le (C_spec_l1Text x) (F_spec_l1Text x):=by
 unfold C_spec_l1Text F_spec_l1Text
 repeat' (first | with_reducible exact Le.refl _ | with_reducible exact C_spec_l1Letter_le .. | with_reducible exact C_spec_l17Dec_le .. | with_reducible refine Le.gd _ ?_ | with_reducible refine Le.bif _ ?_ ?_ | with_reducible refine Le.bind ?_ (fun _ => ?_) | with_reducible refine Le.sumK ?_ (fun _ => ?_) | with_reducible refine Le.loop (fun _ => ?_) _ | with_reducible refine Le.nilK ?_ ?_ | with_reducible refine Le.ifc _ ?_ ?_)
def C_spec_l1Program_L14 (p:List (List ZIn)) (s4:Int×ByteArray):(Int×ByteArray)->Option ((Int×ByteArray) ⊕ ByteArray):=fun s13=>
 gd (decide (0<=s4.1/\s4.1<(p.length:Int))) <|
 bif decide (s13.1<((p.getD s4.1.toNat default).length:Int)) then
  Option.bind (
   bif decide ((0:Int)<s13.1) then
    gd (decide (s13.2.size+(⟨#[59]⟩:ByteArray).size<=9223372036854775807)) <|
    some (s13.2++(⟨#[59]⟩:ByteArray))
   else
    some s13.2
  ) fun s17=>
  gd (decide (0<=s13.1/\s13.1<((p.getD s4.1.toNat default).length:Int))) <|
  Option.bind (C_spec_l1Text ((p.getD s4.1.toNat default).getD s13.1.toNat default)) fun v21=>
  gd (decide (s17.size+v21.size<=9223372036854775807)) <|
  gd (inK .i64 (s13.1+(1:Int))) <|
  some (.inl ((s13.1+(1:Int)),(s17++v21)))
 else
  some (.inr s13.2)
theorem C_spec_l1Program_L14_le (p:List (List ZIn)) (s4:Int×ByteArray) (sQ:_):Le (C_spec_l1Program_L14 p s4 sQ) (F_spec_l1Program_L14 p s4 sQ):=by
 unfold C_spec_l1Program_L14 F_spec_l1Program_L14
 repeat' (first | with_reducible exact Le.refl _ | with_reducible exact C_spec_l1Text_le .. | with_reducible refine Le.gd _ ?_ | with_reducible refine Le.bif _ ?_ ?_ | with_reducible refine Le.bind ?_ (fun _ => ?_) | with_reducible refine Le.sumK ?_ (fun _ => ?_) | with_reducible refine Le.loop (fun _ => ?_) _ | with_reducible refine Le.nilK ?_ ?_ | with_reducible refine Le.ifc _ ?_ ?_)
def C_spec_l1Program_L5 (p:List (List ZIn)):(Int×ByteArray)->Option ((Int×ByteArray) ⊕ ByteArray):=fun s4=>
 bif decide (s4.1<(p.length:Int)) then
  Option.bind (
   Option.bind (
    bif decide ((0:Int)<s4.1) then
     gd (decide (s4.2.size+(⟨#[124]⟩:ByteArray).size<=9223372036854775807)) <|
     some (s4.2++(⟨#[124]⟩:ByteArray))
    else
     some s4.2
   ) fun s8=>
   loopN' 40 (C_spec_l1Program_L14 p s4) ((0:Int),s8)
  ) fun s7=>
  gd (inK .i64 (s4.1+(1:Int))) <|
  some (.inl ((s4.1+(1:Int)),s7))
 else
  some (.inr s4.2)
theorem C_spec_l1Program_L5_le (p:List (List ZIn)) (sQ:_):Le (C_spec_l1Program_L5 p sQ) (F_spec_l1Program_L5 p sQ):=by
 unfold C_spec_l1Program_L5 F_spec_l1Program_L5
 repeat' (first | with_reducible exact Le.refl _ | with_reducible exact C_spec_l1Program_L14_le .. | with_reducible refine Le.gd _ ?_ | with_reducible refine Le.bif _ ?_ ?_ | with_reducible refine Le.bind ?_ (fun _ => ?_) | with_reducible refine Le.sumK ?_ (fun _ => ?_) | with_reducible refine Le.loop (fun _ => ?_) _ | with_reducible refine Le.nilK ?_ ?_ | with_reducible refine Le.ifc _ ?_ ?_)
def C_spec_l1Program (p:List (List ZIn)):Option ByteArray:=
 Option.bind (
  loopN' 40 (C_spec_l1Program_L5 p) ((0:Int),(⟨#[]⟩:ByteArray))
 ) fun s1=>
 some s1
theorem C_spec_l1Program_le (p:List (List ZIn)):Le (C_spec_l1Program p) (F_spec_l1Program p):=by
 unfold C_spec_l1Program F_spec_l1Program
 repeat' (first | with_reducible exact Le.refl _ | with_reducible exact C_spec_l1Program_L5_le .. | with_reducible refine Le.gd _ ?_ | with_reducible refine Le.bif _ ?_ ?_ | with_reducible refine Le.bind ?_ (fun _ => ?_) | with_reducible refine Le.sumK ?_ (fun _ => ?_) | with_reducible refine Le.loop (fun _ => ?_) _ | with_reducible refine Le.nilK ?_ ?_ | with_reducible refine Le.ifc _ ?_ ?_)
def C_spec_ParseProgram (text:ByteArray):Option ((List (List ZIn))×Bool):=
 Option.bind (C_spec_l17Cut text (124:Int)) fun v1=>
 Option.bind (
  loopN' 40 (C_spec_ParseProgram_L7 v1) (([]:List (List ZIn)),(0:Int))
 ) fun s2=>
 Option.bind (F_spec_ProgramValid s2) fun v36=>
 Option.bind (bif !v36 then
  some true
 else
  Option.bind (C_spec_l1Program s2) fun v39=>
  some (!decide (v39=text))
 ) fun s37=>
 bif s37 then
  some (([]:List (List ZIn)),false)
 else
  some (s2,true)
theorem C_spec_ParseProgram_le (text:ByteArray):Le (C_spec_ParseProgram text) (F_spec_ParseProgram text):=by
 unfold C_spec_ParseProgram F_spec_ParseProgram
 repeat' (first | with_reducible exact Le.refl _ | with_reducible exact C_spec_l17Cut_le .. | with_reducible exact C_spec_ParseProgram_L7_le .. | with_reducible exact C_spec_l1Program_le .. | with_reducible refine Le.gd _ ?_ | with_reducible refine Le.bif _ ?_ ?_ | with_reducible refine Le.bind ?_ (fun _ => ?_) | with_reducible refine Le.sumK ?_ (fun _ => ?_) | with_reducible refine Le.loop (fun _ => ?_) _ | with_reducible refine Le.nilK ?_ ?_ | with_reducible refine Le.ifc _ ?_ ?_)
end Go.Proofs.Ytlgfihlflchhgaa
