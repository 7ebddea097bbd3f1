/- Texts joined. No conditions. -/
import Derived.Test.YtcmimhffgmckjaaGreatDoorV6
namespace Go.Proofs.YtcmimhffgmckjaaGreatDoor
noncomputable section
open Go.RowKit
set_option maxRecDepth 100000
def n9 (name:ByteArray):Option ByteArray:=
 bif decide (name=(⟨#[115,101,113]⟩:ByteArray)) then
  some (⟨#[97,99,121,99,108,105,99,32,112,111,124,114,102,124,99,111,124,102,114]⟩:ByteArray)
 else
  bif decide (name=(⟨#[116,115,111]⟩:ByteArray)) then
   some (⟨#[97,99,121,99,108,105,99,32,112,111,38,108,111,99,124,114,102,124,99,111,124,102,114,47,97,99,121,99,108,105,99,32,112,111,45,119,114,124,102,101,110,99,101,124,114,102,38,101,120,116,124,99,111,124,102,114,47,105,114,114,101,102,32,102,114,59,99,111]⟩:ByteArray)
  else
   bif decide (name=(⟨#[112,115,111]⟩:ByteArray)) then
    some (⟨#[97,99,121,99,108,105,99,32,112,111,38,108,111,99,124,114,102,124,99,111,124,102,114,47,97,99,121,99,108,105,99,32,112,111,45,40,119,114,124,119,119,41,124,102,101,110,99,101,124,114,102,38,101,120,116,124,99,111,124,102,114,47,105,114,114,101,102,32,102,114,59,99,111]⟩:ByteArray)
   else
    bif decide (name=(⟨#[114,97]⟩:ByteArray)) then
     some (⟨#[97,99,121,99,108,105,99,32,112,111,124,114,102,47,97,99,121,99,108,105,99,32,43,40,112,111,124,114,102,41,38,108,111,99,124,99,111,124,102,114,47,105,114,114,101,102,32,102,114,59,99,111]⟩:ByteArray)
    else
     bif decide (name=(⟨#[108,111,99]⟩:ByteArray)) then
      some (⟨#[97,99,121,99,108,105,99,32,112,111,38,108,111,99,124,114,102,124,99,111,124,102,114]⟩:ByteArray)
     else
      some (⟨#[]⟩:ByteArray)
theorem vu (name:ByteArray):Le (n9 name) (kJ name):=by
 unfold n9 kJ
 repeat' (first | with_reducible exact Le.refl _ | with_reducible refine Le.gd _ ?_ | with_reducible refine Le.bif _ ?_ ?_ | with_reducible refine Le.bind ?_ (fun _=>?_) | with_reducible refine Le.sumK ?_ (fun _=>?_) | with_reducible refine Le.loop (fun _=>?_) _ | with_reducible refine Le.nilK ?_ ?_ | with_reducible refine Le.ifc _ ?_ ?_)
def cQ (s:ByteArray) (c:Int):Option Int:=
 some (Lj s c)
theorem lc (s:ByteArray) (c:Int):Le (cQ s c) (bH s c):=by
 unfold cQ bH
 repeat' (first | with_reducible exact Le.refl _ | with_reducible refine Le.gd _ ?_ | with_reducible refine Le.bif _ ?_ ?_ | with_reducible refine Le.bind ?_ (fun _=>?_) | with_reducible refine Le.sumK ?_ (fun _=>?_) | with_reducible refine Le.loop (fun _=>?_) _ | with_reducible refine Le.nilK ?_ ?_ | with_reducible refine Le.ifc _ ?_ ?_)
def bZ (s:ByteArray) (substr:ByteArray):Option Int:=
 Option.bind (bif ((substr.size:Int)==(0:Int)) then
  some true
 else
  some (decide (substr=s))
 ) fun s1=>
 bif s1 then
  some (0:Int)
 else
  bif ((substr.size:Int)==(1:Int)) then
   gd (decide (0<=(0:Int)/\(0:Int)<(substr.size:Int))) <|
   Option.bind (cQ s ((substr.data.getD (0:Int).toNat 0).toNat:Int)) fun v6=>
   some v6
  else
   bif decide ((s.size:Int)<=(substr.size:Int)) then
    some (-1:Int)
   else
    none
theorem gJ (s:ByteArray) (substr:ByteArray):Le (bZ s substr) (bB s substr):=by
 unfold bZ bB
 repeat' (first | with_reducible exact Le.refl _ | with_reducible exact lc .. | with_reducible refine Le.gd _ ?_ | with_reducible refine Le.bif _ ?_ ?_ | with_reducible refine Le.bind ?_ (fun _=>?_) | with_reducible refine Le.sumK ?_ (fun _=>?_) | with_reducible refine Le.loop (fun _=>?_) _ | with_reducible refine Le.nilK ?_ ?_ | with_reducible refine Le.ifc _ ?_ ?_)
def mr (s:ByteArray) (substr:ByteArray):Option Int:=
 Option.bind (bZ s substr) fun v1=>
 some v1
theorem qF (s:ByteArray) (substr:ByteArray):Le (mr s substr) (iU s substr):=by
 unfold mr iU
 repeat' (first | with_reducible exact Le.refl _ | with_reducible exact gJ .. | with_reducible refine Le.gd _ ?_ | with_reducible refine Le.bif _ ?_ ?_ | with_reducible refine Le.bind ?_ (fun _=>?_) | with_reducible refine Le.sumK ?_ (fun _=>?_) | with_reducible refine Le.loop (fun _=>?_) _ | with_reducible refine Le.nilK ?_ ?_ | with_reducible refine Le.ifc _ ?_ ?_)
def mD (substr:ByteArray):(Int×ByteArray)->Option ((Int×ByteArray) ⊕ Int):=fun s6=>
 Option.bind (mr s6.2 substr) fun v8=>
 bif (v8==(-1:Int)) then
  some (.inr s6.1)
 else
  gd (Md .i64 (s6.1+(1:Int))) <|
  gd (Md .i64 (v8+(substr.size:Int))) <|
  gd (decide (0<=(v8+(substr.size:Int))/\(v8+(substr.size:Int))<=(s6.2.size:Int)/\(s6.2.size:Int)<=(s6.2.size:Int))) <|
  some (.inl ((s6.1+(1:Int)),(s6.2.extract (v8+(substr.size:Int)).toNat (s6.2.size:Int).toNat)))
theorem tZ (substr:ByteArray) (sQ:_):Le (mD substr sQ) (l7 substr sQ):=by
 unfold mD l7
 repeat' (first | with_reducible exact Le.refl _ | with_reducible exact qF .. | with_reducible refine Le.gd _ ?_ | with_reducible refine Le.bif _ ?_ ?_ | with_reducible refine Le.bind ?_ (fun _=>?_) | with_reducible refine Le.sumK ?_ (fun _=>?_) | with_reducible refine Le.loop (fun _=>?_) _ | with_reducible refine Le.nilK ?_ ?_ | with_reducible refine Le.ifc _ ?_ ?_)
def p7 (s:ByteArray) (substr:ByteArray):Option Int:=
 bif ((substr.size:Int)==(0:Int)) then
  none
 else
  bif ((substr.size:Int)==(1:Int)) then
   gd (decide (0<=(0:Int)/\(0:Int)<(substr.size:Int))) <|
   some (Li s ((substr.data.getD (0:Int).toNat 0).toNat:Int))
  else
   nO 60 (mD substr) ((0:Int),s)
theorem wC (s:ByteArray) (substr:ByteArray):Le (p7 s substr) (l8 s substr):=by
 unfold p7 l8
 repeat' (first | with_reducible exact Le.refl _ | with_reducible exact tZ .. | with_reducible refine Le.gd _ ?_ | with_reducible refine Le.bif _ ?_ ?_ | with_reducible refine Le.bind ?_ (fun _=>?_) | with_reducible refine Le.sumK ?_ (fun _=>?_) | with_reducible refine Le.loop (fun _=>?_) _ | with_reducible refine Le.nilK ?_ ?_ | with_reducible refine Le.ifc _ ?_ ?_)
def iH (s:ByteArray) (sep:ByteArray) (sepSave:Int) (s3:Int):((List ByteArray)×Int×ByteArray)->Option (((List ByteArray)×Int×ByteArray) ⊕ ((List ByteArray)×Int×ByteArray)):=fun s14=>
 bif decide (s14.2.1<((if ((s.size:Int)+(1:Int))<s3 then ((s.size:Int)+(1:Int)) else s3)-(1:Int))) then
  Option.bind (mr s14.2.2 sep) fun v18=>
  bif decide (v18<(0:Int)) then
   some (.inr (s14.1,s14.2.1,s14.2.2))
  else
   gd (Md .i64 (v18+sepSave)) <|
   gd (decide (0<=(0:Int)/\(0:Int)<=(v18+sepSave)/\(v18+sepSave)<=(s14.2.2.size:Int))) <|
   gd (decide (0<=s14.2.1/\s14.2.1<(s14.1.length:Int))) <|
   gd (Md .i64 (v18+(sep.size:Int))) <|
   gd (decide (0<=(v18+(sep.size:Int))/\(v18+(sep.size:Int))<=(s14.2.2.size:Int)/\(s14.2.2.size:Int)<=(s14.2.2.size:Int))) <|
   gd (Md .i64 (s14.2.1+(1:Int))) <|
   some (.inl ((s14.1.set s14.2.1.toNat (s14.2.2.extract (0:Int).toNat (v18+sepSave).toNat)),(s14.2.1+(1:Int)),(s14.2.2.extract (v18+(sep.size:Int)).toNat (s14.2.2.size:Int).toNat)))
 else
  some (.inr (s14.1,s14.2.1,s14.2.2))
theorem qO (s:ByteArray) (sep:ByteArray) (sepSave:Int) (s3:Int) (sQ:_):Le (iH s sep sepSave s3 sQ) (eY s sep sepSave s3 sQ):=by
 unfold iH eY
 repeat' (first | with_reducible exact Le.refl _ | with_reducible exact qF .. | with_reducible refine Le.gd _ ?_ | with_reducible refine Le.bif _ ?_ ?_ | with_reducible refine Le.bind ?_ (fun _=>?_) | with_reducible refine Le.sumK ?_ (fun _=>?_) | with_reducible refine Le.loop (fun _=>?_) _ | with_reducible refine Le.nilK ?_ ?_ | with_reducible refine Le.ifc _ ?_ ?_)
def mE (s:ByteArray) (sep:ByteArray) (sepSave:Int) (n:Int):Option (List ByteArray):=
 bif (n==(0:Int)) then
  some ([]:List ByteArray)
 else
  bif decide (sep=(⟨#[]⟩:ByteArray)) then
   none
  else
   Option.bind (
    bif decide (n<(0:Int)) then
     Option.bind (p7 s sep) fun v5=>
     gd (Md .i64 (v5+(1:Int))) <|
     some (v5+(1:Int))
    else
     some n
   ) fun s3=>
   gd (Md .i64 ((s.size:Int)+(1:Int))) <|
   gd (decide (0<=(if ((s.size:Int)+(1:Int))<s3 then ((s.size:Int)+(1:Int)) else s3)/\(if ((s.size:Int)+(1:Int))<s3 then ((s.size:Int)+(1:Int)) else s3)<=(if ((s.size:Int)+(1:Int))<s3 then ((s.size:Int)+(1:Int)) else s3)/\(if ((s.size:Int)+(1:Int))<s3 then ((s.size:Int)+(1:Int)) else s3)*((16:Nat):Int)<=140737488355328/\(if ((s.size:Int)+(1:Int))<s3 then ((s.size:Int)+(1:Int)) else s3)<=140737488355328)) <|
   gd (Md .i64 ((if ((s.size:Int)+(1:Int))<s3 then ((s.size:Int)+(1:Int)) else s3)-(1:Int))) <|
   Option.bind (
    nO 60 (iH s sep sepSave s3) ((List.replicate (if ((s.size:Int)+(1:Int))<s3 then ((s.size:Int)+(1:Int)) else s3).toNat (default:ByteArray)),(0:Int),s)
   ) fun s10=>
   gd (decide (0<=s10.2.1/\s10.2.1<(s10.1.length:Int))) <|
   gd (Md .i64 (s10.2.1+(1:Int))) <|
   gd (decide (0<=(0:Int)/\(0:Int)<=(s10.2.1+(1:Int))/\(s10.2.1+(1:Int))<=((s10.1.set s10.2.1.toNat s10.2.2).length:Int))) <|
   some (((s10.1.set s10.2.1.toNat s10.2.2).drop (0:Int).toNat).take ((s10.2.1+(1:Int)).toNat-(0:Int).toNat))
theorem ub (s:ByteArray) (sep:ByteArray) (sepSave:Int) (n:Int):Le (mE s sep sepSave n) (iM s sep sepSave n):=by
 unfold mE iM
 repeat' (first | with_reducible exact Le.refl _ | with_reducible exact wC .. | with_reducible exact qO .. | with_reducible refine Le.gd _ ?_ | with_reducible refine Le.bif _ ?_ ?_ | with_reducible refine Le.bind ?_ (fun _=>?_) | with_reducible refine Le.sumK ?_ (fun _=>?_) | with_reducible refine Le.loop (fun _=>?_) _ | with_reducible refine Le.nilK ?_ ?_ | with_reducible refine Le.ifc _ ?_ ?_)
def p8 (s:ByteArray) (sep:ByteArray):Option (List ByteArray):=
 Option.bind (mE s sep (0:Int) (-1:Int)) fun v1=>
 some v1
theorem wD (s:ByteArray) (sep:ByteArray):Le (p8 s sep) (l9 s sep):=by
 unfold p8 l9
 repeat' (first | with_reducible exact Le.refl _ | with_reducible exact ub .. | with_reducible refine Le.gd _ ?_ | with_reducible refine Le.bif _ ?_ ?_ | with_reducible refine Le.bind ?_ (fun _=>?_) | with_reducible refine Le.sumK ?_ (fun _=>?_) | with_reducible refine Le.loop (fun _=>?_) _ | with_reducible refine Le.nilK ?_ ?_ | with_reducible refine Le.ifc _ ?_ ?_)
def fq (s:ByteArray) (sep:ByteArray):Option (ByteArray×ByteArray×Bool):=
 Option.bind (bZ s sep) fun v1=>
 bif decide ((0:Int)<=v1) then
  gd (decide (0<=(0:Int)/\(0:Int)<=v1/\v1<=(s.size:Int))) <|
  gd (Md .i64 (v1+(sep.size:Int))) <|
  gd (decide (0<=(v1+(sep.size:Int))/\(v1+(sep.size:Int))<=(s.size:Int)/\(s.size:Int)<=(s.size:Int))) <|
  some ((s.extract (0:Int).toNat v1.toNat),(s.extract (v1+(sep.size:Int)).toNat (s.size:Int).toNat),true)
 else
  some (s,(⟨#[]⟩:ByteArray),false)
theorem og (s:ByteArray) (sep:ByteArray):Le (fq s sep) (cV s sep):=by
 unfold fq cV
 repeat' (first | with_reducible exact Le.refl _ | with_reducible exact gJ .. | with_reducible refine Le.gd _ ?_ | with_reducible refine Le.bif _ ?_ ?_ | with_reducible refine Le.bind ?_ (fun _=>?_) | with_reducible refine Le.sumK ?_ (fun _=>?_) | with_reducible refine Le.loop (fun _=>?_) _ | with_reducible refine Le.nilK ?_ ?_ | with_reducible refine Le.ifc _ ?_ ?_)
def rY (s:ByteArray) (sep:ByteArray):Option (ByteArray×ByteArray×Bool):=
 Option.bind (fq s sep) fun v1=>
 some (v1.1,v1.2.1,v1.2.2)
theorem yj (s:ByteArray) (sep:ByteArray):Le (rY s sep) (o6 s sep):=by
 unfold rY o6
 repeat' (first | with_reducible exact Le.refl _ | with_reducible exact og .. | with_reducible refine Le.gd _ ?_ | with_reducible refine Le.bif _ ?_ ?_ | with_reducible refine Le.bind ?_ (fun _=>?_) | with_reducible refine Le.sumK ?_ (fun _=>?_) | with_reducible refine Le.loop (fun _=>?_) _ | with_reducible refine Le.nilK ?_ ?_ | with_reducible refine Le.ifc _ ?_ ?_)
def dm (s:List ByteArray) (v:ByteArray):Int->Option (Int ⊕ (Unit ⊕ Int)):=fun s4=>
 bif decide (s4<(s.length:Int)) then
  gd (decide (0<=s4/\s4<(s.length:Int))) <|
  bif decide (v=(s.getD s4.toNat default)) then
   some (.inr (.inr s4))
  else
   gd (Md .i64 (s4+(1:Int))) <|
   some (.inl (s4+(1:Int)))
 else
  some (.inr (.inl ()))
theorem lC (s:List ByteArray) (v:ByteArray) (sQ:_):Le (dm s v sQ) (dh s v sQ):=by
 unfold dm dh
 repeat' (first | with_reducible exact Le.refl _ | with_reducible refine Le.gd _ ?_ | with_reducible refine Le.bif _ ?_ ?_ | with_reducible refine Le.bind ?_ (fun _=>?_) | with_reducible refine Le.sumK ?_ (fun _=>?_) | with_reducible refine Le.loop (fun _=>?_) _ | with_reducible refine Le.nilK ?_ ?_ | with_reducible refine Le.ifc _ ?_ ?_)
def cf (s:List ByteArray) (v:ByteArray):Option Int:=
 sumK (
  nO 60 (dm s v) (0:Int)
 ) fun s1=>
 some (-1:Int)
theorem gK (s:List ByteArray) (v:ByteArray):Le (cf s v) (bC s v):=by
 unfold cf bC
 repeat' (first | with_reducible exact Le.refl _ | with_reducible exact lC .. | with_reducible refine Le.gd _ ?_ | with_reducible refine Le.bif _ ?_ ?_ | with_reducible refine Le.bind ?_ (fun _=>?_) | with_reducible refine Le.sumK ?_ (fun _=>?_) | with_reducible refine Le.loop (fun _=>?_) _ | with_reducible refine Le.nilK ?_ ?_ | with_reducible refine Le.ifc _ ?_ ?_)
def bL (r_:ae) (c:Int):Option (ae×Bool):=
 Option.bind (bif r_.failed then
  some true
 else
  some (decide (r_.rest=(⟨#[]⟩:ByteArray)))
 ) fun s1=>
 Option.bind (bif s1 then
  some true
 else
  gd (decide (0<=(0:Int)/\(0:Int)<(r_.rest.size:Int))) <|
  some (((r_.rest.data.getD (0:Int).toNat 0).toNat:Int) != c)
 ) fun s3=>
 bif s3 then
  some ((⟨r_.rest,r_.failed⟩:ae),false)
 else
  gd (decide (0<=(1:Int)/\(1:Int)<=(r_.rest.size:Int)/\(r_.rest.size:Int)<=(r_.rest.size:Int))) <|
  some ((⟨(r_.rest.extract (1:Int).toNat (r_.rest.size:Int).toNat),r_.failed⟩:ae),true)
theorem lv (r_:ae) (c:Int):Le (bL r_ c) (bu r_ c):=by
 unfold bL bu
 repeat' (first | with_reducible exact Le.refl _ | with_reducible refine Le.gd _ ?_ | with_reducible refine Le.bif _ ?_ ?_ | with_reducible refine Le.bind ?_ (fun _=>?_) | with_reducible refine Le.sumK ?_ (fun _=>?_) | with_reducible refine Le.loop (fun _=>?_) _ | with_reducible refine Le.nilK ?_ ?_ | with_reducible refine Le.ifc _ ?_ ?_)
def gL (r_:ae):Int->Option (Int ⊕ Int):=fun s4=>
 Option.bind (bif decide (s4<(r_.rest.size:Int)) then
  gd (decide (0<=s4/\s4<(r_.rest.size:Int))) <|
  some (decide ((97:Int)<=((r_.rest.data.getD s4.toNat 0).toNat:Int)))
 else
  some false
 ) fun s6=>
 Option.bind (bif s6 then
  gd (decide (0<=s4/\s4<(r_.rest.size:Int))) <|
  some (decide (((r_.rest.data.getD s4.toNat 0).toNat:Int)<=(122:Int)))
 else
  some false
 ) fun s9=>
 bif s9 then
  gd (Md .i64 (s4+(1:Int))) <|
  some (.inl (s4+(1:Int)))
 else
  some (.inr s4)
theorem p9 (r_:ae) (sQ:_):Le (gL r_ sQ) (gB r_ sQ):=by
 unfold gL gB
 repeat' (first | with_reducible exact Le.refl _ | with_reducible refine Le.gd _ ?_ | with_reducible refine Le.bif _ ?_ ?_ | with_reducible refine Le.bind ?_ (fun _=>?_) | with_reducible refine Le.sumK ?_ (fun _=>?_) | with_reducible refine Le.loop (fun _=>?_) _ | with_reducible refine Le.nilK ?_ ?_ | with_reducible refine Le.ifc _ ?_ ?_)
def iY (r_:ae):Option (ae×ByteArray):=
 Option.bind (
  nO 60 (gL r_) (0:Int)
 ) fun s1=>
 gd (decide (0<=(0:Int)/\(0:Int)<=s1/\s1<=(r_.rest.size:Int))) <|
 gd (decide (0<=s1/\s1<=(r_.rest.size:Int)/\(r_.rest.size:Int)<=(r_.rest.size:Int))) <|
 some ((⟨(r_.rest.extract s1.toNat (r_.rest.size:Int).toNat),r_.failed⟩:ae),(r_.rest.extract (0:Int).toNat s1.toNat))
theorem rz (r_:ae):Le (iY r_) (fF r_):=by
 unfold iY fF
 repeat' (first | with_reducible exact Le.refl _ | with_reducible exact p9 .. | with_reducible refine Le.gd _ ?_ | with_reducible refine Le.bif _ ?_ ?_ | with_reducible refine Le.bind ?_ (fun _=>?_) | with_reducible refine Le.sumK ?_ (fun _=>?_) | with_reducible refine Le.loop (fun _=>?_) _ | with_reducible refine Le.nilK ?_ ?_ | with_reducible refine Le.ifc _ ?_ ?_)
def dO (dN:ae->Int->Option (ae×aa)) (rcf:ae->Option (ae×aa)) (r_:ae):Option (ae×aa):=
 Option.bind (bL (⟨r_.rest,r_.failed⟩:ae) (40:Int)) fun v1=>
 bif v1.2 then
  Option.bind (dN (⟨v1.1.rest,v1.1.failed⟩:ae) (3:Int)) fun v3=>
  Option.bind (
   Option.bind (bL (⟨v3.1.rest,v3.1.failed⟩:ae) (41:Int)) fun v5=>
   bif !v5.2 then
    some (v5.1.rest,true)
   else
    some (v5.1.rest,v5.1.failed)
  ) fun s4=>
  some ((⟨s4.1,s4.2⟩:ae),(⟨v3.2.Op,v3.2.Name,v3.2.Kids⟩:aa))
 else
  Option.bind (bL (⟨v1.1.rest,v1.1.failed⟩:ae) (126:Int)) fun v7=>
  bif v7.2 then
   Option.bind (rcf (⟨v7.1.rest,v7.1.failed⟩:ae)) fun v9=>
   some ((⟨v9.1.rest,v9.1.failed⟩:ae),(⟨(6:Int),(⟨#[]⟩:ByteArray),([v9.2.inn]:List TXimpl_RelExpr)⟩:aa))
  else
   Option.bind (bL (⟨v7.1.rest,v7.1.failed⟩:ae) (43:Int)) fun v10=>
   bif v10.2 then
    Option.bind (rcf (⟨v10.1.rest,v10.1.failed⟩:ae)) fun v12=>
    some ((⟨v12.1.rest,v12.1.failed⟩:ae),(⟨(7:Int),(⟨#[]⟩:ByteArray),([v12.2.inn]:List TXimpl_RelExpr)⟩:aa))
   else
    Option.bind (iY (⟨v10.1.rest,v10.1.failed⟩:ae)) fun v13=>
    Option.bind (
     bif decide (v13.2=(⟨#[]⟩:ByteArray)) then
      some true
     else
      some v13.1.failed
    ) fun s14=>
    some ((⟨v13.1.rest,s14⟩:ae),(⟨(1:Int),v13.2,([]:List TXimpl_RelExpr)⟩:aa))
theorem mQ (dN:ae->Int->Option (ae×aa)) (qp:ae->Int->Option (ae×aa)) (hrcf156:∀ x0 x1,Le (dN x0 x1) (qp x0 x1)) (rcf:ae->Option (ae×aa)) (rcf':ae->Option (ae×aa)) (hrcf:∀ x0,Le (rcf x0) (rcf' x0)) (r_:ae):Le (dO dN rcf r_) (bU qp rcf' r_):=by
 unfold dO bU
 repeat' (first | with_reducible exact Le.refl _ | with_reducible exact lv .. | with_reducible exact rz .. | with_reducible exact hrcf156 .. | with_reducible exact hrcf .. | with_reducible refine Le.gd _ ?_ | with_reducible refine Le.bif _ ?_ ?_ | with_reducible refine Le.bind ?_ (fun _=>?_) | with_reducible refine Le.sumK ?_ (fun _=>?_) | with_reducible refine Le.loop (fun _=>?_) _ | with_reducible refine Le.nilK ?_ ?_ | with_reducible refine Le.ifc _ ?_ ?_)
def dP (dN:ae->Int->Option (ae×aa)):Nat->ae->Option (ae×aa)
 | 0=>fun _=>none
 | n+1=>dO dN (dP dN n)
def iZ (dN:ae->Int->Option (ae×aa)) (r_:ae):Option (ae×aa):=dP dN 40 r_
theorem gm (dN:ae->Int->Option (ae×aa)) (qp:ae->Int->Option (ae×aa)) (hrcf156:∀ x0 x1,Le (dN x0 x1) (qp x0 x1)):∀ (n m:Nat),n<=m->∀ x0,Le (dP dN n x0) (bw qp m x0)
 | 0,_,_=>fun x0 v h=>by cases h
 | n+1,0,h=>absurd h (Nat.not_succ_le_zero _)
 | n+1,m+1,h=>fun x0=>mQ dN qp hrcf156 _ _ (gm dN qp hrcf156 n m (Nat.le_of_succ_le_succ h)) x0
theorem nP (dN:ae->Int->Option (ae×aa)) (qp:ae->Int->Option (ae×aa)) (hrcf156:∀ x0 x1,Le (dN x0 x1) (qp x0 x1)) (r_:ae):Le (iZ dN r_) (eO qp r_):=fun v h=>xb 40 fun m hm=>gm dN qp hrcf156 40 m hm r_ v h
def i9 (op:Int):Option (Int×ByteArray×Int):=
 bif (op==(1:Int)) then
  some ((0:Int),(⟨#[]⟩:ByteArray),(0:Int))
 else
  bif (op==(2:Int)) then
   some ((3:Int),(⟨#[124]⟩:ByteArray),(2:Int))
  else
   bif (op==(3:Int)) then
    some ((2:Int),(⟨#[38]⟩:ByteArray),(2:Int))
   else
    bif (op==(4:Int)) then
     some ((2:Int),(⟨#[45]⟩:ByteArray),(2:Int))
    else
     bif (op==(5:Int)) then
      some ((1:Int),(⟨#[59]⟩:ByteArray),(2:Int))
     else
      bif (op==(6:Int)) then
       some ((0:Int),(⟨#[126]⟩:ByteArray),(1:Int))
      else
       bif (op==(7:Int)) then
        some ((0:Int),(⟨#[43]⟩:ByteArray),(1:Int))
       else
        some ((0:Int),(⟨#[]⟩:ByteArray),(-1:Int))
theorem mF (op:Int):Le (i9 op) (gD op):=by
 unfold i9 gD
 repeat' (first | with_reducible exact Le.refl _ | with_reducible refine Le.gd _ ?_ | with_reducible refine Le.bif _ ?_ ?_ | with_reducible refine Le.bind ?_ (fun _=>?_) | with_reducible refine Le.sumK ?_ (fun _=>?_) | with_reducible refine Le.loop (fun _=>?_) _ | with_reducible refine Le.nilK ?_ ?_ | with_reducible refine Le.ifc _ ?_ ?_)
def fu (level:Int):(ByteArray×Bool×Int×Int)->Option ((ByteArray×Bool×Int×Int) ⊕ (ByteArray×Bool×Int)):=fun s12=>
 bif decide (s12.2.2.1<(([(2:Int),(3:Int),(4:Int),(5:Int)]:LI).length:Int)) then
  Option.bind (
   gd (decide (0<=s12.2.2.1/\s12.2.2.1<(([(2:Int),(3:Int),(4:Int),(5:Int)]:LI).length:Int))) <|
   Option.bind (i9 (([(2:Int),(3:Int),(4:Int),(5:Int)]:LI).getD s12.2.2.1.toNat default)) fun v17=>
   Option.bind (bif (s12.2.2.2==(0:Int)) then
    some (v17.1==level)
   else
    some false
   ) fun s18=>
   bif s18 then
    gd (decide (0<=(0:Int)/\(0:Int)<(v17.2.1.size:Int))) <|
    Option.bind (bL (⟨s12.1,s12.2.1⟩:ae) ((v17.2.1.data.getD (0:Int).toNat 0).toNat:Int)) fun v22=>
    bif v22.2 then
     some (v22.1.rest,v22.1.failed,(([(2:Int),(3:Int),(4:Int),(5:Int)]:LI).getD s12.2.2.1.toNat default))
    else
     some (v22.1.rest,v22.1.failed,s12.2.2.2)
   else
    some (s12.1,s12.2.1,s12.2.2.2)
  ) fun s15=>
  gd (Md .i64 (s12.2.2.1+(1:Int))) <|
  some (.inl (s15.1,s15.2.1,(s12.2.2.1+(1:Int)),s15.2.2))
 else
  some (.inr (s12.1,s12.2.1,s12.2.2.2))
theorem oh (level:Int) (sQ:_):Le (fu level sQ) (fo level sQ):=by
 unfold fu fo
 repeat' (first | with_reducible exact Le.refl _ | with_reducible exact mF .. | with_reducible exact lv .. | with_reducible refine Le.gd _ ?_ | with_reducible refine Le.bif _ ?_ ?_ | with_reducible refine Le.bind ?_ (fun _=>?_) | with_reducible refine Le.sumK ?_ (fun _=>?_) | with_reducible refine Le.loop (fun _=>?_) _ | with_reducible refine Le.nilK ?_ ?_ | with_reducible refine Le.ifc _ ?_ ?_)
def fT (rcf:ae->Int->Option (ae×aa)) (level:Int):(ByteArray×Bool×Int×ByteArray×(List TXimpl_RelExpr))->Option ((ByteArray×Bool×Int×ByteArray×(List TXimpl_RelExpr)) ⊕ (ae×aa)):=fun s7=>
 Option.bind (
  nO 60 (fu level) (s7.1,s7.2.1,(0:Int),(0:Int))
 ) fun s9=>
 bif (s9.2.2==(0:Int)) then
  some (.inr ((⟨s9.1,s9.2.1⟩:ae),(⟨s7.2.2.1,s7.2.2.2.1,s7.2.2.2.2⟩:aa)))
 else
  Option.bind (rcf (⟨s9.1,s9.2.1⟩:ae) (level-(1:Int))) fun v26=>
  some (.inl (v26.1.rest,v26.1.failed,s9.2.2,(⟨#[]⟩:ByteArray),([(⟨s7.2.2.1,s7.2.2.2.1,s7.2.2.2.2⟩:aa).inn,v26.2.inn]:List TXimpl_RelExpr)))
theorem o8 (rcf:ae->Int->Option (ae×aa)) (rcf':ae->Int->Option (ae×aa)) (hrcf:∀ x0 x1,Le (rcf x0 x1) (rcf' x0 x1)) (level:Int) (sQ:_):Le (fT rcf level sQ) (fQ rcf' level sQ):=by
 unfold fT fQ
 repeat' (first | with_reducible exact Le.refl _ | with_reducible exact oh .. | with_reducible exact hrcf .. | with_reducible refine Le.gd _ ?_ | with_reducible refine Le.bif _ ?_ ?_ | with_reducible refine Le.bind ?_ (fun _=>?_) | with_reducible refine Le.sumK ?_ (fun _=>?_) | with_reducible refine Le.loop (fun _=>?_) _ | with_reducible refine Le.nilK ?_ ?_ | with_reducible refine Le.ifc _ ?_ ?_)
def gM (rcf:ae->Int->Option (ae×aa)) (r_:ae) (level:Int):Option (ae×aa):=
 bif (level==(0:Int)) then
  Option.bind (iZ rcf (⟨r_.rest,r_.failed⟩:ae)) fun v2=>
  some ((⟨v2.1.rest,v2.1.failed⟩:ae),(⟨v2.2.Op,v2.2.Name,v2.2.Kids⟩:aa))
 else
  gd (Md .i64 (level-(1:Int))) <|
  Option.bind (rcf (⟨r_.rest,r_.failed⟩:ae) (level-(1:Int))) fun v4=>
  nO 60 (fT rcf level) (v4.1.rest,v4.1.failed,v4.2.Op,v4.2.Name,v4.2.Kids)
theorem qd (rcf:ae->Int->Option (ae×aa)) (rcf':ae->Int->Option (ae×aa)) (hrcf:∀ x0 x1,Le (rcf x0 x1) (rcf' x0 x1)) (r_:ae) (level:Int):Le (gM rcf r_ level) (dK rcf' r_ level):=by
 unfold gM dK
 repeat' (first | with_reducible exact Le.refl _ | with_reducible exact nP (hrcf156:=hrcf) .. | with_reducible exact o8 (hrcf:=hrcf) .. | with_reducible exact hrcf .. | with_reducible refine Le.gd _ ?_ | with_reducible refine Le.bif _ ?_ ?_ | with_reducible refine Le.bind ?_ (fun _=>?_) | with_reducible refine Le.sumK ?_ (fun _=>?_) | with_reducible refine Le.loop (fun _=>?_) _ | with_reducible refine Le.nilK ?_ ?_ | with_reducible refine Le.ifc _ ?_ ?_)
def gP:Nat->ae->Int->Option (ae×aa)
 | 0=>fun _ _=>none
 | n+1=>gM (gP n)
def mS (r_:ae) (level:Int):Option (ae×aa):=gP 40 r_ level
theorem ja:∀ (n m:Nat),n<=m->∀ x0 x1,Le (gP n x0 x1) (bF m x0 x1)
 | 0,_,_=>fun x0 x1 v h=>by cases h
 | n+1,0,h=>absurd h (Nat.not_succ_le_zero _)
 | n+1,m+1,h=>fun x0 x1=>qd _ _ (ja n m (Nat.le_of_succ_le_succ h)) x0 x1
theorem qP (r_:ae) (level:Int):Le (mS r_ level) (iG r_ level):=fun v h=>xb 40 fun m hm=>ja 40 m hm r_ level v h
def dw (s:List ByteArray) (v:ByteArray):Option Bool:=
 Option.bind (cf s v) fun v1=>
 some (decide ((0:Int)<=v1))
theorem lD (s:List ByteArray) (v:ByteArray):Le (dw s v) (bN s v):=by
 unfold dw bN
 repeat' (first | with_reducible exact Le.refl _ | with_reducible exact gK .. | with_reducible refine Le.gd _ ?_ | with_reducible refine Le.bif _ ?_ ?_ | with_reducible refine Le.bind ?_ (fun _=>?_) | with_reducible refine Le.sumK ?_ (fun _=>?_) | with_reducible refine Le.loop (fun _=>?_) _ | with_reducible refine Le.nilK ?_ ?_ | with_reducible refine Le.ifc _ ?_ ?_)
def ol (name:ByteArray):Option Bool:=
 Option.bind (dw Cg name) fun v1=>
 some v1
theorem vw (name:ByteArray):Le (ol name) (kK name):=by
 unfold ol kK
 repeat' (first | with_reducible exact Le.refl _ | with_reducible exact lD .. | with_reducible refine Le.gd _ ?_ | with_reducible refine Le.bif _ ?_ ?_ | with_reducible refine Le.bind ?_ (fun _=>?_) | with_reducible refine Le.sumK ?_ (fun _=>?_) | with_reducible refine Le.loop (fun _=>?_) _ | with_reducible refine Le.nilK ?_ ?_ | with_reducible refine Le.ifc _ ?_ ?_)
def mG (rcf:aa->Int->Option Int) (e_:aa) (most:Int):(Int×Int)->Option ((Int×Int) ⊕ Int):=fun s13=>
 bif decide (s13.1<(e_.Kids.length:Int)) then
  gd (decide (0<=s13.1/\s13.1<(e_.Kids.length:Int))) <|
  gd (Md .i64 (most-(1:Int))) <|
  Option.bind (rcf (⟨((e_.Kids.getD s13.1.toNat default).out).Op,((e_.Kids.getD s13.1.toNat default).out).Name,((e_.Kids.getD s13.1.toNat default).out).Kids⟩:aa) (most-(1:Int))) fun v18=>
  gd (Md .i64 (s13.2+v18)) <|
  bif decide ((40:Int)<(s13.2+v18)) then
   some (.inr (s13.2+v18))
  else
   gd (Md .i64 (s13.1+(1:Int))) <|
   some (.inl ((s13.1+(1:Int)),(s13.2+v18)))
 else
  some (.inr s13.2)
theorem uf (rcf:aa->Int->Option Int) (rcf':aa->Int->Option Int) (hrcf:∀ x0 x1,Le (rcf x0 x1) (rcf' x0 x1)) (e_:aa) (most:Int) (sQ:_):Le (mG rcf e_ most sQ) (ma rcf' e_ most sQ):=by
 unfold mG ma
 repeat' (first | with_reducible exact Le.refl _ | with_reducible exact hrcf .. | with_reducible refine Le.gd _ ?_ | with_reducible refine Le.bif _ ?_ ?_ | with_reducible refine Le.bind ?_ (fun _=>?_) | with_reducible refine Le.sumK ?_ (fun _=>?_) | with_reducible refine Le.loop (fun _=>?_) _ | with_reducible refine Le.nilK ?_ ?_ | with_reducible refine Le.ifc _ ?_ ?_)
def om (rcf:aa->Int->Option Int) (e_:aa) (most:Int):Option Int:=
 Option.bind (i9 e_.Op) fun v1=>
 sumK (
  Option.bind (
   bif (most==(0:Int)) then
    some true
   else
    bif ((e_.Kids.length:Int) != v1.2.2) then
     some true
    else
     Option.bind (ol e_.Name) fun v6=>
     bif (!((e_.Op==(1:Int))==v6)) then
      some true
     else
      bif (e_.Op != (1:Int)) then
       some (!decide (e_.Name=(⟨#[]⟩:ByteArray)))
      else
       some false
  ) fun s3=>
  bif s3 then
   some (.inr (41:Int))
  else
   some (.inl ())
 ) fun s2=>
 Option.bind (
  nO 60 (mG rcf e_ most) ((0:Int),(1:Int))
 ) fun s10=>
 some s10
theorem vz (rcf:aa->Int->Option Int) (rcf':aa->Int->Option Int) (hrcf:∀ x0 x1,Le (rcf x0 x1) (rcf' x0 x1)) (e_:aa) (most:Int):Le (om rcf e_ most) (kL rcf' e_ most):=by
 unfold om kL
 repeat' (first | with_reducible exact Le.refl _ | with_reducible exact mF .. | with_reducible exact vw .. | with_reducible exact uf (hrcf:=hrcf) .. | with_reducible exact hrcf .. | with_reducible refine Le.gd _ ?_ | with_reducible refine Le.bif _ ?_ ?_ | with_reducible refine Le.bind ?_ (fun _=>?_) | with_reducible refine Le.sumK ?_ (fun _=>?_) | with_reducible refine Le.loop (fun _=>?_) _ | with_reducible refine Le.nilK ?_ ?_ | with_reducible refine Le.ifc _ ?_ ?_)
def oq:Nat->aa->Int->Option Int
 | 0=>fun _ _=>none
 | n+1=>om (oq n)
def uV (e_:aa) (most:Int):Option Int:=oq 40 e_ most
theorem qf:∀ (n m:Nat),n<=m->∀ x0 x1,Le (oq n x0 x1) (iC m x0 x1)
 | 0,_,_=>fun x0 x1 v h=>by cases h
 | n+1,0,h=>absurd h (Nat.not_succ_le_zero _)
 | n+1,m+1,h=>fun x0 x1=>vz _ _ (qf n m (Nat.le_of_succ_le_succ h)) x0 x1
theorem xn (e_:aa) (most:Int):Le (uV e_ most) (qK e_ most):=fun v h=>xb 40 fun m hm=>qf 40 m hm e_ most v h
def il (e_:aa):Option Bool:=
 Option.bind (uV e_ (12:Int)) fun v1=>
 some (decide (v1<=(40:Int)))
theorem mU (e_:aa):Le (il e_) (eP e_):=by
 unfold il eP
 repeat' (first | with_reducible exact Le.refl _ | with_reducible exact xn .. | with_reducible refine Le.gd _ ?_ | with_reducible refine Le.bif _ ?_ ?_ | with_reducible refine Le.bind ?_ (fun _=>?_) | with_reducible refine Le.sumK ?_ (fun _=>?_) | with_reducible refine Le.loop (fun _=>?_) _ | with_reducible refine Le.nilK ?_ ?_ | with_reducible refine Le.ifc _ ?_ ?_)
def ou (rcf:aa->Int->Option ByteArray) (e_:aa) (most:Int):Option ByteArray:=
 Option.bind (i9 e_.Op) fun v1=>
 Option.bind (
  bif (v1.2.2==(1:Int)) then
   gd (decide (0<=(0:Int)/\(0:Int)<(e_.Kids.length:Int))) <|
   Option.bind (rcf ((e_.Kids.getD (0:Int).toNat default).out) (0:Int)) fun v5=>
   gd (decide (v1.2.1.size+v5.size<=9223372036854775807)) <|
   some (v1.2.1++v5)
  else
   bif (v1.2.2==(2:Int)) then
    gd (decide (0<=(0:Int)/\(0:Int)<(e_.Kids.length:Int))) <|
    Option.bind (rcf ((e_.Kids.getD (0:Int).toNat default).out) v1.1) fun v9=>
    gd (decide (v9.size+v1.2.1.size<=9223372036854775807)) <|
    gd (decide (0<=(1:Int)/\(1:Int)<(e_.Kids.length:Int))) <|
    gd (Md .i64 (v1.1-(1:Int))) <|
    Option.bind (rcf ((e_.Kids.getD (1:Int).toNat default).out) (v1.1-(1:Int))) fun v13=>
    gd (decide ((v9++v1.2.1).size+v13.size<=9223372036854775807)) <|
    some ((v9++v1.2.1)++v13)
   else
    some e_.Name
 ) fun s2=>
 bif decide (most<v1.1) then
  gd (decide ((⟨#[40]⟩:ByteArray).size+s2.size<=9223372036854775807)) <|
  gd (decide (((⟨#[40]⟩:ByteArray)++s2).size+(⟨#[41]⟩:ByteArray).size<=9223372036854775807)) <|
  some (((⟨#[40]⟩:ByteArray)++s2)++(⟨#[41]⟩:ByteArray))
 else
  some s2
theorem vA (rcf:aa->Int->Option ByteArray) (rcf':aa->Int->Option ByteArray) (hrcf:∀ x0 x1,Le (rcf x0 x1) (rcf' x0 x1)) (e_:aa) (most:Int):Le (ou rcf e_ most) (kM rcf' e_ most):=by
 unfold ou kM
 repeat' (first | with_reducible exact Le.refl _ | with_reducible exact mF .. | with_reducible exact hrcf .. | with_reducible refine Le.gd _ ?_ | with_reducible refine Le.bif _ ?_ ?_ | with_reducible refine Le.bind ?_ (fun _=>?_) | with_reducible refine Le.sumK ?_ (fun _=>?_) | with_reducible refine Le.loop (fun _=>?_) _ | with_reducible refine Le.nilK ?_ ?_ | with_reducible refine Le.ifc _ ?_ ?_)
def oz:Nat->aa->Int->Option ByteArray
 | 0=>fun _ _=>none
 | n+1=>ou (oz n)
def uW (e_:aa) (most:Int):Option ByteArray:=oz 40 e_ most
theorem qg:∀ (n m:Nat),n<=m->∀ x0 x1,Le (oz n x0 x1) (iD m x0 x1)
 | 0,_,_=>fun x0 x1 v h=>by cases h
 | n+1,0,h=>absurd h (Nat.not_succ_le_zero _)
 | n+1,m+1,h=>fun x0 x1=>vA _ _ (qg n m (Nat.le_of_succ_le_succ h)) x0 x1
theorem xp (e_:aa) (most:Int):Le (uW e_ most) (qL e_ most):=fun v h=>xb 40 fun m hm=>qg 40 m hm e_ most v h
def gq (e_:aa):Option ByteArray:=
 Option.bind (il e_) fun v1=>
 bif !v1 then
  some (⟨#[]⟩:ByteArray)
 else
  Option.bind (uW e_ (3:Int)) fun v3=>
  some v3
theorem mH (e_:aa):Le (gq e_) (dQ e_):=by
 unfold gq dQ
 repeat' (first | with_reducible exact Le.refl _ | with_reducible exact mU .. | with_reducible exact xp .. | with_reducible refine Le.gd _ ?_ | with_reducible refine Le.bif _ ?_ ?_ | with_reducible refine Le.bind ?_ (fun _=>?_) | with_reducible refine Le.sumK ?_ (fun _=>?_) | with_reducible refine Le.loop (fun _=>?_) _ | with_reducible refine Le.nilK ?_ ?_ | with_reducible refine Le.ifc _ ?_ ?_)
def lg (text:ByteArray):Option (aa×Bool):=
 bif decide ((300:Int)<(text.size:Int)) then
  some ((⟨(0:Int),(⟨#[]⟩:ByteArray),([]:List TXimpl_RelExpr)⟩:aa),false)
 else
  Option.bind (mS (⟨text,false⟩:ae) (3:Int)) fun v2=>
  Option.bind (bif v2.1.failed then
   some true
  else
   some (!decide (v2.1.rest=(⟨#[]⟩:ByteArray)))
  ) fun s3=>
  Option.bind (bif s3 then
   some true
  else
   some (decide (text=(⟨#[]⟩:ByteArray)))
  ) fun s5=>
  Option.bind (bif s5 then
   some true
  else
   Option.bind (gq (⟨v2.2.Op,v2.2.Name,v2.2.Kids⟩:aa)) fun v9=>
   some (!decide (v9=text))
  ) fun s7=>
  bif s7 then
   some ((⟨(0:Int),(⟨#[]⟩:ByteArray),([]:List TXimpl_RelExpr)⟩:aa),false)
  else
   some ((⟨v2.2.Op,v2.2.Name,v2.2.Kids⟩:aa),true)
theorem tv (text:ByteArray):Le (lg text) (ij text):=by
 unfold lg ij
 repeat' (first | with_reducible exact Le.refl _ | with_reducible exact qP .. | with_reducible exact mH .. | with_reducible refine Le.gd _ ?_ | with_reducible refine Le.bif _ ?_ ?_ | with_reducible refine Le.bind ?_ (fun _=>?_) | with_reducible refine Le.sumK ?_ (fun _=>?_) | with_reducible refine Le.loop (fun _=>?_) _ | with_reducible refine Le.nilK ?_ ?_ | with_reducible refine Le.ifc _ ?_ ?_)
def jY (v2:(List ByteArray)):((List ai)×Int)->Option (((List ai)×Int) ⊕ ((List ai) ⊕ ((List ai)×Bool))):=fun s8=>
 bif decide (s8.2<(v2.length:Int)) then
  gd (decide (0<=s8.2/\s8.2<(v2.length:Int))) <|
  Option.bind (rY (v2.getD s8.2.toNat default) (⟨#[32]⟩:ByteArray)) fun v15=>
  Option.bind (cf zZ v15.1) fun v16=>
  Option.bind (lg v15.2.1) fun v17=>
  Option.bind (bif decide (v16<(1:Int)) then
   some true
  else
   some (!v17.2)
  ) fun s18=>
  bif s18 then
   some (.inr (.inr (([]:List ai),false)))
  else
   gd (dW (s8.1.length+1) 56) <|
   gd (Md .i64 (s8.2+(1:Int))) <|
   some (.inl ((s8.1++[(⟨v16,(⟨v17.1.Op,v17.1.Name,v17.1.Kids⟩:aa)⟩:ai)]),(s8.2+(1:Int))))
 else
  some (.inr (.inl s8.1))
theorem rZ (v2:(List ByteArray)) (sQ:_):Le (jY v2 sQ) (gp v2 sQ):=by
 unfold jY gp
 repeat' (first | with_reducible exact Le.refl _ | with_reducible exact yj .. | with_reducible exact gK .. | with_reducible exact tv .. | with_reducible refine Le.gd _ ?_ | with_reducible refine Le.bif _ ?_ ?_ | with_reducible refine Le.bind ?_ (fun _=>?_) | with_reducible refine Le.sumK ?_ (fun _=>?_) | with_reducible refine Le.loop (fun _=>?_) _ | with_reducible refine Le.nilK ?_ ?_ | with_reducible refine Le.ifc _ ?_ ?_)
def o9 (x:Int) (low:Int) (high:Int):Option Bool:=
 Option.bind (bif decide (low<=x) then
  some (decide (x<=high))
 else
  some false
 ) fun s1=>
 some s1
theorem sU (x:Int) (low:Int) (high:Int):Le (o9 x low high) (mb x low high):=by
 unfold o9 mb
 repeat' (first | with_reducible exact Le.refl _ | with_reducible refine Le.gd _ ?_ | with_reducible refine Le.bif _ ?_ ?_ | with_reducible refine Le.bind ?_ (fun _=>?_) | with_reducible refine Le.sumK ?_ (fun _=>?_) | with_reducible refine Le.loop (fun _=>?_) _ | with_reducible refine Le.nilK ?_ ?_ | with_reducible refine Le.ifc _ ?_ ?_)
def li (r_:ai):Option Bool:=
 Option.bind (o9 r_.Kind (1:Int) (3:Int)) fun v1=>
 Option.bind (bif !v1 then
  some true
 else
  Option.bind (il r_.Expr) fun v4=>
  some (!v4)
 ) fun s2=>
 some s2
theorem tz (r_:ai):Le (li r_) (ik r_):=by
 unfold li ik
 repeat' (first | with_reducible exact Le.refl _ | with_reducible exact sU .. | with_reducible exact mU .. | with_reducible refine Le.gd _ ?_ | with_reducible refine Le.bif _ ?_ ?_ | with_reducible refine Le.bind ?_ (fun _=>?_) | with_reducible refine Le.sumK ?_ (fun _=>?_) | with_reducible refine Le.loop (fun _=>?_) _ | with_reducible refine Le.nilK ?_ ?_ | with_reducible refine Le.ifc _ ?_ ?_)
def aQ (s:List ai):Int->Option (Int ⊕ (Unit ⊕ Int)):=fun s4=>
 bif decide (s4<(s.length:Int)) then
  gd (decide (0<=s4/\s4<(s.length:Int))) <|
  Option.bind (li (s.getD s4.toNat default)) fun v8=>
  bif v8 then
   some (.inr (.inr s4))
  else
   gd (Md .i64 (s4+(1:Int))) <|
   some (.inl (s4+(1:Int)))
 else
  some (.inr (.inl ()))
theorem cF (s:List ai) (sQ:_):Le (aQ s sQ) (aO s sQ):=by
 unfold aQ aO
 repeat' (first | with_reducible exact Le.refl _ | with_reducible exact tz .. | with_reducible refine Le.gd _ ?_ | with_reducible refine Le.bif _ ?_ ?_ | with_reducible refine Le.bind ?_ (fun _=>?_) | with_reducible refine Le.sumK ?_ (fun _=>?_) | with_reducible refine Le.loop (fun _=>?_) _ | with_reducible refine Le.nilK ?_ ?_ | with_reducible refine Le.ifc _ ?_ ?_)
def aU (s:List ai):Option Int:=
 sumK (
  nO 60 (aQ s) (0:Int)
 ) fun s1=>
 some (-1:Int)
theorem cZ (s:List ai):Le (aU s) (aF s):=by
 unfold aU aF
 repeat' (first | with_reducible exact Le.refl _ | with_reducible exact cF .. | with_reducible refine Le.gd _ ?_ | with_reducible refine Le.bif _ ?_ ?_ | with_reducible refine Le.bind ?_ (fun _=>?_) | with_reducible refine Le.sumK ?_ (fun _=>?_) | with_reducible refine Le.loop (fun _=>?_) _ | with_reducible refine Le.nilK ?_ ?_ | with_reducible refine Le.ifc _ ?_ ?_)
def aR (s:List ai):Option Bool:=
 Option.bind (aU s) fun v1=>
 some (decide ((0:Int)<=v1))
theorem cG (s:List ai):Le (aR s) (aC s):=by
 unfold aR aC
 repeat' (first | with_reducible exact Le.refl _ | with_reducible exact cZ .. | with_reducible refine Le.gd _ ?_ | with_reducible refine Le.bif _ ?_ ?_ | with_reducible refine Le.bind ?_ (fun _=>?_) | with_reducible refine Le.sumK ?_ (fun _=>?_) | with_reducible refine Le.loop (fun _=>?_) _ | with_reducible refine Le.nilK ?_ ?_ | with_reducible refine Le.ifc _ ?_ ?_)
def nA (m:List ai):Option Bool:=
 Option.bind (o9 (m.length:Int) (1:Int) (5:Int)) fun v1=>
 Option.bind (bif v1 then
  Option.bind (aR m) fun v4=>
  some (!v4)
 else
  some false
 ) fun s2=>
 some s2
theorem oP (m:List ai):Le (nA m) (eG m):=by
 unfold nA eG
 repeat' (first | with_reducible exact Le.refl _ | with_reducible exact sU .. | with_reducible exact cG .. | with_reducible refine Le.gd _ ?_ | with_reducible refine Le.bif _ ?_ ?_ | with_reducible refine Le.bind ?_ (fun _=>?_) | with_reducible refine Le.sumK ?_ (fun _=>?_) | with_reducible refine Le.loop (fun _=>?_) _ | with_reducible refine Le.nilK ?_ ?_ | with_reducible refine Le.ifc _ ?_ ?_)
def jb (m:List ai):((List ByteArray)×Int)->Option (((List ByteArray)×Int) ⊕ (List ByteArray)):=fun s8=>
 bif decide (s8.2<(m.length:Int)) then
  gd (decide (0<=s8.2/\s8.2<(m.length:Int))) <|
  gd (decide (0<=(m.getD s8.2.toNat default).Kind/\(m.getD s8.2.toNat default).Kind<4)) <|
  gd (decide ((zZ.getD ((m.getD s8.2.toNat default).Kind).toNat default).size+(⟨#[32]⟩:ByteArray).size<=9223372036854775807)) <|
  Option.bind (gq (⟨((m.getD s8.2.toNat default).Expr).Op,((m.getD s8.2.toNat default).Expr).Name,((m.getD s8.2.toNat default).Expr).Kids⟩:aa)) fun v15=>
  gd (decide (((zZ.getD ((m.getD s8.2.toNat default).Kind).toNat default)++(⟨#[32]⟩:ByteArray)).size+v15.size<=9223372036854775807)) <|
  gd (decide (0<=s8.2/\s8.2<(s8.1.length:Int))) <|
  gd (Md .i64 (s8.2+(1:Int))) <|
  some (.inl ((s8.1.set s8.2.toNat (((zZ.getD ((m.getD s8.2.toNat default).Kind).toNat default)++(⟨#[32]⟩:ByteArray))++v15)),(s8.2+(1:Int))))
 else
  some (.inr s8.1)
theorem rA (m:List ai) (sQ:_):Le (jb m sQ) (fG m sQ):=by
 unfold jb fG
 repeat' (first | with_reducible exact Le.refl _ | with_reducible exact mH .. | with_reducible refine Le.gd _ ?_ | with_reducible refine Le.bif _ ?_ ?_ | with_reducible refine Le.bind ?_ (fun _=>?_) | with_reducible refine Le.sumK ?_ (fun _=>?_) | with_reducible refine Le.loop (fun _=>?_) _ | with_reducible refine Le.nilK ?_ ?_ | with_reducible refine Le.ifc _ ?_ ?_)
def qQ (elems:List ByteArray) (sep:ByteArray):Option ByteArray:=
 bif ((elems.length:Int)==(0:Int)) then
  some (⟨#[]⟩:ByteArray)
 else
  bif ((elems.length:Int)==(1:Int)) then
   gd (decide (0<=(0:Int)/\(0:Int)<(elems.length:Int))) <|
   some (elems.getD (0:Int).toNat default)
  else
   none
theorem xq (elems:List ByteArray) (sep:ByteArray):Le (qQ elems sep) (nI elems sep):=by
 unfold qQ nI
 repeat' (first | with_reducible exact Le.refl _ | with_reducible refine Le.gd _ ?_ | with_reducible refine Le.bif _ ?_ ?_ | with_reducible refine Le.bind ?_ (fun _=>?_) | with_reducible refine Le.sumK ?_ (fun _=>?_) | with_reducible refine Le.loop (fun _=>?_) _ | with_reducible refine Le.nilK ?_ ?_ | with_reducible refine Le.ifc _ ?_ ?_)
def mI (m:List ai):Option ByteArray:=
 Option.bind (nA m) fun v1=>
 bif !v1 then
  some (⟨#[]⟩:ByteArray)
 else
  gd (decide (0<=(m.length:Int)/\(m.length:Int)<=(m.length:Int)/\(m.length:Int)*((16:Nat):Int)<=140737488355328/\(m.length:Int)<=140737488355328)) <|
  Option.bind (
   nO 60 (jb m) ((List.replicate (m.length:Int).toNat (default:ByteArray)),(0:Int))
  ) fun s4=>
  Option.bind (qQ s4 (⟨#[47]⟩:ByteArray)) fun v20=>
  some v20
theorem ug (m:List ai):Le (mI m) (iN m):=by
 unfold mI iN
 repeat' (first | with_reducible exact Le.refl _ | with_reducible exact oP .. | with_reducible exact rA .. | with_reducible exact xq .. | with_reducible refine Le.gd _ ?_ | with_reducible refine Le.bif _ ?_ ?_ | with_reducible refine Le.bind ?_ (fun _=>?_) | with_reducible refine Le.sumK ?_ (fun _=>?_) | with_reducible refine Le.loop (fun _=>?_) _ | with_reducible refine Le.nilK ?_ ?_ | with_reducible refine Le.ifc _ ?_ ?_)
def nB (text:ByteArray):Option ((List ai)×Bool):=
 sumK (
  Option.bind (p8 text (⟨#[47]⟩:ByteArray)) fun v2=>
  nO 60 (jY v2) (([]:List ai),(0:Int))
 ) fun s1=>
 Option.bind (mI s1) fun v26=>
 bif (!decide (v26=text)) then
  some (([]:List ai),false)
 else
  some (s1,true)
theorem uJ (text:ByteArray):Le (nB text) (jp text):=by
 unfold nB jp
 repeat' (first | with_reducible exact Le.refl _ | with_reducible exact wD .. | with_reducible exact rZ .. | with_reducible exact ug .. | with_reducible refine Le.gd _ ?_ | with_reducible refine Le.bif _ ?_ ?_ | with_reducible refine Le.bind ?_ (fun _=>?_) | with_reducible refine Le.sumK ?_ (fun _=>?_) | with_reducible refine Le.loop (fun _=>?_) _ | with_reducible refine Le.nilK ?_ ?_ | with_reducible refine Le.ifc _ ?_ ?_)
def uX (name:ByteArray):Option ((List ai)×Bool):=
 Option.bind (n9 name) fun v1=>
 Option.bind (nB v1) fun v2=>
 some (v2.1,v2.2)
theorem xu (name:ByteArray):Le (uX name) (kx name):=by
 unfold uX kx
 repeat' (first | with_reducible exact Le.refl _ | with_reducible exact vu .. | with_reducible exact uJ .. | with_reducible refine Le.gd _ ?_ | with_reducible refine Le.bif _ ?_ ?_ | with_reducible refine Le.bind ?_ (fun _=>?_) | with_reducible refine Le.sumK ?_ (fun _=>?_) | with_reducible refine Le.loop (fun _=>?_) _ | with_reducible refine Le.nilK ?_ ?_ | with_reducible refine Le.ifc _ ?_ ?_)
def Mo {α:Type} (x:Option α) (P:α->Prop):Prop:=∃ v,x=some v/\P v
section
variable {α β S E:Type} {P:α->Prop} {Q:β->Prop} {x y:Option α}
theorem Mo.pure {v:α} (h:P v):Mo (some v) P:=⟨v,rfl,h⟩
theorem Mo.mono {P':α->Prop} (h:Mo x P) (k:∀ v,P v->P' v):Mo x P':=by
 obtain ⟨v,e,p⟩:=h;exact ⟨v,e,k v p⟩
theorem Mo.bind {o:Option α} {f:α->Option β} (h:Mo o P) (k:∀ v,P v->Mo (f v) Q):Mo (o.bind f) Q:=by
 obtain ⟨v,rfl,p⟩:=h;exact k v p
theorem Mo.gd {b:Bool} (hb:b=true) (h:Mo x P):Mo (gd b x) P:=by rw [rS hb];exact h
theorem Mo.gdD {A:Prop} [Decidable A] (hb:A) (h:Mo x P):Mo (Go.Proofs.YtcmimhffgmckjaaGreatDoor.gd (decide A) x) P:=Mo.gd (decide_eq_true hb) h
theorem Mo.gdI {n:Int} (hb : -9223372036854775808<=n/\n<=9223372036854775807) (h:Mo x P):Mo (Go.Proofs.YtcmimhffgmckjaaGreatDoor.gd (Md .i64 n) x) P:=Mo.gd (DK hb) h
theorem Mo.gdY {n:Int} (hb:0<=n/\n<=255) (h:Mo x P):Mo (Go.Proofs.YtcmimhffgmckjaaGreatDoor.gd (Md .u8 n) x) P:=Mo.gd (Km hb) h
theorem Il {n m:Nat} (hn:n<=1048576) (hm:Nat.ble m 1000=true):dW n m=true:=by
 have h1:=nlb hm;have h2:n*m<=1048576*1000:=Nat.mul_le_mul hn h1;exact decide_eq_true ⟨by omega,by omega⟩
theorem Mo.gdC {n m:Nat} (hn:n<=1048576) (hm:Nat.ble m 1000=true) (h:Mo x P):Mo (Go.Proofs.YtcmimhffgmckjaaGreatDoor.gd (dW n m) x) P:=Mo.gd (Il hn hm) h
theorem Mo.bif {b:Bool} (h1:b=true->Mo x P) (h2:b=false->Mo y P):Mo (bif b then x else y) P:=by
 cases b with
 | true=>exact h1 rfl
 | false=>exact h2 rfl
theorem Mo.bifD {A:Prop} [Decidable A] (h1:A->Mo x P) (h2 : ¬ A->Mo y P):Mo (_root_.cond (decide A) x y) P:=
 Mo.bif (fun h=>h1 (of_decide_eq_true h)) (fun h=>h2 (of_decide_eq_false h))
theorem Mo.sum {W:Type} {PS:S->Prop} {PW:W->Prop} {a:Option (S ⊕ W)} {f:S->Option W} (h:Mo a fun z=>match z with
  | .inl s=>PS s
  | .inr w=>PW w) (k:∀ s,PS s->Mo (f s) PW):Mo (sumK a f) PW:=by
 obtain ⟨v,rfl,p⟩:=h
 match v,p with
 | .inl s,p=>exact k s p
 | .inr w,p=>exact ⟨w,rfl,p⟩
theorem Mo.loop {step:S->Option (S ⊕ E)} {R:E->Prop} (J:S->Prop) (mu:S->Nat) {s0:S} (h0:J s0) (h:∀ s,J s->Mo (step s) fun z=>match z with
  | .inl s'=>J s'/\mu s'<mu s
  | .inr x=>R x):Mo (aV step s0) R:=by
 have key:∀ (n:Nat) (s:S),mu s=n->J s->Mo (aV step s) R:=by
  intro n
  induction n using Nat.strongRecOn with
  | _ n ih=>
   intro s hs hj;obtain ⟨z,e,hz⟩:=h s hj;rw [kG,e]
   match z,hz with
   | .inl s',hz=>exact ih (mu s') (by omega) s' rfl hz.1
   | .inr x,hz=>exact ⟨x,rfl,hz⟩
 exact key _ s0 rfl h0
theorem Mo.eq {v:α} (h:Mo x (· = v)):x=some v:=by
 obtain ⟨u,e,rfl⟩:=h;exact e
theorem Mo.of {v:α} (h:x=some v) (p:P v):Mo x P:=⟨v,h,p⟩
end
section
variable {α β:Type} {x x' y y':Option α}
end
structure Mac (σ:Type) where
 mv:σ->LI
 af:σ->Int->σ
 ky:σ->ByteArray
 dn:σ->Bool
 oc:σ->LI
section
variable {σ:Type} (M:Mac σ)
inductive Rea (s0:σ):σ->Prop
 | base:Rea s0 s0
 | step {s:σ} {m:Int} (h:Rea s0 s) (hm:m∈M.mv s):Rea s0 (M.af s m)
variable {M} {s0:σ} {N:Nat}
def Done (M:Mac σ) (V:List σ) (outs:LL) (v:σ):Prop:=(∀ m∈M.mv v,M.af v m∈V)/\(M.dn v=true->M.oc v∈outs)
structure Srch (M:Mac σ) (s0:σ) (V stack:List σ) (outs:List (List Int)) (cur:Option (σ×Nat)):Prop where
 rea:∀ v∈V,Rea M s0 v
 base:s0∈V
 nd:V.Nodup
 sub:∀ v∈stack,v∈V
 all:∀ v∈V,v∈stack\/(∃ n,cur=some (v,n))\/Done M V outs v
 out:∀ o∈outs,∃ v∈V,M.dn v=true/\M.oc v=o
 len:outs.length+stack.length<=V.length
 cur_:∀ s n,cur=some (s,n)->s∈V/\(M.dn s=true->M.oc s∈outs)/\∀ j,j<n->∀ m,(M.mv s)[j]? = some m->M.af s m∈V
theorem Srch.new {V stack:List σ} {s:σ} {outs:LL} {n:Nat} {m:Int} (h:Srch M s0 V stack outs (some (s,n))) (hm:(M.mv s)[n]? = some m) (hv:M.af s m∉V):Srch M s0 (V++[M.af s m]) (stack++[M.af s m]) outs (some (s,n+1)) where
 rea:=fun v hv=>by
  rcases List.mem_append.1 hv with hv | hv
  ·exact h.rea v hv
  ·rw [List.mem_singleton.1 hv];exact .step (h.rea s (h.cur_ s n rfl).1) (List.mem_of_getElem? hm)
 base:=List.mem_append_left _ h.base
 nd:=by
  rw [List.nodup_append];exact ⟨h.nd,by simp,fun a ha b hb e=>hv (by rw [<- List.mem_singleton.1 hb,<- e];exact ha)⟩
 sub:=fun v hv=>by
  rcases List.mem_append.1 hv with hv | hv
  ·exact List.mem_append_left _ (h.sub v hv)
  ·exact List.mem_append_right _ hv
 all:=fun v hv=>by
  rcases List.mem_append.1 hv with hv | hv
  ·rcases h.all v hv with h1 | ⟨k,h1⟩ | ⟨h1,h2⟩
   ·exact .inl (List.mem_append_left _ h1)
   ·injection h1 with h1;injection h1 with h1 _;subst h1;exact .inr (.inl ⟨n+1,rfl⟩)
   ·exact .inr (.inr ⟨fun m hm=>List.mem_append_left _ (h1 m hm),h2⟩)
  ·exact .inl (List.mem_append_right _ hv)
 out:=fun o ho=>by
  obtain ⟨v,g1,g2⟩:=h.out o ho;exact ⟨v,List.mem_append_left _ g1,g2⟩
 len:=by
  have := h.len;simp only [lla,List.length_singleton];omega
 cur_:=fun t k e=>by
  injection e with e;injection e with e1 e2;subst e1 e2;obtain ⟨g1,g2,g3⟩:=h.cur_ s n rfl;refine ⟨List.mem_append_left _ g1,g2,fun j hj m' hm' => ?_⟩;rcases Nat.lt_or_ge j n with h' | h'
  ·exact List.mem_append_left _ (g3 j h' m' hm')
  ·obtain rfl:j=n:=by omega
   rw [hm] at hm';obtain rfl:=osl hm';exact List.mem_append_right _ (List.mem_singleton.2 rfl)
end
section
variable {σ:Type} [Inhabited σ] (mv:σ->Option (LI)) (af:σ->Int->Option σ) (ky:σ->Option ByteArray) (dn:σ->Option Bool) (oc:σ->Option (LI)) (srt:LL->Option (LL))
variable {mv af ky dn oc srt} {M:Mac σ} {s0:σ} {N:Nat}
end
def rdX (x:Mh):Bool:=x.Op==1||x.Op==5
def wrX (x:Mh):Bool:=x.Op==2||x.Op==3||x.Op==5
theorem F6 (x:Mh):Mo (dJ x) (· = rdX x):=by
 unfold dJ rdX;exact Mo.bind (P:=(· = (x.Op==1||x.Op==5))) (.bif (fun h => .pure (by rw [h];rfl)) fun h => .pure (by rw [h];rfl)) fun v hv => .pure hv
theorem Dl (x:Mh):Mo (df x) (· = wrX x):=by
 unfold df wrX;exact Mo.bind (P:=(· = (x.Op==2||x.Op==3))) (.bif (fun h => .pure (by rw [h];rfl)) fun h => .pure (by rw [h];rfl)) fun v hv=>Mo.bind (P:=(· = (x.Op==2||x.Op==3||x.Op==5))) (.bif (fun h => .pure (by rw [<- hv,h];rfl)) fun h => .pure (by rw [<- hv,h];rfl)) fun v hv => .pure hv
def Vs (p:List (List Mh)):Prop:=p.length<=3/\∀ n,(p.getD n default).length<=7
theorem Vs.of {p:List (List Mh)} (h:gy (p.map fun r=>r.map m5)=true):Vs p/\∀ t k:Nat,t<p.length->k<(p.getD t default).length->lK (m5 ((p.getD t default).getD k default))=true:=by
 simp only [gy,ry,bae,dte,List.all_eq_true,rowOk] at h;have hl:p.length<=3:=by simpa using h.1.1.1.1
 have hr:=h.1.1.1.2;refine ⟨⟨hl,fun n=>?_⟩,fun t k ht hk=>?_⟩
 ·by_cases hn:n<p.length
  ·have e:p.getD n default=p[n]:=by simp [hn]
   rw [e];have := (hr (p[n].map m5) (List.mem_map.2 ⟨p[n],List.getElem_mem hn,rfl⟩)).1;simpa using this
  ·rw [gdq,gen (by omega)];exact Nat.zero_le _
 ·have e:p.getD t default=p[t]:=by simp [ht]
  rw [e] at hk ⊢;have h1:=(hr (p[t].map m5) (List.mem_map.2 ⟨p[t],List.getElem_mem ht,rfl⟩)).2;have e2:p[t].getD k default=p[t][k]:=by simp [hk]
  rw [e2];exact h1 _ (List.mem_map.2 ⟨_,List.getElem_mem hk,rfl⟩)
def InR (x:Mh):Prop:=0<=x.Loc/\x.Loc<=2/\0<=x.Reg/\x.Reg<=2/\0<=x.Val/\x.Val<=3
theorem F7 {x:Mh} (h:lK (m5 x)=true):InR x:=by
 obtain ⟨o,l,r,v⟩:=x;unfold InR;simp only;unfold lK m5 at h;simp only [inB] at h
 split at h
 ·simp only [bae,dte,beq_iff_eq] at h;omega
 ·split at h
  ·simp only [bae,dte,beq_iff_eq] at h;omega
  ·split at h
   ·simp only [bae,dte,beq_iff_eq] at h;omega
   ·split at h
    ·simp only [bae,dte] at h;omega
    ·cases h
structure PV (p:List (List Mh)):Prop where
 vs:Vs p
 pos:0<p.length
 ins:∀ t k:Nat,t<p.length->k<(p.getD t default).length->InR ((p.getD t default).getD k default)
theorem PV.of {p:List (List Mh)} (h:gy (p.map fun r=>r.map m5)=true):PV p:=by
 have h1:=Vs.of h;refine ⟨h1.1,?_,fun t k ht hk=>F7 (h1.2 t k ht hk)⟩;simp only [gy,bae,dte,llm] at h;exact h.1.2
theorem eu {n m:Nat} (hn:n<=4000000) (hm:Nat.ble m 1000=true):dW n m=true:=by
 have h1:=nlb hm;have h2:n*m<=4000000*1000:=Nat.mul_le_mul hn h1;exact decide_eq_true ⟨by omega,by omega⟩
theorem wE (a:Z3b) (q i v:Int) (hq:0<=q/\q<=2) (hi:0<=i/\i<=2):Z3b.get (Z3b.set a q v) i=if i=q then v else Z3b.get a i:=by
 obtain ⟨x,y,z⟩:=a;have h1:q=0\/q=1\/q=2:=by omega
 have h2:i=0\/i=1\/i=2:=by omega
 rcases h1 with rfl | rfl | rfl <;> rcases h2 with rfl | rfl | rfl <;> rfl
theorem Co (a:Z33) (q i:Int) (v:Z3b) (hq:0<=q/\q<=2) (hi:0<=i/\i<=2):Z33.get (Z33.set a q v) i=if i=q then v else Z33.get a i:=by
 obtain ⟨x,y,z⟩:=a;have h1:q=0\/q=1\/q=2:=by omega
 have h2:i=0\/i=1\/i=2:=by omega
 rcases h1 with rfl | rfl | rfl <;> rcases h2 with rfl | rfl | rfl <;> rfl
theorem Mo.sumR {S W:Type} {a:Option (S ⊕ W)} {f:S->Option W} {w:W} (h:Mo a (· = .inr w)):Mo (sumK a f) (· = w):=by
 obtain ⟨v,rfl,rfl⟩:=h;exact ⟨w,rfl,rfl⟩
theorem Mo.sumL {S W:Type} {a:Option (S ⊕ W)} {f:S->Option W} {w:W} {s:S} (h:Mo a (· = .inl s)) (k:Mo (f s) (· = w)):Mo (sumK a f) (· = w):=by
 obtain ⟨v,rfl,rfl⟩:=h;exact k
def JB (u:Ml) (t:Int) (x:Mh):Int:=if x.Op=3 then Z3b.get (Z33.get u.reg t) x.Reg else x.Val
def K8 (u:Ml) (t:Int) (x:Mh):Ml:=
 ⟨u.p,Z3b.set u.pc t (Z3b.get u.pc t+1),if rdX x=true then Z33.set u.reg t (Z3b.set (Z33.get u.reg t) x.Reg (Z3b.get u.mem x.Loc)) else u.reg,if wrX x=true then Z3b.set u.mem x.Loc (JB u t x) else u.mem⟩

end
end Go.Proofs.YtcmimhffgmckjaaGreatDoor
