/- Texts joined. No conditions. -/
import Derived.Test.YtcmimhffgmckjaaGreatDoorU6
namespace Go.Proofs.YtcmimhffgmckjaaGreatDoor
noncomputable section
open Go.RowKit
set_option maxRecDepth 100000
def nR (name:ByteArray):Option ByteArray:=
 bif decide (name=(⟨#[115,101,113]⟩:ByteArray)) then
  some (⟨#[97,99,121,99,108,105,99,32,112,111,124,114,102,124,99,111,124,102,114]⟩:ByteArray)
 else
  bif decide (name=(⟨#[116,115,111]⟩:ByteArray)) then
   some (⟨#[97,99,121,99,108,105,99,32,112,111,38,108,111,99,124,114,102,124,99,111,124,102,114,47,97,99,121,99,108,105,99,32,112,111,45,119,114,124,102,101,110,99,101,124,114,102,38,101,120,116,124,99,111,124,102,114,47,105,114,114,101,102,32,102,114,59,99,111]⟩:ByteArray)
  else
   bif decide (name=(⟨#[112,115,111]⟩:ByteArray)) then
    some (⟨#[97,99,121,99,108,105,99,32,112,111,38,108,111,99,124,114,102,124,99,111,124,102,114,47,97,99,121,99,108,105,99,32,112,111,45,40,119,114,124,119,119,41,124,102,101,110,99,101,124,114,102,38,101,120,116,124,99,111,124,102,114,47,105,114,114,101,102,32,102,114,59,99,111]⟩:ByteArray)
   else
    bif decide (name=(⟨#[114,97]⟩:ByteArray)) then
     some (⟨#[97,99,121,99,108,105,99,32,112,111,124,114,102,47,97,99,121,99,108,105,99,32,43,40,112,111,124,114,102,41,38,108,111,99,124,99,111,124,102,114,47,105,114,114,101,102,32,102,114,59,99,111]⟩:ByteArray)
    else
     bif decide (name=(⟨#[108,111,99]⟩:ByteArray)) then
      some (⟨#[97,99,121,99,108,105,99,32,112,111,38,108,111,99,124,114,102,124,99,111,124,102,114]⟩:ByteArray)
     else
      some (⟨#[]⟩:ByteArray)
theorem uR (name:ByteArray):Le (nR name) (kC name):=by
 unfold nR kC
 repeat' (first | with_reducible exact Le.refl _ | with_reducible refine Le.gd _ ?_ | with_reducible refine Le.bif _ ?_ ?_ | with_reducible refine Le.bind ?_ (fun _=>?_) | with_reducible refine Le.sumK ?_ (fun _=>?_) | with_reducible refine Le.loop (fun _=>?_) _ | with_reducible refine Le.nilK ?_ ?_ | with_reducible refine Le.ifc _ ?_ ?_)
def cH (s:ByteArray) (c:Int):Option Int:=
 some (KN s c)
theorem kS (s:ByteArray) (c:Int):Le (cH s c) (bG s c):=by
 unfold cH bG
 repeat' (first | with_reducible exact Le.refl _ | with_reducible refine Le.gd _ ?_ | with_reducible refine Le.bif _ ?_ ?_ | with_reducible refine Le.bind ?_ (fun _=>?_) | with_reducible refine Le.sumK ?_ (fun _=>?_) | with_reducible refine Le.loop (fun _=>?_) _ | with_reducible refine Le.nilK ?_ ?_ | with_reducible refine Le.ifc _ ?_ ?_)
def bW (s:ByteArray) (substr:ByteArray):Option Int:=
 Option.bind (bif ((substr.size:Int)==(0:Int)) then
  some true
 else
  some (decide (substr=s))
 ) fun s1=>
 bif s1 then
  some (0:Int)
 else
  bif ((substr.size:Int)==(1:Int)) then
   gd (decide (0<=(0:Int)/\(0:Int)<(substr.size:Int))) <|
   Option.bind (cH s ((substr.data.getD (0:Int).toNat 0).toNat:Int)) fun v6=>
   some v6
  else
   bif decide ((s.size:Int)<=(substr.size:Int)) then
    some (-1:Int)
   else
    none
theorem gB (s:ByteArray) (substr:ByteArray):Le (bW s substr) (bB s substr):=by
 unfold bW bB
 repeat' (first | with_reducible exact Le.refl _ | with_reducible exact kS .. | with_reducible refine Le.gd _ ?_ | with_reducible refine Le.bif _ ?_ ?_ | with_reducible refine Le.bind ?_ (fun _=>?_) | with_reducible refine Le.sumK ?_ (fun _=>?_) | with_reducible refine Le.loop (fun _=>?_) _ | with_reducible refine Le.nilK ?_ ?_ | with_reducible refine Le.ifc _ ?_ ?_)
def l8 (s:ByteArray) (substr:ByteArray):Option Int:=
 Option.bind (bW s substr) fun v1=>
 some v1
theorem qg (s:ByteArray) (substr:ByteArray):Le (l8 s substr) (iR s substr):=by
 unfold l8 iR
 repeat' (first | with_reducible exact Le.refl _ | with_reducible exact gB .. | with_reducible refine Le.gd _ ?_ | with_reducible refine Le.bif _ ?_ ?_ | with_reducible refine Le.bind ?_ (fun _=>?_) | with_reducible refine Le.sumK ?_ (fun _=>?_) | with_reducible refine Le.loop (fun _=>?_) _ | with_reducible refine Le.nilK ?_ ?_ | with_reducible refine Le.ifc _ ?_ ?_)
def l9 (substr:ByteArray):(Int×ByteArray)->Option ((Int×ByteArray) ⊕ Int):=fun s6=>
 Option.bind (l8 s6.2 substr) fun v8=>
 bif (v8==(-1:Int)) then
  some (.inr s6.1)
 else
  gd (Ly .i64 (s6.1+(1:Int))) <|
  gd (Ly .i64 (v8+(substr.size:Int))) <|
  gd (decide (0<=(v8+(substr.size:Int))/\(v8+(substr.size:Int))<=(s6.2.size:Int)/\(s6.2.size:Int)<=(s6.2.size:Int))) <|
  some (.inl ((s6.1+(1:Int)),(s6.2.extract (v8+(substr.size:Int)).toNat (s6.2.size:Int).toNat)))
theorem tj (substr:ByteArray) (sQ:_):Le (l9 substr sQ) (lS substr sQ):=by
 unfold l9 lS
 repeat' (first | with_reducible exact Le.refl _ | with_reducible exact qg .. | with_reducible refine Le.gd _ ?_ | with_reducible refine Le.bif _ ?_ ?_ | with_reducible refine Le.bind ?_ (fun _=>?_) | with_reducible refine Le.sumK ?_ (fun _=>?_) | with_reducible refine Le.loop (fun _=>?_) _ | with_reducible refine Le.nilK ?_ ?_ | with_reducible refine Le.ifc _ ?_ ?_)
def pI (s:ByteArray) (substr:ByteArray):Option Int:=
 bif ((substr.size:Int)==(0:Int)) then
  none
 else
  bif ((substr.size:Int)==(1:Int)) then
   gd (decide (0<=(0:Int)/\(0:Int)<(substr.size:Int))) <|
   some (KM s ((substr.data.getD (0:Int).toNat 0).toNat:Int))
  else
   nE 60 (l9 substr) ((0:Int),s)
theorem vQ (s:ByteArray) (substr:ByteArray):Le (pI s substr) (lT s substr):=by
 unfold pI lT
 repeat' (first | with_reducible exact Le.refl _ | with_reducible exact tj .. | with_reducible refine Le.gd _ ?_ | with_reducible refine Le.bif _ ?_ ?_ | with_reducible refine Le.bind ?_ (fun _=>?_) | with_reducible refine Le.sumK ?_ (fun _=>?_) | with_reducible refine Le.loop (fun _=>?_) _ | with_reducible refine Le.nilK ?_ ?_ | with_reducible refine Le.ifc _ ?_ ?_)
def iD (s:ByteArray) (sep:ByteArray) (sepSave:Int) (s3:Int):((List ByteArray)×Int×ByteArray)->Option (((List ByteArray)×Int×ByteArray) ⊕ ((List ByteArray)×Int×ByteArray)):=fun s14=>
 bif decide (s14.2.1<((if ((s.size:Int)+(1:Int))<s3 then ((s.size:Int)+(1:Int)) else s3)-(1:Int))) then
  Option.bind (l8 s14.2.2 sep) fun v18=>
  bif decide (v18<(0:Int)) then
   some (.inr (s14.1,s14.2.1,s14.2.2))
  else
   gd (Ly .i64 (v18+sepSave)) <|
   gd (decide (0<=(0:Int)/\(0:Int)<=(v18+sepSave)/\(v18+sepSave)<=(s14.2.2.size:Int))) <|
   gd (decide (0<=s14.2.1/\s14.2.1<(s14.1.length:Int))) <|
   gd (Ly .i64 (v18+(sep.size:Int))) <|
   gd (decide (0<=(v18+(sep.size:Int))/\(v18+(sep.size:Int))<=(s14.2.2.size:Int)/\(s14.2.2.size:Int)<=(s14.2.2.size:Int))) <|
   gd (Ly .i64 (s14.2.1+(1:Int))) <|
   some (.inl ((s14.1.set s14.2.1.toNat (s14.2.2.extract (0:Int).toNat (v18+sepSave).toNat)),(s14.2.1+(1:Int)),(s14.2.2.extract (v18+(sep.size:Int)).toNat (s14.2.2.size:Int).toNat)))
 else
  some (.inr (s14.1,s14.2.1,s14.2.2))
theorem qx (s:ByteArray) (sep:ByteArray) (sepSave:Int) (s3:Int) (sQ:_):Le (iD s sep sepSave s3 sQ) (eM s sep sepSave s3 sQ):=by
 unfold iD eM
 repeat' (first | with_reducible exact Le.refl _ | with_reducible exact qg .. | with_reducible refine Le.gd _ ?_ | with_reducible refine Le.bif _ ?_ ?_ | with_reducible refine Le.bind ?_ (fun _=>?_) | with_reducible refine Le.sumK ?_ (fun _=>?_) | with_reducible refine Le.loop (fun _=>?_) _ | with_reducible refine Le.nilK ?_ ?_ | with_reducible refine Le.ifc _ ?_ ?_)
def ma (s:ByteArray) (sep:ByteArray) (sepSave:Int) (n:Int):Option (List ByteArray):=
 bif (n==(0:Int)) then
  some ([]:List ByteArray)
 else
  bif decide (sep=(⟨#[]⟩:ByteArray)) then
   none
  else
   Option.bind (
    bif decide (n<(0:Int)) then
     Option.bind (pI s sep) fun v5=>
     gd (Ly .i64 (v5+(1:Int))) <|
     some (v5+(1:Int))
    else
     some n
   ) fun s3=>
   gd (Ly .i64 ((s.size:Int)+(1:Int))) <|
   gd (decide (0<=(if ((s.size:Int)+(1:Int))<s3 then ((s.size:Int)+(1:Int)) else s3)/\(if ((s.size:Int)+(1:Int))<s3 then ((s.size:Int)+(1:Int)) else s3)<=(if ((s.size:Int)+(1:Int))<s3 then ((s.size:Int)+(1:Int)) else s3)/\(if ((s.size:Int)+(1:Int))<s3 then ((s.size:Int)+(1:Int)) else s3)*((16:Nat):Int)<=140737488355328/\(if ((s.size:Int)+(1:Int))<s3 then ((s.size:Int)+(1:Int)) else s3)<=140737488355328)) <|
   gd (Ly .i64 ((if ((s.size:Int)+(1:Int))<s3 then ((s.size:Int)+(1:Int)) else s3)-(1:Int))) <|
   Option.bind (
    nE 60 (iD s sep sepSave s3) ((List.replicate (if ((s.size:Int)+(1:Int))<s3 then ((s.size:Int)+(1:Int)) else s3).toNat (default:ByteArray)),(0:Int),s)
   ) fun s10=>
   gd (decide (0<=s10.2.1/\s10.2.1<(s10.1.length:Int))) <|
   gd (Ly .i64 (s10.2.1+(1:Int))) <|
   gd (decide (0<=(0:Int)/\(0:Int)<=(s10.2.1+(1:Int))/\(s10.2.1+(1:Int))<=((s10.1.set s10.2.1.toNat s10.2.2).length:Int))) <|
   some (((s10.1.set s10.2.1.toNat s10.2.2).drop (0:Int).toNat).take ((s10.2.1+(1:Int)).toNat-(0:Int).toNat))
theorem tq (s:ByteArray) (sep:ByteArray) (sepSave:Int) (n:Int):Le (ma s sep sepSave n) (iI s sep sepSave n):=by
 unfold ma iI
 repeat' (first | with_reducible exact Le.refl _ | with_reducible exact vQ .. | with_reducible exact qx .. | with_reducible refine Le.gd _ ?_ | with_reducible refine Le.bif _ ?_ ?_ | with_reducible refine Le.bind ?_ (fun _=>?_) | with_reducible refine Le.sumK ?_ (fun _=>?_) | with_reducible refine Le.loop (fun _=>?_) _ | with_reducible refine Le.nilK ?_ ?_ | with_reducible refine Le.ifc _ ?_ ?_)
def pJ (s:ByteArray) (sep:ByteArray):Option (List ByteArray):=
 Option.bind (ma s sep (0:Int) (-1:Int)) fun v1=>
 some v1
theorem vR (s:ByteArray) (sep:ByteArray):Le (pJ s sep) (lV s sep):=by
 unfold pJ lV
 repeat' (first | with_reducible exact Le.refl _ | with_reducible exact tq .. | with_reducible refine Le.gd _ ?_ | with_reducible refine Le.bif _ ?_ ?_ | with_reducible refine Le.bind ?_ (fun _=>?_) | with_reducible refine Le.sumK ?_ (fun _=>?_) | with_reducible refine Le.loop (fun _=>?_) _ | with_reducible refine Le.nilK ?_ ?_ | with_reducible refine Le.ifc _ ?_ ?_)
def eU (s:ByteArray) (sep:ByteArray):Option (ByteArray×ByteArray×Bool):=
 Option.bind (bW s sep) fun v1=>
 bif decide ((0:Int)<=v1) then
  gd (decide (0<=(0:Int)/\(0:Int)<=v1/\v1<=(s.size:Int))) <|
  gd (Ly .i64 (v1+(sep.size:Int))) <|
  gd (decide (0<=(v1+(sep.size:Int))/\(v1+(sep.size:Int))<=(s.size:Int)/\(s.size:Int)<=(s.size:Int))) <|
  some ((s.extract (0:Int).toNat v1.toNat),(s.extract (v1+(sep.size:Int)).toNat (s.size:Int).toNat),true)
 else
  some (s,(⟨#[]⟩:ByteArray),false)
theorem nS (s:ByteArray) (sep:ByteArray):Le (eU s sep) (cK s sep):=by
 unfold eU cK
 repeat' (first | with_reducible exact Le.refl _ | with_reducible exact gB .. | with_reducible refine Le.gd _ ?_ | with_reducible refine Le.bif _ ?_ ?_ | with_reducible refine Le.bind ?_ (fun _=>?_) | with_reducible refine Le.sumK ?_ (fun _=>?_) | with_reducible refine Le.loop (fun _=>?_) _ | with_reducible refine Le.nilK ?_ ?_ | with_reducible refine Le.ifc _ ?_ ?_)
def rJ (s:ByteArray) (sep:ByteArray):Option (ByteArray×ByteArray×Bool):=
 Option.bind (eU s sep) fun v1=>
 some (v1.1,v1.2.1,v1.2.2)
theorem xK (s:ByteArray) (sep:ByteArray):Le (rJ s sep) (oI s sep):=by
 unfold rJ oI
 repeat' (first | with_reducible exact Le.refl _ | with_reducible exact nS .. | with_reducible refine Le.gd _ ?_ | with_reducible refine Le.bif _ ?_ ?_ | with_reducible refine Le.bind ?_ (fun _=>?_) | with_reducible refine Le.sumK ?_ (fun _=>?_) | with_reducible refine Le.loop (fun _=>?_) _ | with_reducible refine Le.nilK ?_ ?_ | with_reducible refine Le.ifc _ ?_ ?_)
def db (s:List ByteArray) (v:ByteArray):Int->Option (Int ⊕ (Unit ⊕ Int)):=fun s4=>
 bif decide (s4<(s.length:Int)) then
  gd (decide (0<=s4/\s4<(s.length:Int))) <|
  bif decide (v=(s.getD s4.toNat default)) then
   some (.inr (.inr s4))
  else
   gd (Ly .i64 (s4+(1:Int))) <|
   some (.inl (s4+(1:Int)))
 else
  some (.inr (.inl ()))
theorem li (s:List ByteArray) (v:ByteArray) (sQ:_):Le (db s v sQ) (cZ s v sQ):=by
 unfold db cZ
 repeat' (first | with_reducible exact Le.refl _ | with_reducible refine Le.gd _ ?_ | with_reducible refine Le.bif _ ?_ ?_ | with_reducible refine Le.bind ?_ (fun _=>?_) | with_reducible refine Le.sumK ?_ (fun _=>?_) | with_reducible refine Le.loop (fun _=>?_) _ | with_reducible refine Le.nilK ?_ ?_ | with_reducible refine Le.ifc _ ?_ ?_)
def bX (s:List ByteArray) (v:ByteArray):Option Int:=
 sumK (
  nE 60 (db s v) (0:Int)
 ) fun s1=>
 some (-1:Int)
theorem gD (s:List ByteArray) (v:ByteArray):Le (bX s v) (bC s v):=by
 unfold bX bC
 repeat' (first | with_reducible exact Le.refl _ | with_reducible exact li .. | with_reducible refine Le.gd _ ?_ | with_reducible refine Le.bif _ ?_ ?_ | with_reducible refine Le.bind ?_ (fun _=>?_) | with_reducible refine Le.sumK ?_ (fun _=>?_) | with_reducible refine Le.loop (fun _=>?_) _ | with_reducible refine Le.nilK ?_ ?_ | with_reducible refine Le.ifc _ ?_ ?_)
def bJ (r_:ae) (c:Int):Option (ae×Bool):=
 Option.bind (bif r_.failed then
  some true
 else
  some (decide (r_.rest=(⟨#[]⟩:ByteArray)))
 ) fun s1=>
 Option.bind (bif s1 then
  some true
 else
  gd (decide (0<=(0:Int)/\(0:Int)<(r_.rest.size:Int))) <|
  some (((r_.rest.data.getD (0:Int).toNat 0).toNat:Int) != c)
 ) fun s3=>
 bif s3 then
  some ((⟨r_.rest,r_.failed⟩:ae),false)
 else
  gd (decide (0<=(1:Int)/\(1:Int)<=(r_.rest.size:Int)/\(r_.rest.size:Int)<=(r_.rest.size:Int))) <|
  some ((⟨(r_.rest.extract (1:Int).toNat (r_.rest.size:Int).toNat),r_.failed⟩:ae),true)
theorem lg (r_:ae) (c:Int):Le (bJ r_ c) (bq r_ c):=by
 unfold bJ bq
 repeat' (first | with_reducible exact Le.refl _ | with_reducible refine Le.gd _ ?_ | with_reducible refine Le.bif _ ?_ ?_ | with_reducible refine Le.bind ?_ (fun _=>?_) | with_reducible refine Le.sumK ?_ (fun _=>?_) | with_reducible refine Le.loop (fun _=>?_) _ | with_reducible refine Le.nilK ?_ ?_ | with_reducible refine Le.ifc _ ?_ ?_)
def gF (r_:ae):Int->Option (Int ⊕ Int):=fun s4=>
 Option.bind (bif decide (s4<(r_.rest.size:Int)) then
  gd (decide (0<=s4/\s4<(r_.rest.size:Int))) <|
  some (decide ((97:Int)<=((r_.rest.data.getD s4.toNat 0).toNat:Int)))
 else
  some false
 ) fun s6=>
 Option.bind (bif s6 then
  gd (decide (0<=s4/\s4<(r_.rest.size:Int))) <|
  some (decide (((r_.rest.data.getD s4.toNat 0).toNat:Int)<=(122:Int)))
 else
  some false
 ) fun s9=>
 bif s9 then
  gd (Ly .i64 (s4+(1:Int))) <|
  some (.inl (s4+(1:Int)))
 else
  some (.inr s4)
theorem pK (r_:ae) (sQ:_):Le (gF r_ sQ) (gm r_ sQ):=by
 unfold gF gm
 repeat' (first | with_reducible exact Le.refl _ | with_reducible refine Le.gd _ ?_ | with_reducible refine Le.bif _ ?_ ?_ | with_reducible refine Le.bind ?_ (fun _=>?_) | with_reducible refine Le.sumK ?_ (fun _=>?_) | with_reducible refine Le.loop (fun _=>?_) _ | with_reducible refine Le.nilK ?_ ?_ | with_reducible refine Le.ifc _ ?_ ?_)
def iV (r_:ae):Option (ae×ByteArray):=
 Option.bind (
  nE 60 (gF r_) (0:Int)
 ) fun s1=>
 gd (decide (0<=(0:Int)/\(0:Int)<=s1/\s1<=(r_.rest.size:Int))) <|
 gd (decide (0<=s1/\s1<=(r_.rest.size:Int)/\(r_.rest.size:Int)<=(r_.rest.size:Int))) <|
 some ((⟨(r_.rest.extract s1.toNat (r_.rest.size:Int).toNat),r_.failed⟩:ae),(r_.rest.extract (0:Int).toNat s1.toNat))
theorem qO (r_:ae):Le (iV r_) (fg r_):=by
 unfold iV fg
 repeat' (first | with_reducible exact Le.refl _ | with_reducible exact pK .. | with_reducible refine Le.gd _ ?_ | with_reducible refine Le.bif _ ?_ ?_ | with_reducible refine Le.bind ?_ (fun _=>?_) | with_reducible refine Le.sumK ?_ (fun _=>?_) | with_reducible refine Le.loop (fun _=>?_) _ | with_reducible refine Le.nilK ?_ ?_ | with_reducible refine Le.ifc _ ?_ ?_)
def dK (dJ:ae->Int->Option (ae×aa)) (rcf:ae->Option (ae×aa)) (r_:ae):Option (ae×aa):=
 Option.bind (bJ (⟨r_.rest,r_.failed⟩:ae) (40:Int)) fun v1=>
 bif v1.2 then
  Option.bind (dJ (⟨v1.1.rest,v1.1.failed⟩:ae) (3:Int)) fun v3=>
  Option.bind (
   Option.bind (bJ (⟨v3.1.rest,v3.1.failed⟩:ae) (41:Int)) fun v5=>
   bif !v5.2 then
    some (v5.1.rest,true)
   else
    some (v5.1.rest,v5.1.failed)
  ) fun s4=>
  some ((⟨s4.1,s4.2⟩:ae),(⟨v3.2.Op,v3.2.Name,v3.2.Kids⟩:aa))
 else
  Option.bind (bJ (⟨v1.1.rest,v1.1.failed⟩:ae) (126:Int)) fun v7=>
  bif v7.2 then
   Option.bind (rcf (⟨v7.1.rest,v7.1.failed⟩:ae)) fun v9=>
   some ((⟨v9.1.rest,v9.1.failed⟩:ae),(⟨(6:Int),(⟨#[]⟩:ByteArray),([v9.2.inn]:List TXimpl_RelExpr)⟩:aa))
  else
   Option.bind (bJ (⟨v7.1.rest,v7.1.failed⟩:ae) (43:Int)) fun v10=>
   bif v10.2 then
    Option.bind (rcf (⟨v10.1.rest,v10.1.failed⟩:ae)) fun v12=>
    some ((⟨v12.1.rest,v12.1.failed⟩:ae),(⟨(7:Int),(⟨#[]⟩:ByteArray),([v12.2.inn]:List TXimpl_RelExpr)⟩:aa))
   else
    Option.bind (iV (⟨v10.1.rest,v10.1.failed⟩:ae)) fun v13=>
    Option.bind (
     bif decide (v13.2=(⟨#[]⟩:ByteArray)) then
      some true
     else
      some v13.1.failed
    ) fun s14=>
    some ((⟨v13.1.rest,s14⟩:ae),(⟨(1:Int),v13.2,([]:List TXimpl_RelExpr)⟩:aa))
theorem mJ (dJ:ae->Int->Option (ae×aa)) (p5:ae->Int->Option (ae×aa)) (hrcf156:∀ x0 x1,Le (dJ x0 x1) (p5 x0 x1)) (rcf:ae->Option (ae×aa)) (rcf':ae->Option (ae×aa)) (hrcf:∀ x0,Le (rcf x0) (rcf' x0)) (r_:ae):Le (dK dJ rcf r_) (bS p5 rcf' r_):=by
 unfold dK bS
 repeat' (first | with_reducible exact Le.refl _ | with_reducible exact lg .. | with_reducible exact qO .. | with_reducible exact hrcf156 .. | with_reducible exact hrcf .. | with_reducible refine Le.gd _ ?_ | with_reducible refine Le.bif _ ?_ ?_ | with_reducible refine Le.bind ?_ (fun _=>?_) | with_reducible refine Le.sumK ?_ (fun _=>?_) | with_reducible refine Le.loop (fun _=>?_) _ | with_reducible refine Le.nilK ?_ ?_ | with_reducible refine Le.ifc _ ?_ ?_)
def dL (dJ:ae->Int->Option (ae×aa)):Nat->ae->Option (ae×aa)
 | 0=>fun _=>none
 | n+1=>dK dJ (dL dJ n)
def iW (dJ:ae->Int->Option (ae×aa)) (r_:ae):Option (ae×aa):=dL dJ 40 r_
theorem fP (dJ:ae->Int->Option (ae×aa)) (p5:ae->Int->Option (ae×aa)) (hrcf156:∀ x0 x1,Le (dJ x0 x1) (p5 x0 x1)):∀ (n m:Nat),n<=m->∀ x0,Le (dL dJ n x0) (bv p5 m x0)
 | 0,_,_=>fun x0 v h=>by cases h
 | n+1,0,h=>absurd h (Nat.not_succ_le_zero _)
 | n+1,m+1,h=>fun x0=>mJ dJ p5 hrcf156 _ _ (fP dJ p5 hrcf156 n m (Nat.le_of_succ_le_succ h)) x0
theorem nG (dJ:ae->Int->Option (ae×aa)) (p5:ae->Int->Option (ae×aa)) (hrcf156:∀ x0 x1,Le (dJ x0 x1) (p5 x0 x1)) (r_:ae):Le (iW dJ r_) (eC p5 r_):=fun v h=>wK 40 fun m hm=>fP dJ p5 hrcf156 40 m hm r_ v h
def iX (op:Int):Option (Int×ByteArray×Int):=
 bif (op==(1:Int)) then
  some ((0:Int),(⟨#[]⟩:ByteArray),(0:Int))
 else
  bif (op==(2:Int)) then
   some ((3:Int),(⟨#[124]⟩:ByteArray),(2:Int))
  else
   bif (op==(3:Int)) then
    some ((2:Int),(⟨#[38]⟩:ByteArray),(2:Int))
   else
    bif (op==(4:Int)) then
     some ((2:Int),(⟨#[45]⟩:ByteArray),(2:Int))
    else
     bif (op==(5:Int)) then
      some ((1:Int),(⟨#[59]⟩:ByteArray),(2:Int))
     else
      bif (op==(6:Int)) then
       some ((0:Int),(⟨#[126]⟩:ByteArray),(1:Int))
      else
       bif (op==(7:Int)) then
        some ((0:Int),(⟨#[43]⟩:ByteArray),(1:Int))
       else
        some ((0:Int),(⟨#[]⟩:ByteArray),(-1:Int))
theorem mb (op:Int):Le (iX op) (gp op):=by
 unfold iX gp
 repeat' (first | with_reducible exact Le.refl _ | with_reducible refine Le.gd _ ?_ | with_reducible refine Le.bif _ ?_ ?_ | with_reducible refine Le.bind ?_ (fun _=>?_) | with_reducible refine Le.sumK ?_ (fun _=>?_) | with_reducible refine Le.loop (fun _=>?_) _ | with_reducible refine Le.nilK ?_ ?_ | with_reducible refine Le.ifc _ ?_ ?_)
def eX (level:Int):(ByteArray×Bool×Int×Int)->Option ((ByteArray×Bool×Int×Int) ⊕ (ByteArray×Bool×Int)):=fun s12=>
 bif decide (s12.2.2.1<(([(2:Int),(3:Int),(4:Int),(5:Int)]:LI).length:Int)) then
  Option.bind (
   gd (decide (0<=s12.2.2.1/\s12.2.2.1<(([(2:Int),(3:Int),(4:Int),(5:Int)]:LI).length:Int))) <|
   Option.bind (iX (([(2:Int),(3:Int),(4:Int),(5:Int)]:LI).getD s12.2.2.1.toNat default)) fun v17=>
   Option.bind (bif (s12.2.2.2==(0:Int)) then
    some (v17.1==level)
   else
    some false
   ) fun s18=>
   bif s18 then
    gd (decide (0<=(0:Int)/\(0:Int)<(v17.2.1.size:Int))) <|
    Option.bind (bJ (⟨s12.1,s12.2.1⟩:ae) ((v17.2.1.data.getD (0:Int).toNat 0).toNat:Int)) fun v22=>
    bif v22.2 then
     some (v22.1.rest,v22.1.failed,(([(2:Int),(3:Int),(4:Int),(5:Int)]:LI).getD s12.2.2.1.toNat default))
    else
     some (v22.1.rest,v22.1.failed,s12.2.2.2)
   else
    some (s12.1,s12.2.1,s12.2.2.2)
  ) fun s15=>
  gd (Ly .i64 (s12.2.2.1+(1:Int))) <|
  some (.inl (s15.1,s15.2.1,(s12.2.2.1+(1:Int)),s15.2.2))
 else
  some (.inr (s12.1,s12.2.1,s12.2.2.2))
theorem nT (level:Int) (sQ:_):Le (eX level sQ) (eT level sQ):=by
 unfold eX eT
 repeat' (first | with_reducible exact Le.refl _ | with_reducible exact mb .. | with_reducible exact lg .. | with_reducible refine Le.gd _ ?_ | with_reducible refine Le.bif _ ?_ ?_ | with_reducible refine Le.bind ?_ (fun _=>?_) | with_reducible refine Le.sumK ?_ (fun _=>?_) | with_reducible refine Le.loop (fun _=>?_) _ | with_reducible refine Le.nilK ?_ ?_ | with_reducible refine Le.ifc _ ?_ ?_)
def fK (rcf:ae->Int->Option (ae×aa)) (level:Int):(ByteArray×Bool×Int×ByteArray×(List TXimpl_RelExpr))->Option ((ByteArray×Bool×Int×ByteArray×(List TXimpl_RelExpr)) ⊕ (ae×aa)):=fun s7=>
 Option.bind (
  nE 60 (eX level) (s7.1,s7.2.1,(0:Int),(0:Int))
 ) fun s9=>
 bif (s9.2.2==(0:Int)) then
  some (.inr ((⟨s9.1,s9.2.1⟩:ae),(⟨s7.2.2.1,s7.2.2.2.1,s7.2.2.2.2⟩:aa)))
 else
  Option.bind (rcf (⟨s9.1,s9.2.1⟩:ae) (level-(1:Int))) fun v26=>
  some (.inl (v26.1.rest,v26.1.failed,s9.2.2,(⟨#[]⟩:ByteArray),([(⟨s7.2.2.1,s7.2.2.2.1,s7.2.2.2.2⟩:aa).inn,v26.2.inn]:List TXimpl_RelExpr)))
theorem oK (rcf:ae->Int->Option (ae×aa)) (rcf':ae->Int->Option (ae×aa)) (hrcf:∀ x0 x1,Le (rcf x0 x1) (rcf' x0 x1)) (level:Int) (sQ:_):Le (fK rcf level sQ) (fI rcf' level sQ):=by
 unfold fK fI
 repeat' (first | with_reducible exact Le.refl _ | with_reducible exact nT .. | with_reducible exact hrcf .. | with_reducible refine Le.gd _ ?_ | with_reducible refine Le.bif _ ?_ ?_ | with_reducible refine Le.bind ?_ (fun _=>?_) | with_reducible refine Le.sumK ?_ (fun _=>?_) | with_reducible refine Le.loop (fun _=>?_) _ | with_reducible refine Le.nilK ?_ ?_ | with_reducible refine Le.ifc _ ?_ ?_)
def gG (rcf:ae->Int->Option (ae×aa)) (r_:ae) (level:Int):Option (ae×aa):=
 bif (level==(0:Int)) then
  Option.bind (iW rcf (⟨r_.rest,r_.failed⟩:ae)) fun v2=>
  some ((⟨v2.1.rest,v2.1.failed⟩:ae),(⟨v2.2.Op,v2.2.Name,v2.2.Kids⟩:aa))
 else
  gd (Ly .i64 (level-(1:Int))) <|
  Option.bind (rcf (⟨r_.rest,r_.failed⟩:ae) (level-(1:Int))) fun v4=>
  nE 60 (fK rcf level) (v4.1.rest,v4.1.failed,v4.2.Op,v4.2.Name,v4.2.Kids)
theorem pO (rcf:ae->Int->Option (ae×aa)) (rcf':ae->Int->Option (ae×aa)) (hrcf:∀ x0 x1,Le (rcf x0 x1) (rcf' x0 x1)) (r_:ae) (level:Int):Le (gG rcf r_ level) (dH rcf' r_ level):=by
 unfold gG dH
 repeat' (first | with_reducible exact Le.refl _ | with_reducible exact nG (hrcf156:=hrcf) .. | with_reducible exact oK (hrcf:=hrcf) .. | with_reducible exact hrcf .. | with_reducible refine Le.gd _ ?_ | with_reducible refine Le.bif _ ?_ ?_ | with_reducible refine Le.bind ?_ (fun _=>?_) | with_reducible refine Le.sumK ?_ (fun _=>?_) | with_reducible refine Le.loop (fun _=>?_) _ | with_reducible refine Le.nilK ?_ ?_ | with_reducible refine Le.ifc _ ?_ ?_)
def gH:Nat->ae->Int->Option (ae×aa)
 | 0=>fun _ _=>none
 | n+1=>gG (gH n)
def mK (r_:ae) (level:Int):Option (ae×aa):=gH 40 r_ level
theorem iY:∀ (n m:Nat),n<=m->∀ x0 x1,Le (gH n x0 x1) (bF m x0 x1)
 | 0,_,_=>fun x0 x1 v h=>by cases h
 | n+1,0,h=>absurd h (Nat.not_succ_le_zero _)
 | n+1,m+1,h=>fun x0 x1=>pO _ _ (iY n m (Nat.le_of_succ_le_succ h)) x0 x1
theorem qy (r_:ae) (level:Int):Le (mK r_ level) (iC r_ level):=fun v h=>wK 40 fun m hm=>iY 40 m hm r_ level v h
def df (s:List ByteArray) (v:ByteArray):Option Bool:=
 Option.bind (bX s v) fun v1=>
 some (decide ((0:Int)<=v1))
theorem lj (s:List ByteArray) (v:ByteArray):Le (df s v) (bM s v):=by
 unfold df bM
 repeat' (first | with_reducible exact Le.refl _ | with_reducible exact gD .. | with_reducible refine Le.gd _ ?_ | with_reducible refine Le.bif _ ?_ ?_ | with_reducible refine Le.bind ?_ (fun _=>?_) | with_reducible refine Le.sumK ?_ (fun _=>?_) | with_reducible refine Le.loop (fun _=>?_) _ | with_reducible refine Le.nilK ?_ ?_ | with_reducible refine Le.ifc _ ?_ ?_)
def nU (name:ByteArray):Option Bool:=
 Option.bind (df BC name) fun v1=>
 some v1
theorem uS (name:ByteArray):Le (nU name) (kD name):=by
 unfold nU kD
 repeat' (first | with_reducible exact Le.refl _ | with_reducible exact lj .. | with_reducible refine Le.gd _ ?_ | with_reducible refine Le.bif _ ?_ ?_ | with_reducible refine Le.bind ?_ (fun _=>?_) | with_reducible refine Le.sumK ?_ (fun _=>?_) | with_reducible refine Le.loop (fun _=>?_) _ | with_reducible refine Le.nilK ?_ ?_ | with_reducible refine Le.ifc _ ?_ ?_)
def mf (rcf:aa->Int->Option Int) (e_:aa) (most:Int):(Int×Int)->Option ((Int×Int) ⊕ Int):=fun s13=>
 bif decide (s13.1<(e_.Kids.length:Int)) then
  gd (decide (0<=s13.1/\s13.1<(e_.Kids.length:Int))) <|
  gd (Ly .i64 (most-(1:Int))) <|
  Option.bind (rcf (⟨((e_.Kids.getD s13.1.toNat default).out).Op,((e_.Kids.getD s13.1.toNat default).out).Name,((e_.Kids.getD s13.1.toNat default).out).Kids⟩:aa) (most-(1:Int))) fun v18=>
  gd (Ly .i64 (s13.2+v18)) <|
  bif decide ((40:Int)<(s13.2+v18)) then
   some (.inr (s13.2+v18))
  else
   gd (Ly .i64 (s13.1+(1:Int))) <|
   some (.inl ((s13.1+(1:Int)),(s13.2+v18)))
 else
  some (.inr s13.2)
theorem tu (rcf:aa->Int->Option Int) (rcf':aa->Int->Option Int) (hrcf:∀ x0 x1,Le (rcf x0 x1) (rcf' x0 x1)) (e_:aa) (most:Int) (sQ:_):Le (mf rcf e_ most sQ) (lW rcf' e_ most sQ):=by
 unfold mf lW
 repeat' (first | with_reducible exact Le.refl _ | with_reducible exact hrcf .. | with_reducible refine Le.gd _ ?_ | with_reducible refine Le.bif _ ?_ ?_ | with_reducible refine Le.bind ?_ (fun _=>?_) | with_reducible refine Le.sumK ?_ (fun _=>?_) | with_reducible refine Le.loop (fun _=>?_) _ | with_reducible refine Le.nilK ?_ ?_ | with_reducible refine Le.ifc _ ?_ ?_)
def nV (rcf:aa->Int->Option Int) (e_:aa) (most:Int):Option Int:=
 Option.bind (iX e_.Op) fun v1=>
 sumK (
  Option.bind (
   bif (most==(0:Int)) then
    some true
   else
    bif ((e_.Kids.length:Int) != v1.2.2) then
     some true
    else
     Option.bind (nU e_.Name) fun v6=>
     bif (!((e_.Op==(1:Int))==v6)) then
      some true
     else
      bif (e_.Op != (1:Int)) then
       some (!decide (e_.Name=(⟨#[]⟩:ByteArray)))
      else
       some false
  ) fun s3=>
  bif s3 then
   some (.inr (41:Int))
  else
   some (.inl ())
 ) fun s2=>
 Option.bind (
  nE 60 (mf rcf e_ most) ((0:Int),(1:Int))
 ) fun s10=>
 some s10
theorem uT (rcf:aa->Int->Option Int) (rcf':aa->Int->Option Int) (hrcf:∀ x0 x1,Le (rcf x0 x1) (rcf' x0 x1)) (e_:aa) (most:Int):Le (nV rcf e_ most) (kE rcf' e_ most):=by
 unfold nV kE
 repeat' (first | with_reducible exact Le.refl _ | with_reducible exact mb .. | with_reducible exact uS .. | with_reducible exact tu (hrcf:=hrcf) .. | with_reducible exact hrcf .. | with_reducible refine Le.gd _ ?_ | with_reducible refine Le.bif _ ?_ ?_ | with_reducible refine Le.bind ?_ (fun _=>?_) | with_reducible refine Le.sumK ?_ (fun _=>?_) | with_reducible refine Le.loop (fun _=>?_) _ | with_reducible refine Le.nilK ?_ ?_ | with_reducible refine Le.ifc _ ?_ ?_)
def nW:Nat->aa->Int->Option Int
 | 0=>fun _ _=>none
 | n+1=>nV (nW n)
def uG (e_:aa) (most:Int):Option Int:=nW 40 e_ most
theorem pQ:∀ (n m:Nat),n<=m->∀ x0 x1,Le (nW n x0 x1) (iy m x0 x1)
 | 0,_,_=>fun x0 x1 v h=>by cases h
 | n+1,0,h=>absurd h (Nat.not_succ_le_zero _)
 | n+1,m+1,h=>fun x0 x1=>uT _ _ (pQ n m (Nat.le_of_succ_le_succ h)) x0 x1
theorem wS (e_:aa) (most:Int):Le (uG e_ most) (qm e_ most):=fun v h=>wK 40 fun m hm=>pQ 40 m hm e_ most v h
def ib (e_:aa):Option Bool:=
 Option.bind (uG e_ (12:Int)) fun v1=>
 some (decide (v1<=(40:Int)))
theorem mL (e_:aa):Le (ib e_) (eD e_):=by
 unfold ib eD
 repeat' (first | with_reducible exact Le.refl _ | with_reducible exact wS .. | with_reducible refine Le.gd _ ?_ | with_reducible refine Le.bif _ ?_ ?_ | with_reducible refine Le.bind ?_ (fun _=>?_) | with_reducible refine Le.sumK ?_ (fun _=>?_) | with_reducible refine Le.loop (fun _=>?_) _ | with_reducible refine Le.nilK ?_ ?_ | with_reducible refine Le.ifc _ ?_ ?_)
def nX (rcf:aa->Int->Option ByteArray) (e_:aa) (most:Int):Option ByteArray:=
 Option.bind (iX e_.Op) fun v1=>
 Option.bind (
  bif (v1.2.2==(1:Int)) then
   gd (decide (0<=(0:Int)/\(0:Int)<(e_.Kids.length:Int))) <|
   Option.bind (rcf ((e_.Kids.getD (0:Int).toNat default).out) (0:Int)) fun v5=>
   gd (decide (v1.2.1.size+v5.size<=9223372036854775807)) <|
   some (v1.2.1++v5)
  else
   bif (v1.2.2==(2:Int)) then
    gd (decide (0<=(0:Int)/\(0:Int)<(e_.Kids.length:Int))) <|
    Option.bind (rcf ((e_.Kids.getD (0:Int).toNat default).out) v1.1) fun v9=>
    gd (decide (v9.size+v1.2.1.size<=9223372036854775807)) <|
    gd (decide (0<=(1:Int)/\(1:Int)<(e_.Kids.length:Int))) <|
    gd (Ly .i64 (v1.1-(1:Int))) <|
    Option.bind (rcf ((e_.Kids.getD (1:Int).toNat default).out) (v1.1-(1:Int))) fun v13=>
    gd (decide ((v9++v1.2.1).size+v13.size<=9223372036854775807)) <|
    some ((v9++v1.2.1)++v13)
   else
    some e_.Name
 ) fun s2=>
 bif decide (most<v1.1) then
  gd (decide ((⟨#[40]⟩:ByteArray).size+s2.size<=9223372036854775807)) <|
  gd (decide (((⟨#[40]⟩:ByteArray)++s2).size+(⟨#[41]⟩:ByteArray).size<=9223372036854775807)) <|
  some (((⟨#[40]⟩:ByteArray)++s2)++(⟨#[41]⟩:ByteArray))
 else
  some s2
theorem uU (rcf:aa->Int->Option ByteArray) (rcf':aa->Int->Option ByteArray) (hrcf:∀ x0 x1,Le (rcf x0 x1) (rcf' x0 x1)) (e_:aa) (most:Int):Le (nX rcf e_ most) (kF rcf' e_ most):=by
 unfold nX kF
 repeat' (first | with_reducible exact Le.refl _ | with_reducible exact mb .. | with_reducible exact hrcf .. | with_reducible refine Le.gd _ ?_ | with_reducible refine Le.bif _ ?_ ?_ | with_reducible refine Le.bind ?_ (fun _=>?_) | with_reducible refine Le.sumK ?_ (fun _=>?_) | with_reducible refine Le.loop (fun _=>?_) _ | with_reducible refine Le.nilK ?_ ?_ | with_reducible refine Le.ifc _ ?_ ?_)
def nY:Nat->aa->Int->Option ByteArray
 | 0=>fun _ _=>none
 | n+1=>nX (nY n)
def uH (e_:aa) (most:Int):Option ByteArray:=nY 40 e_ most
theorem pR:∀ (n m:Nat),n<=m->∀ x0 x1,Le (nY n x0 x1) (iz m x0 x1)
 | 0,_,_=>fun x0 x1 v h=>by cases h
 | n+1,0,h=>absurd h (Nat.not_succ_le_zero _)
 | n+1,m+1,h=>fun x0 x1=>uU _ _ (pR n m (Nat.le_of_succ_le_succ h)) x0 x1
theorem wT (e_:aa) (most:Int):Le (uH e_ most) (qo e_ most):=fun v h=>wK 40 fun m hm=>pR 40 m hm e_ most v h
def fS (e_:aa):Option ByteArray:=
 Option.bind (ib e_) fun v1=>
 bif !v1 then
  some (⟨#[]⟩:ByteArray)
 else
  Option.bind (uH e_ (3:Int)) fun v3=>
  some v3
theorem mg (e_:aa):Le (fS e_) (dM e_):=by
 unfold fS dM
 repeat' (first | with_reducible exact Le.refl _ | with_reducible exact mL .. | with_reducible exact wT .. | with_reducible refine Le.gd _ ?_ | with_reducible refine Le.bif _ ?_ ?_ | with_reducible refine Le.bind ?_ (fun _=>?_) | with_reducible refine Le.sumK ?_ (fun _=>?_) | with_reducible refine Le.loop (fun _=>?_) _ | with_reducible refine Le.nilK ?_ ?_ | with_reducible refine Le.ifc _ ?_ ?_)
def kT (text:ByteArray):Option (aa×Bool):=
 bif decide ((300:Int)<(text.size:Int)) then
  some ((⟨(0:Int),(⟨#[]⟩:ByteArray),([]:List TXimpl_RelExpr)⟩:aa),false)
 else
  Option.bind (mK (⟨text,false⟩:ae) (3:Int)) fun v2=>
  Option.bind (bif v2.1.failed then
   some true
  else
   some (!decide (v2.1.rest=(⟨#[]⟩:ByteArray)))
  ) fun s3=>
  Option.bind (bif s3 then
   some true
  else
   some (decide (text=(⟨#[]⟩:ByteArray)))
  ) fun s5=>
  Option.bind (bif s5 then
   some true
  else
   Option.bind (fS (⟨v2.2.Op,v2.2.Name,v2.2.Kids⟩:aa)) fun v9=>
   some (!decide (v9=text))
  ) fun s7=>
  bif s7 then
   some ((⟨(0:Int),(⟨#[]⟩:ByteArray),([]:List TXimpl_RelExpr)⟩:aa),false)
  else
   some ((⟨v2.2.Op,v2.2.Name,v2.2.Kids⟩:aa),true)
theorem sF (text:ByteArray):Le (kT text) (gZ text):=by
 unfold kT gZ
 repeat' (first | with_reducible exact Le.refl _ | with_reducible exact qy .. | with_reducible exact mg .. | with_reducible refine Le.gd _ ?_ | with_reducible refine Le.bif _ ?_ ?_ | with_reducible refine Le.bind ?_ (fun _=>?_) | with_reducible refine Le.sumK ?_ (fun _=>?_) | with_reducible refine Le.loop (fun _=>?_) _ | with_reducible refine Le.nilK ?_ ?_ | with_reducible refine Le.ifc _ ?_ ?_)
def jy (v2:(List ByteArray)):((List ai)×Int)->Option (((List ai)×Int) ⊕ ((List ai) ⊕ ((List ai)×Bool))):=fun s8=>
 bif decide (s8.2<(v2.length:Int)) then
  gd (decide (0<=s8.2/\s8.2<(v2.length:Int))) <|
  Option.bind (rJ (v2.getD s8.2.toNat default) (⟨#[32]⟩:ByteArray)) fun v15=>
  Option.bind (bX zC v15.1) fun v16=>
  Option.bind (kT v15.2.1) fun v17=>
  Option.bind (bif decide (v16<(1:Int)) then
   some true
  else
   some (!v17.2)
  ) fun s18=>
  bif s18 then
   some (.inr (.inr (([]:List ai),false)))
  else
   gd (ez (s8.1.length+1) 56) <|
   gd (Ly .i64 (s8.2+(1:Int))) <|
   some (.inl ((s8.1++[(⟨v16,(⟨v17.1.Op,v17.1.Name,v17.1.Kids⟩:aa)⟩:ai)]),(s8.2+(1:Int))))
 else
  some (.inr (.inl s8.1))
theorem rK (v2:(List ByteArray)) (sQ:_):Le (jy v2 sQ) (fQ v2 sQ):=by
 unfold jy fQ
 repeat' (first | with_reducible exact Le.refl _ | with_reducible exact xK .. | with_reducible exact gD .. | with_reducible exact sF .. | with_reducible refine Le.gd _ ?_ | with_reducible refine Le.bif _ ?_ ?_ | with_reducible refine Le.bind ?_ (fun _=>?_) | with_reducible refine Le.sumK ?_ (fun _=>?_) | with_reducible refine Le.loop (fun _=>?_) _ | with_reducible refine Le.nilK ?_ ?_ | with_reducible refine Le.ifc _ ?_ ?_)
def oL (x:Int) (low:Int) (high:Int):Option Bool:=
 Option.bind (bif decide (low<=x) then
  some (decide (x<=high))
 else
  some false
 ) fun s1=>
 some s1
theorem rZ (x:Int) (low:Int) (high:Int):Le (oL x low high) (lY x low high):=by
 unfold oL lY
 repeat' (first | with_reducible exact Le.refl _ | with_reducible refine Le.gd _ ?_ | with_reducible refine Le.bif _ ?_ ?_ | with_reducible refine Le.bind ?_ (fun _=>?_) | with_reducible refine Le.sumK ?_ (fun _=>?_) | with_reducible refine Le.loop (fun _=>?_) _ | with_reducible refine Le.nilK ?_ ?_ | with_reducible refine Le.ifc _ ?_ ?_)
def kU (r_:ai):Option Bool:=
 Option.bind (oL r_.Kind (1:Int) (3:Int)) fun v1=>
 Option.bind (bif !v1 then
  some true
 else
  Option.bind (ib r_.Expr) fun v4=>
  some (!v4)
 ) fun s2=>
 some s2
theorem sG (r_:ai):Le (kU r_) (ia r_):=by
 unfold kU ia
 repeat' (first | with_reducible exact Le.refl _ | with_reducible exact rZ .. | with_reducible exact mL .. | with_reducible refine Le.gd _ ?_ | with_reducible refine Le.bif _ ?_ ?_ | with_reducible refine Le.bind ?_ (fun _=>?_) | with_reducible refine Le.sumK ?_ (fun _=>?_) | with_reducible refine Le.loop (fun _=>?_) _ | with_reducible refine Le.nilK ?_ ?_ | with_reducible refine Le.ifc _ ?_ ?_)
def aO (s:List ai):Int->Option (Int ⊕ (Unit ⊕ Int)):=fun s4=>
 bif decide (s4<(s.length:Int)) then
  gd (decide (0<=s4/\s4<(s.length:Int))) <|
  Option.bind (kU (s.getD s4.toNat default)) fun v8=>
  bif v8 then
   some (.inr (.inr s4))
  else
   gd (Ly .i64 (s4+(1:Int))) <|
   some (.inl (s4+(1:Int)))
 else
  some (.inr (.inl ()))
theorem cn (s:List ai) (sQ:_):Le (aO s sQ) (aN s sQ):=by
 unfold aO aN
 repeat' (first | with_reducible exact Le.refl _ | with_reducible exact sG .. | with_reducible refine Le.gd _ ?_ | with_reducible refine Le.bif _ ?_ ?_ | with_reducible refine Le.bind ?_ (fun _=>?_) | with_reducible refine Le.sumK ?_ (fun _=>?_) | with_reducible refine Le.loop (fun _=>?_) _ | with_reducible refine Le.nilK ?_ ?_ | with_reducible refine Le.ifc _ ?_ ?_)
def aU (s:List ai):Option Int:=
 sumK (
  nE 60 (aO s) (0:Int)
 ) fun s1=>
 some (-1:Int)
theorem cT (s:List ai):Le (aU s) (aF s):=by
 unfold aU aF
 repeat' (first | with_reducible exact Le.refl _ | with_reducible exact cn .. | with_reducible refine Le.gd _ ?_ | with_reducible refine Le.bif _ ?_ ?_ | with_reducible refine Le.bind ?_ (fun _=>?_) | with_reducible refine Le.sumK ?_ (fun _=>?_) | with_reducible refine Le.loop (fun _=>?_) _ | with_reducible refine Le.nilK ?_ ?_ | with_reducible refine Le.ifc _ ?_ ?_)
def aQ (s:List ai):Option Bool:=
 Option.bind (aU s) fun v1=>
 some (decide ((0:Int)<=v1))
theorem cu (s:List ai):Le (aQ s) (aC s):=by
 unfold aQ aC
 repeat' (first | with_reducible exact Le.refl _ | with_reducible exact cT .. | with_reducible refine Le.gd _ ?_ | with_reducible refine Le.bif _ ?_ ?_ | with_reducible refine Le.bind ?_ (fun _=>?_) | with_reducible refine Le.sumK ?_ (fun _=>?_) | with_reducible refine Le.loop (fun _=>?_) _ | with_reducible refine Le.nilK ?_ ?_ | with_reducible refine Le.ifc _ ?_ ?_)
def m6 (m:List ai):Option Bool:=
 Option.bind (oL (m.length:Int) (1:Int) (5:Int)) fun v1=>
 Option.bind (bif v1 then
  Option.bind (aQ m) fun v4=>
  some (!v4)
 else
  some false
 ) fun s2=>
 some s2
theorem ou (m:List ai):Le (m6 m) (d9 m):=by
 unfold m6 d9
 repeat' (first | with_reducible exact Le.refl _ | with_reducible exact rZ .. | with_reducible exact cu .. | with_reducible refine Le.gd _ ?_ | with_reducible refine Le.bif _ ?_ ?_ | with_reducible refine Le.bind ?_ (fun _=>?_) | with_reducible refine Le.sumK ?_ (fun _=>?_) | with_reducible refine Le.loop (fun _=>?_) _ | with_reducible refine Le.nilK ?_ ?_ | with_reducible refine Le.ifc _ ?_ ?_)
def iZ (m:List ai):((List ByteArray)×Int)->Option (((List ByteArray)×Int) ⊕ (List ByteArray)):=fun s8=>
 bif decide (s8.2<(m.length:Int)) then
  gd (decide (0<=s8.2/\s8.2<(m.length:Int))) <|
  gd (decide (0<=(m.getD s8.2.toNat default).Kind/\(m.getD s8.2.toNat default).Kind<4)) <|
  gd (decide ((zC.getD ((m.getD s8.2.toNat default).Kind).toNat default).size+(⟨#[32]⟩:ByteArray).size<=9223372036854775807)) <|
  Option.bind (fS (⟨((m.getD s8.2.toNat default).Expr).Op,((m.getD s8.2.toNat default).Expr).Name,((m.getD s8.2.toNat default).Expr).Kids⟩:aa)) fun v15=>
  gd (decide (((zC.getD ((m.getD s8.2.toNat default).Kind).toNat default)++(⟨#[32]⟩:ByteArray)).size+v15.size<=9223372036854775807)) <|
  gd (decide (0<=s8.2/\s8.2<(s8.1.length:Int))) <|
  gd (Ly .i64 (s8.2+(1:Int))) <|
  some (.inl ((s8.1.set s8.2.toNat (((zC.getD ((m.getD s8.2.toNat default).Kind).toNat default)++(⟨#[32]⟩:ByteArray))++v15)),(s8.2+(1:Int))))
 else
  some (.inr s8.1)
theorem qP (m:List ai) (sQ:_):Le (iZ m sQ) (fo m sQ):=by
 unfold iZ fo
 repeat' (first | with_reducible exact Le.refl _ | with_reducible exact mg .. | with_reducible refine Le.gd _ ?_ | with_reducible refine Le.bif _ ?_ ?_ | with_reducible refine Le.bind ?_ (fun _=>?_) | with_reducible refine Le.sumK ?_ (fun _=>?_) | with_reducible refine Le.loop (fun _=>?_) _ | with_reducible refine Le.nilK ?_ ?_ | with_reducible refine Le.ifc _ ?_ ?_)
def qA (elems:List ByteArray) (sep:ByteArray):Option ByteArray:=
 bif ((elems.length:Int)==(0:Int)) then
  some (⟨#[]⟩:ByteArray)
 else
  bif ((elems.length:Int)==(1:Int)) then
   gd (decide (0<=(0:Int)/\(0:Int)<(elems.length:Int))) <|
   some (elems.getD (0:Int).toNat default)
  else
   none
theorem wU (elems:List ByteArray) (sep:ByteArray):Le (qA elems sep) (ni elems sep):=by
 unfold qA ni
 repeat' (first | with_reducible exact Le.refl _ | with_reducible refine Le.gd _ ?_ | with_reducible refine Le.bif _ ?_ ?_ | with_reducible refine Le.bind ?_ (fun _=>?_) | with_reducible refine Le.sumK ?_ (fun _=>?_) | with_reducible refine Le.loop (fun _=>?_) _ | with_reducible refine Le.nilK ?_ ?_ | with_reducible refine Le.ifc _ ?_ ?_)
def mh (m:List ai):Option ByteArray:=
 Option.bind (m6 m) fun v1=>
 bif !v1 then
  some (⟨#[]⟩:ByteArray)
 else
  gd (decide (0<=(m.length:Int)/\(m.length:Int)<=(m.length:Int)/\(m.length:Int)*((16:Nat):Int)<=140737488355328/\(m.length:Int)<=140737488355328)) <|
  Option.bind (
   nE 60 (iZ m) ((List.replicate (m.length:Int).toNat (default:ByteArray)),(0:Int))
  ) fun s4=>
  Option.bind (qA s4 (⟨#[47]⟩:ByteArray)) fun v20=>
  some v20
theorem tv (m:List ai):Le (mh m) (iJ m):=by
 unfold mh iJ
 repeat' (first | with_reducible exact Le.refl _ | with_reducible exact ou .. | with_reducible exact qP .. | with_reducible exact wU .. | with_reducible refine Le.gd _ ?_ | with_reducible refine Le.bif _ ?_ ?_ | with_reducible refine Le.bind ?_ (fun _=>?_) | with_reducible refine Le.sumK ?_ (fun _=>?_) | with_reducible refine Le.loop (fun _=>?_) _ | with_reducible refine Le.nilK ?_ ?_ | with_reducible refine Le.ifc _ ?_ ?_)
def m7 (text:ByteArray):Option ((List ai)×Bool):=
 sumK (
  Option.bind (pJ text (⟨#[47]⟩:ByteArray)) fun v2=>
  nE 60 (jy v2) (([]:List ai),(0:Int))
 ) fun s1=>
 Option.bind (mh s1) fun v26=>
 bif (!decide (v26=text)) then
  some (([]:List ai),false)
 else
  some (s1,true)
theorem um (text:ByteArray):Le (m7 text) (ji text):=by
 unfold m7 ji
 repeat' (first | with_reducible exact Le.refl _ | with_reducible exact vR .. | with_reducible exact rK .. | with_reducible exact tv .. | with_reducible refine Le.gd _ ?_ | with_reducible refine Le.bif _ ?_ ?_ | with_reducible refine Le.bind ?_ (fun _=>?_) | with_reducible refine Le.sumK ?_ (fun _=>?_) | with_reducible refine Le.loop (fun _=>?_) _ | with_reducible refine Le.nilK ?_ ?_ | with_reducible refine Le.ifc _ ?_ ?_)
def uI (name:ByteArray):Option ((List ai)×Bool):=
 Option.bind (nR name) fun v1=>
 Option.bind (m7 v1) fun v2=>
 some (v2.1,v2.2)
theorem wV (name:ByteArray):Le (uI name) (j5 name):=by
 unfold uI j5
 repeat' (first | with_reducible exact Le.refl _ | with_reducible exact uR .. | with_reducible exact um .. | with_reducible refine Le.gd _ ?_ | with_reducible refine Le.bif _ ?_ ?_ | with_reducible refine Le.bind ?_ (fun _=>?_) | with_reducible refine Le.sumK ?_ (fun _=>?_) | with_reducible refine Le.loop (fun _=>?_) _ | with_reducible refine Le.nilK ?_ ?_ | with_reducible refine Le.ifc _ ?_ ?_)
def LM {α:Type} (x:Option α) (P:α->Prop):Prop:=∃ v,x=some v/\P v
section
variable {α β S E:Type} {P:α->Prop} {Q:β->Prop} {x y:Option α}
theorem LM.pure {v:α} (h:P v):LM (some v) P:=⟨v,rfl,h⟩
theorem LM.mono {P':α->Prop} (h:LM x P) (k:∀ v,P v->P' v):LM x P':=by
 obtain ⟨v,e,p⟩:=h;exact ⟨v,e,k v p⟩
theorem LM.bind {o:Option α} {f:α->Option β} (h:LM o P) (k:∀ v,P v->LM (f v) Q):LM (o.bind f) Q:=by
 obtain ⟨v,rfl,p⟩:=h;exact k v p
theorem LM.gd {b:Bool} (hb:b=true) (h:LM x P):LM (gd b x) P:=by rw [rD hb];exact h
theorem LM.gdD {A:Prop} [Decidable A] (hb:A) (h:LM x P):LM (Go.Proofs.YtcmimhffgmckjaaGreatDoor.gd (decide A) x) P:=LM.gd (decide_eq_true hb) h
theorem LM.gdI {n:Int} (hb : -9223372036854775808<=n/\n<=9223372036854775807) (h:LM x P):LM (Go.Proofs.YtcmimhffgmckjaaGreatDoor.gd (Ly .i64 n) x) P:=LM.gd (CZ hb) h
theorem LM.gdY {n:Int} (hb:0<=n/\n<=255) (h:LM x P):LM (Go.Proofs.YtcmimhffgmckjaaGreatDoor.gd (Ly .u8 n) x) P:=LM.gd (JQ hb) h
theorem Hn {n m:Nat} (hn:n<=1048576) (hm:Nat.ble m 1000=true):ez n m=true:=by
 have h1:=nlb hm;have h2:n*m<=1048576*1000:=Nat.mul_le_mul hn h1;exact decide_eq_true ⟨by omega,by omega⟩
theorem LM.gdC {n m:Nat} (hn:n<=1048576) (hm:Nat.ble m 1000=true) (h:LM x P):LM (Go.Proofs.YtcmimhffgmckjaaGreatDoor.gd (ez n m) x) P:=LM.gd (Hn hn hm) h
theorem LM.bif {b:Bool} (h1:b=true->LM x P) (h2:b=false->LM y P):LM (bif b then x else y) P:=by
 cases b with
 | true=>exact h1 rfl
 | false=>exact h2 rfl
theorem LM.bifD {A:Prop} [Decidable A] (h1:A->LM x P) (h2 : ¬ A->LM y P):LM (_root_.cond (decide A) x y) P:=
 LM.bif (fun h=>h1 (of_decide_eq_true h)) (fun h=>h2 (of_decide_eq_false h))
theorem LM.sum {W:Type} {PS:S->Prop} {PW:W->Prop} {a:Option (S ⊕ W)} {f:S->Option W} (h:LM a fun z=>match z with
  | .inl s=>PS s
  | .inr w=>PW w) (k:∀ s,PS s->LM (f s) PW):LM (sumK a f) PW:=by
 obtain ⟨v,rfl,p⟩:=h
 match v,p with
 | .inl s,p=>exact k s p
 | .inr w,p=>exact ⟨w,rfl,p⟩
theorem LM.loop {step:S->Option (S ⊕ E)} {R:E->Prop} (J:S->Prop) (mu:S->Nat) {s0:S} (h0:J s0) (h:∀ s,J s->LM (step s) fun z=>match z with
  | .inl s'=>J s'/\mu s'<mu s
  | .inr x=>R x):LM (aY step s0) R:=by
 have key:∀ (n:Nat) (s:S),mu s=n->J s->LM (aY step s) R:=by
  intro n
  induction n using Nat.strongRecOn with
  | _ n ih=>
   intro s hs hj;obtain ⟨z,e,hz⟩:=h s hj;rw [kv,e]
   match z,hz with
   | .inl s',hz=>exact ih (mu s') (by omega) s' rfl hz.1
   | .inr x,hz=>exact ⟨x,rfl,hz⟩
 exact key _ s0 rfl h0
theorem LM.eq {v:α} (h:LM x (· = v)):x=some v:=by
 obtain ⟨u,e,rfl⟩:=h;exact e
theorem LM.of {v:α} (h:x=some v) (p:P v):LM x P:=⟨v,h,p⟩
end
section
variable {α β:Type} {x x' y y':Option α}
end
structure Mac (σ:Type) where
 mv:σ->LI
 af:σ->Int->σ
 ky:σ->ByteArray
 dn:σ->Bool
 oc:σ->LI
section
variable {σ:Type} (M:Mac σ)
inductive Rea (s0:σ):σ->Prop
 | base:Rea s0 s0
 | step {s:σ} {m:Int} (h:Rea s0 s) (hm:m∈M.mv s):Rea s0 (M.af s m)
variable {M} {s0:σ} {N:Nat}
def Done (M:Mac σ) (V:List σ) (outs:LL) (v:σ):Prop:=(∀ m∈M.mv v,M.af v m∈V)/\(M.dn v=true->M.oc v∈outs)
structure Srch (M:Mac σ) (s0:σ) (V stack:List σ) (outs:List (List Int)) (cur:Option (σ×Nat)):Prop where
 rea:∀ v∈V,Rea M s0 v
 base:s0∈V
 nd:V.Nodup
 sub:∀ v∈stack,v∈V
 all:∀ v∈V,v∈stack\/(∃ n,cur=some (v,n))\/Done M V outs v
 out:∀ o∈outs,∃ v∈V,M.dn v=true/\M.oc v=o
 len:outs.length+stack.length<=V.length
 cur_:∀ s n,cur=some (s,n)->s∈V/\(M.dn s=true->M.oc s∈outs)/\∀ j,j<n->∀ m,(M.mv s)[j]? = some m->M.af s m∈V
theorem Srch.new {V stack:List σ} {s:σ} {outs:LL} {n:Nat} {m:Int} (h:Srch M s0 V stack outs (some (s,n))) (hm:(M.mv s)[n]? = some m) (hv:M.af s m∉V):Srch M s0 (V++[M.af s m]) (stack++[M.af s m]) outs (some (s,n+1)) where
 rea:=fun v hv=>by
  rcases List.mem_append.1 hv with hv | hv
  ·exact h.rea v hv
  ·rw [List.mem_singleton.1 hv];exact .step (h.rea s (h.cur_ s n rfl).1) (List.mem_of_getElem? hm)
 base:=List.mem_append_left _ h.base
 nd:=by
  rw [List.nodup_append];exact ⟨h.nd,by simp,fun a ha b hb e=>hv (by rw [<- List.mem_singleton.1 hb,<- e];exact ha)⟩
 sub:=fun v hv=>by
  rcases List.mem_append.1 hv with hv | hv
  ·exact List.mem_append_left _ (h.sub v hv)
  ·exact List.mem_append_right _ hv
 all:=fun v hv=>by
  rcases List.mem_append.1 hv with hv | hv
  ·rcases h.all v hv with h1 | ⟨k,h1⟩ | ⟨h1,h2⟩
   ·exact .inl (List.mem_append_left _ h1)
   ·injection h1 with h1;injection h1 with h1 _;subst h1;exact .inr (.inl ⟨n+1,rfl⟩)
   ·exact .inr (.inr ⟨fun m hm=>List.mem_append_left _ (h1 m hm),h2⟩)
  ·exact .inl (List.mem_append_right _ hv)
 out:=fun o ho=>by
  obtain ⟨v,g1,g2⟩:=h.out o ho;exact ⟨v,List.mem_append_left _ g1,g2⟩
 len:=by
  have := h.len;simp only [lla,List.length_singleton];omega
 cur_:=fun t k e=>by
  injection e with e;injection e with e1 e2;subst e1 e2;obtain ⟨g1,g2,g3⟩:=h.cur_ s n rfl;refine ⟨List.mem_append_left _ g1,g2,fun j hj m' hm' => ?_⟩;rcases Nat.lt_or_ge j n with h' | h'
  ·exact List.mem_append_left _ (g3 j h' m' hm')
  ·obtain rfl:j=n:=by omega
   rw [hm] at hm';obtain rfl:=osl hm';exact List.mem_append_right _ (List.mem_singleton.2 rfl)
end
section
variable {σ:Type} [Inhabited σ] (mv:σ->Option (LI)) (af:σ->Int->Option σ) (ky:σ->Option ByteArray) (dn:σ->Option Bool) (oc:σ->Option (LI)) (srt:LL->Option (LL))
variable {mv af ky dn oc srt} {M:Mac σ} {s0:σ} {N:Nat}
end
def rdX (x:LD):Bool:=x.Op==1||x.Op==5
def wrX (x:LD):Bool:=x.Op==2||x.Op==3||x.Op==5
theorem Fw (x:LD):LM (dE x) (· = rdX x):=by
 unfold dE rdX;exact LM.bind (P:=(· = (x.Op==1||x.Op==5))) (.bif (fun h => .pure (by rw [h];rfl)) fun h => .pure (by rw [h];rfl)) fun v hv => .pure hv
theorem CG (x:LD):LM (cW x) (· = wrX x):=by
 unfold cW wrX;exact LM.bind (P:=(· = (x.Op==2||x.Op==3))) (.bif (fun h => .pure (by rw [h];rfl)) fun h => .pure (by rw [h];rfl)) fun v hv=>LM.bind (P:=(· = (x.Op==2||x.Op==3||x.Op==5))) (.bif (fun h => .pure (by rw [<- hv,h];rfl)) fun h => .pure (by rw [<- hv,h];rfl)) fun v hv => .pure hv
def Vs (p:List (List LD)):Prop:=p.length<=3/\∀ n,(p.getD n default).length<=7
theorem Vs.of {p:List (List LD)} (h:fU (p.map fun r=>r.map mR)=true):Vs p/\∀ t k:Nat,t<p.length->k<(p.getD t default).length->lv (mR ((p.getD t default).getD k default))=true:=by
 simp only [fU,qN,bae,dte,List.all_eq_true,rowOk] at h;have hl:p.length<=3:=by simpa using h.1.1.1.1
 have hr:=h.1.1.1.2;refine ⟨⟨hl,fun n=>?_⟩,fun t k ht hk=>?_⟩
 ·by_cases hn:n<p.length
  ·have e:p.getD n default=p[n]:=by simp [hn]
   rw [e];have := (hr (p[n].map mR) (List.mem_map.2 ⟨p[n],List.getElem_mem hn,rfl⟩)).1;simpa using this
  ·rw [gdq,gen (by omega)];exact Nat.zero_le _
 ·have e:p.getD t default=p[t]:=by simp [ht]
  rw [e] at hk ⊢;have h1:=(hr (p[t].map mR) (List.mem_map.2 ⟨p[t],List.getElem_mem ht,rfl⟩)).2;have e2:p[t].getD k default=p[t][k]:=by simp [hk]
  rw [e2];exact h1 _ (List.mem_map.2 ⟨_,List.getElem_mem hk,rfl⟩)
def InR (x:LD):Prop:=0<=x.Loc/\x.Loc<=2/\0<=x.Reg/\x.Reg<=2/\0<=x.Val/\x.Val<=3
theorem Fx {x:LD} (h:lv (mR x)=true):InR x:=by
 obtain ⟨o,l,r,v⟩:=x;unfold InR;simp only;unfold lv mR at h;simp only [inB] at h
 split at h
 ·simp only [bae,dte,beq_iff_eq] at h;omega
 ·split at h
  ·simp only [bae,dte,beq_iff_eq] at h;omega
  ·split at h
   ·simp only [bae,dte,beq_iff_eq] at h;omega
   ·split at h
    ·simp only [bae,dte] at h;omega
    ·cases h
structure PV (p:List (List LD)):Prop where
 vs:Vs p
 pos:0<p.length
 ins:∀ t k:Nat,t<p.length->k<(p.getD t default).length->InR ((p.getD t default).getD k default)
theorem PV.of {p:List (List LD)} (h:fU (p.map fun r=>r.map mR)=true):PV p:=by
 have h1:=Vs.of h;refine ⟨h1.1,?_,fun t k ht hk=>Fx (h1.2 t k ht hk)⟩;simp only [fU,bae,dte,llm] at h;exact h.1.2
theorem dU {n m:Nat} (hn:n<=4000000) (hm:Nat.ble m 1000=true):ez n m=true:=by
 have h1:=nlb hm;have h2:n*m<=4000000*1000:=Nat.mul_le_mul hn h1;exact decide_eq_true ⟨by omega,by omega⟩
theorem AL (a:Z3b) (q i v:Int) (hq:0<=q/\q<=2) (hi:0<=i/\i<=2):Z3b.get (Z3b.set a q v) i=if i=q then v else Z3b.get a i:=by
 obtain ⟨x,y,z⟩:=a;have h1:q=0\/q=1\/q=2:=by omega
 have h2:i=0\/i=1\/i=2:=by omega
 rcases h1 with rfl | rfl | rfl <;> rcases h2 with rfl | rfl | rfl <;> rfl
theorem Fy (a:Z33) (q i:Int) (v:Z3b) (hq:0<=q/\q<=2) (hi:0<=i/\i<=2):Z33.get (Z33.set a q v) i=if i=q then v else Z33.get a i:=by
 obtain ⟨x,y,z⟩:=a;have h1:q=0\/q=1\/q=2:=by omega
 have h2:i=0\/i=1\/i=2:=by omega
 rcases h1 with rfl | rfl | rfl <;> rcases h2 with rfl | rfl | rfl <;> rfl
theorem LM.sumR {S W:Type} {a:Option (S ⊕ W)} {f:S->Option W} {w:W} (h:LM a (· = .inr w)):LM (sumK a f) (· = w):=by
 obtain ⟨v,rfl,rfl⟩:=h;exact ⟨w,rfl,rfl⟩
theorem LM.sumL {S W:Type} {a:Option (S ⊕ W)} {f:S->Option W} {w:W} {s:S} (h:LM a (· = .inl s)) (k:LM (f s) (· = w)):LM (sumK a f) (· = w):=by
 obtain ⟨v,rfl,rfl⟩:=h;exact k
def I9 (u:LJ) (t:Int) (x:LD):Int:=if x.Op=3 then Z3b.get (Z33.get u.reg t) x.Reg else x.Val
def KA (u:LJ) (t:Int) (x:LD):LJ:=
 ⟨u.p,Z3b.set u.pc t (Z3b.get u.pc t+1),if rdX x=true then Z33.set u.reg t (Z3b.set (Z33.get u.reg t) x.Reg (Z3b.get u.mem x.Loc)) else u.reg,if wrX x=true then Z3b.set u.mem x.Loc (I9 u t x) else u.mem⟩

end
end Go.Proofs.YtcmimhffgmckjaaGreatDoor
