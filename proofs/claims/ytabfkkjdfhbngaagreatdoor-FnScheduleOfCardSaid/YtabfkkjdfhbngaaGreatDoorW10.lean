/- Texts joined. No conditions. -/
import Derived.Test.YtabfkkjdfhbngaaGreatDoorProg
import Derived.Shelf.Strings.OnBuilder
import Derived.ChangeSame
import Derived.ChangeSlices
import Derived.WideKeyArgs
import Derived.Carry
import Derived.Deep.Slices
import Derived.Deep.Fields
import Derived.ProofKit
import Derived.OpenShut
import Derived.BigRegion
import Derived.Sort.Row
import Derived.Sort.Grow
import Derived.Shelf.Slices.Delete
import Derived.Shelf.SortM.Plain
import Derived.Shelf.SortM.SortNone
import Derived.Test.YtabfkkjdfhbngaaGreatDoorW9
namespace Go.Proofs.YtabfkkjdfhbngaaGreatDoor
noncomputable section
open _root_.Inhabited renaming default -> Rh
open _root_.Bool renaming true -> Ri
open _root_.Bool renaming false -> Rj
open _root_.Option renaming some -> Rk
open _root_.Option renaming none -> Rl
open _root_.Decidable renaming decide -> Rm
open _root_.Go.Proofs.Tryz
open _root_.Go.Proofs.Tryz renaming prog -> Rn
open _root_.Option renaming bind -> WF, getD_some -> W9
open _root_.Int renaming toNat_of_nonneg -> WG, le_refl -> WW
open _root_.List renaming all_eq_true -> WH, range -> WI, getElem_mem -> WJ, mem_cons -> WK, mem_singleton -> WL, length_nil -> WN, mem_append -> WO, not_mem_nil -> WP, mem_range -> WQ, length_range -> WR, replicate -> WT, exists_cons_of_ne_nil -> WX, getElem_map -> WY, mem_filter -> WZ, mem_of_mem_drop -> W5, mem_of_mem_take -> W6, mem_cons_of_mem -> W7, getElem?_map -> W8, length_replicate -> Xb, eq_of_mem_replicate -> Xd, eq_nil_of_length_eq_zero -> Xe, mem_append_left -> Xf, mem_append_right -> Xg
open _root_.BitVec renaming ofInt -> WM
open _root_.Nat renaming zero_le -> WS, not_succ_le_zero -> WU, le_of_succ_le_succ -> WV, lt_of_lt_of_le -> Xa
open _root_.Array renaming getElem?_modify -> Xh
set_option maxHeartbeats 4000000
open Go.RowKit
set_option maxRecDepth 100000
def o8 (name:BA):Option BA:=
 bif Rm (name=(⟨#[115,101,113]⟩:BA)) then
  Rk (⟨#[97,99,121,99,108,105,99,32,112,111,124,114,102,124,99,111,124,102,114]⟩:BA)
 else
  bif Rm (name=(⟨#[116,115,111]⟩:BA)) then
   Rk (⟨#[97,99,121,99,108,105,99,32,112,111,38,108,111,99,124,114,102,124,99,111,124,102,114,47,97,99,121,99,108,105,99,32,112,111,45,119,114,124,102,101,110,99,101,124,114,102,38,101,120,116,124,99,111,124,102,114,47,105,114,114,101,102,32,102,114,59,99,111]⟩:BA)
  else
   bif Rm (name=(⟨#[112,115,111]⟩:BA)) then
    Rk (⟨#[97,99,121,99,108,105,99,32,112,111,38,108,111,99,124,114,102,124,99,111,124,102,114,47,97,99,121,99,108,105,99,32,112,111,45,40,119,114,124,119,119,41,124,102,101,110,99,101,124,114,102,38,101,120,116,124,99,111,124,102,114,47,105,114,114,101,102,32,102,114,59,99,111]⟩:BA)
   else
    bif Rm (name=(⟨#[114,97]⟩:BA)) then
     Rk (⟨#[97,99,121,99,108,105,99,32,112,111,124,114,102,47,97,99,121,99,108,105,99,32,43,40,112,111,124,114,102,41,38,108,111,99,124,99,111,124,102,114,47,105,114,114,101,102,32,102,114,59,99,111]⟩:BA)
    else
     bif Rm (name=(⟨#[108,111,99]⟩:BA)) then
      Rk (⟨#[97,99,121,99,108,105,99,32,112,111,38,108,111,99,124,114,102,124,99,111,124,102,114]⟩:BA)
     else
      Rk (⟨#[]⟩:BA)
theorem wX (name:BA):Le (o8 name) (lc name):=by
 unfold o8 lc
 solve_by_elim (maxDepth:=9999) only [*,Le.gd,Le.bif,Le.bind,Le.sumK,Le.loop,Le.nilK,Le.ifc,Le.refl]
def cQ (s:BA) (c:Int):Option Int:=
 Rk (PR s c)
theorem lL (s:BA) (c:Int):Le (cQ s c) (bD s c):=by
 unfold cQ bD
 solve_by_elim (maxDepth:=9999) only [*,Le.gd,Le.bif,Le.bind,Le.sumK,Le.loop,Le.nilK,Le.ifc,Le.refl]
def bX (s:BA) (substr:BA):Option Int:=
 WF (bif ((substr.size:Int)==(0:Int)) then
  Rk Ri
 else
  Rk (Rm<|substr=s)
 ) λs1=>
 bif s1 then
  Rk (0:Int)
 else
  bif ((substr.size:Int)==(1:Int)) then
   gd (Rm<|0<=(0:Int)/\(0:Int)<(substr.size:Int)) <|
   WF (cQ s ((substr.data.getD (0:Int).toNat 0).toNat:Int)) λv6=>
   Rk v6
  else
   bif Rm ((s.size:Int)<=(substr.size:Int)) then
    Rk (-1:Int)
   else
    Rl
theorem gQ (s:BA) (substr:BA):Le (bX s substr) (bz s substr):=by
 unfold bX bz
 solve_by_elim (maxDepth:=9999) only [*,lL,Le.gd,Le.bif,Le.bind,Le.sumK,Le.loop,Le.nilK,Le.ifc,Le.refl]
def mR (s:BA) (substr:BA):Option Int:=
 WF (bX s substr) λv1=>
 Rk v1
theorem rT (s:BA) (substr:BA):Le (mR s substr) (jq s substr):=by
 unfold mR jq
 solve_by_elim (maxDepth:=9999) only [*,gQ,Le.gd,Le.bif,Le.bind,Le.sumK,Le.loop,Le.nilK,Le.ifc,Le.refl]
def mS (substr:BA):(Int×BA)->Option ((Int×BA) ⊕ Int):=λs6=>
 WF (mR s6.2 substr) λv8=>
 bif (v8==(-1:Int)) then
  Rk (.inr s6.1)
 else
  gd (QS .i64<|s6.1+(1:Int)) <|
  gd (QS .i64<|v8+(substr.size:Int)) <|
  gd (Rm<|0<=(v8+(substr.size:Int))/\(v8+(substr.size:Int))<=(s6.2.size:Int)/\(s6.2.size:Int)<=(s6.2.size:Int)) <|
  Rk (.inl ((s6.1+(1:Int)),(s6.2.extract (v8+(substr.size:Int)).toNat (s6.2.size:Int).toNat)))
theorem vC (substr:BA) (sQ:_):Le (mS substr sQ) (mo substr sQ):=by
 unfold mS mo
 solve_by_elim (maxDepth:=9999) only [*,rT,Le.gd,Le.bif,Le.bind,Le.sumK,Le.loop,Le.nilK,Le.ifc,Le.refl]
def qU (s:BA) (substr:BA):Option Int:=
 bif ((substr.size:Int)==(0:Int)) then
  Rl
 else
  bif ((substr.size:Int)==(1:Int)) then
   gd (Rm<|0<=(0:Int)/\(0:Int)<(substr.size:Int)) <|
   Rk (PQ s ((substr.data.getD (0:Int).toNat 0).toNat:Int))
  else
   oD 60 (mS substr) ((0:Int),s)
theorem yB (s:BA) (substr:BA):Le (qU s substr) (mq s substr):=by
 unfold qU mq
 solve_by_elim (maxDepth:=9999) only [*,vC,Le.gd,Le.bif,Le.bind,Le.sumK,Le.loop,Le.nilK,Le.ifc,Le.refl]
def i9 (s:BA) (sep:BA) (sepSave:Int) (s3:Int):((List BA)×Int×BA)->Option (((List BA)×Int×BA) ⊕ ((List BA)×Int×BA)):=λs14=>
 bif Rm (s14.2.1<((if ((s.size:Int)+(1:Int))<s3 then ((s.size:Int)+(1:Int)) else s3)-(1:Int))) then
  WF (mR s14.2.2 sep) λv18=>
  bif Rm (v18<(0:Int)) then
   Rk (.inr (s14.1,s14.2.1,s14.2.2))
  else
   gd (QS .i64<|v18+sepSave) <|
   gd (Rm<|0<=(0:Int)/\(0:Int)<=(v18+sepSave)/\(v18+sepSave)<=(s14.2.2.size:Int)) <|
   gd (Rm<|0<=s14.2.1/\s14.2.1<(s14.1.length:Int)) <|
   gd (QS .i64<|v18+(sep.size:Int)) <|
   gd (Rm<|0<=(v18+(sep.size:Int))/\(v18+(sep.size:Int))<=(s14.2.2.size:Int)/\(s14.2.2.size:Int)<=(s14.2.2.size:Int)) <|
   gd (QS .i64<|s14.2.1+(1:Int)) <|
   Rk (.inl ((s14.1.set s14.2.1.toNat<|s14.2.2.extract (0:Int).toNat (v18+sepSave).toNat),(s14.2.1+(1:Int)),(s14.2.2.extract (v18+(sep.size:Int)).toNat (s14.2.2.size:Int).toNat)))
 else
  Rk (.inr (s14.1,s14.2.1,s14.2.2))
theorem sD (s:BA) (sep:BA) (sepSave:Int) (s3:Int) (sQ:_):Le (i9 s sep sepSave s3 sQ) (iW s sep sepSave s3 sQ):=by
 unfold i9 iW
 solve_by_elim (maxDepth:=9999) only [*,rT,Le.gd,Le.bif,Le.bind,Le.sumK,Le.loop,Le.nilK,Le.ifc,Le.refl]
def mU (s:BA) (sep:BA) (sepSave:Int) (n:Int):Option (List BA):=
 bif (n==(0:Int)) then
  Rk ([]:List BA)
 else
  bif Rm (sep=(⟨#[]⟩:BA)) then
   Rl
  else
   WF (
    bif Rm (n<(0:Int)) then
     WF (qU s sep) λv5=>
     gd (QS .i64<|v5+(1:Int)) <|
     Rk (v5+(1:Int))
    else
     Rk n
   ) λs3=>
   gd (QS .i64<|(s.size:Int)+(1:Int)) <|
   gd (Rm<|0<=(if ((s.size:Int)+(1:Int))<s3 then ((s.size:Int)+(1:Int)) else s3)/\(if ((s.size:Int)+(1:Int))<s3 then ((s.size:Int)+(1:Int)) else s3)<=(if ((s.size:Int)+(1:Int))<s3 then ((s.size:Int)+(1:Int)) else s3)/\(if ((s.size:Int)+(1:Int))<s3 then ((s.size:Int)+(1:Int)) else s3)*((16:Nat):Int)<=140737488355328/\(if ((s.size:Int)+(1:Int))<s3 then ((s.size:Int)+(1:Int)) else s3)<=140737488355328) <|
   gd (QS .i64<|(if ((s.size:Int)+(1:Int))<s3 then ((s.size:Int)+(1:Int)) else s3)-(1:Int)) <|
   WF (
    oD 60 (i9 s sep sepSave s3) ((WT (if ((s.size:Int)+(1:Int))<s3 then ((s.size:Int)+(1:Int)) else s3).toNat (Rh:BA)),(0:Int),s)
   ) λs10=>
   gd (Rm<|0<=s10.2.1/\s10.2.1<(s10.1.length:Int)) <|
   gd (QS .i64<|s10.2.1+(1:Int)) <|
   gd (Rm<|0<=(0:Int)/\(0:Int)<=(s10.2.1+(1:Int))/\(s10.2.1+(1:Int))<=((s10.1.set s10.2.1.toNat s10.2.2).length:Int)) <|
   Rk (((s10.1.set s10.2.1.toNat s10.2.2).drop (0:Int).toNat).take<|(s10.2.1+(1:Int)).toNat-(0:Int).toNat)
theorem vD (s:BA) (sep:BA) (sepSave:Int) (n:Int):Le (mU s sep sepSave n) (jd s sep sepSave n):=by
 unfold mU jd
 solve_by_elim (maxDepth:=9999) only [*,yB,sD,Le.gd,Le.bif,Le.bind,Le.sumK,Le.loop,Le.nilK,Le.ifc,Le.refl]
def qV (s:BA) (sep:BA):Option (List BA):=
 WF (mU s sep (0:Int) (-1:Int)) λv1=>
 Rk v1
theorem yC (s:BA) (sep:BA):Le (qV s sep) (mr s sep):=by
 unfold qV mr
 solve_by_elim (maxDepth:=9999) only [*,vD,Le.gd,Le.bif,Le.bind,Le.sumK,Le.loop,Le.nilK,Le.ifc,Le.refl]
def fg (s:BA) (sep:BA):Option (ByteArray×ByteArray×Bool):=
 WF (bX s sep) λv1=>
 bif Rm ((0:Int)<=v1) then
  gd (Rm<|0<=(0:Int)/\(0:Int)<=v1/\v1<=(s.size:Int)) <|
  gd (QS .i64<|v1+(sep.size:Int)) <|
  gd (Rm<|0<=(v1+(sep.size:Int))/\(v1+(sep.size:Int))<=(s.size:Int)/\(s.size:Int)<=(s.size:Int)) <|
  Rk ((s.extract (0:Int).toNat v1.toNat),(s.extract (v1+(sep.size:Int)).toNat (s.size:Int).toNat),Ri)
 else
  Rk (s,(⟨#[]⟩:BA),Rj)
theorem o9 (s:BA) (sep:BA):Le (fg s sep) (cT s sep):=by
 unfold fg cT
 solve_by_elim (maxDepth:=9999) only [*,gQ,Le.gd,Le.bif,Le.bind,Le.sumK,Le.loop,Le.nilK,Le.ifc,Le.refl]
def ut (s:BA) (sep:BA):Option (ByteArray×ByteArray×Bool):=
 WF (fg s sep) λv1=>
 Rk (v1.1,v1.2.1,v1.2.2)
theorem Au (s:BA) (sep:BA):Le (ut s sep) (qf s sep):=by
 unfold ut qf
 solve_by_elim (maxDepth:=9999) only [*,o9,Le.gd,Le.bif,Le.bind,Le.sumK,Le.loop,Le.nilK,Le.ifc,Le.refl]
def df (s:List BA) (v:BA):Int->Option (Int ⊕ (Unit ⊕ Int)):=λs4=>
 bif Rm (s4<(s.length:Int)) then
  gd (Rm<|0<=s4/\s4<(s.length:Int)) <|
  bif Rm (v=(s.getD s4.toNat Rh)) then
   Rk (.inr<|.inr s4)
  else
   gd (QS .i64<|s4+(1:Int)) <|
   Rk (.inl<|s4+(1:Int))
 else
  Rk (.inr<|.inl ())
theorem l6 (s:List BA) (v:BA) (sQ:_):Le (df s v sQ) (da s v sQ):=by
 unfold df da J
 solve_by_elim (maxDepth:=9999) only [*,Le.gd,Le.bif,Le.bind,Le.sumK,Le.loop,Le.nilK,Le.ifc,Le.refl]
def bY (s:List BA) (v:BA):Option Int:=
 sumK (
  oD 60 (df s v) (0:Int)
 ) λs1=>
 Rk (-1:Int)
theorem gT (s:List BA) (v:BA):Le (bY s v) (bA s v):=by
 unfold bY bA
 solve_by_elim (maxDepth:=9999) only [*,l6,Le.gd,Le.bif,Le.bind,Le.sumK,Le.loop,Le.nilK,Le.ifc,Le.refl]
def bF (r_:aa) (c:Int):Option (aa×Bool):=
 WF (bif r_.failed then
  Rk Ri
 else
  Rk (Rm<|r_.rest=(⟨#[]⟩:BA))
 ) λs1=>
 WF (bif s1 then
  Rk Ri
 else
  gd (Rm<|0<=(0:Int)/\(0:Int)<(r_.rest.size:Int)) <|
  Rk (((r_.rest.data.getD (0:Int).toNat 0).toNat:Int) != c)
 ) λs3=>
 bif s3 then
  Rk ((⟨r_.rest,r_.failed⟩:aa),Rj)
 else
  gd (Rm<|0<=(1:Int)/\(1:Int)<=(r_.rest.size:Int)/\(r_.rest.size:Int)<=(r_.rest.size:Int)) <|
  Rk ((⟨(r_.rest.extract (1:Int).toNat (r_.rest.size:Int).toNat),r_.failed⟩:aa),Ri)
theorem lZ (r_:aa) (c:Int):Le (bF r_ c) (aY r_ c):=by
 unfold bF aY
 solve_by_elim (maxDepth:=9999) only [*,Le.gd,Le.bif,Le.bind,Le.sumK,Le.loop,Le.nilK,Le.ifc,Le.refl]
def gV (r_:aa):Int->Option (Int ⊕ Int):=λs4=>
 WF (bif Rm (s4<(r_.rest.size:Int)) then
  gd (Rm<|0<=s4/\s4<(r_.rest.size:Int)) <|
  Rk (Rm<|(97:Int)<=((r_.rest.data.getD s4.toNat 0).toNat:Int))
 else
  Rk Rj
 ) λs6=>
 WF (bif s6 then
  gd (Rm<|0<=s4/\s4<(r_.rest.size:Int)) <|
  Rk (Rm<|((r_.rest.data.getD s4.toNat 0).toNat:Int)<=(122:Int))
 else
  Rk Rj
 ) λs9=>
 bif s9 then
  gd (QS .i64<|s4+(1:Int)) <|
  Rk (.inl<|s4+(1:Int))
 else
  Rk (.inr s4)
theorem qW (r_:aa) (sQ:_):Le (gV r_ sQ) (gG r_ sQ):=by
 unfold gV gG
 solve_by_elim (maxDepth:=9999) only [*,Le.gd,Le.bif,Le.bind,Le.sumK,Le.loop,Le.nilK,Le.ifc,Le.refl]
def jZ (r_:aa):Option (aa×BA):=
 WF (
  oD 60 (gV r_) (0:Int)
 ) λs1=>
 gd (Rm<|0<=(0:Int)/\(0:Int)<=s1/\s1<=(r_.rest.size:Int)) <|
 gd (Rm<|0<=s1/\s1<=(r_.rest.size:Int)/\(r_.rest.size:Int)<=(r_.rest.size:Int)) <|
 Rk ((⟨(r_.rest.extract s1.toNat (r_.rest.size:Int).toNat),r_.failed⟩:aa),(r_.rest.extract (0:Int).toNat s1.toNat))
theorem tG (r_:aa):Le (jZ r_) (fE r_):=by
 unfold jZ fE
 solve_by_elim (maxDepth:=9999) only [*,qW,Le.gd,Le.bif,Le.bind,Le.sumK,Le.loop,Le.nilK,Le.ifc,Le.refl]
def dK (dI:aa->Int->Option (aa×ae)) (rcf:aa->Option (aa×ae)) (r_:aa):Option (aa×ae):=
 WF (bF (⟨r_.rest,r_.failed⟩:aa) (40:Int)) λv1=>
 bif v1.2 then
  WF (dI (⟨v1.1.rest,v1.1.failed⟩:aa) (3:Int)) λv3=>
  WF (
   WF (bF (⟨v3.1.rest,v3.1.failed⟩:aa) (41:Int)) λv5=>
   bif !v5.2 then
    Rk (v5.1.rest,Ri)
   else
    Rk (v5.1.rest,v5.1.failed)
  ) λs4=>
  Rk ((⟨s4.1,s4.2⟩:aa),(⟨v3.2.Op,v3.2.Name,v3.2.Kids⟩:ae))
 else
  WF (bF (⟨v1.1.rest,v1.1.failed⟩:aa) (126:Int)) λv7=>
  bif v7.2 then
   WF (rcf (⟨v7.1.rest,v7.1.failed⟩:aa)) λv9=>
   Rk ((⟨v9.1.rest,v9.1.failed⟩:aa),(⟨(6:Int),(⟨#[]⟩:BA),([v9.2.inn]:List ZTE)⟩:ae))
  else
   WF (bF (⟨v7.1.rest,v7.1.failed⟩:aa) (43:Int)) λv10=>
   bif v10.2 then
    WF (rcf (⟨v10.1.rest,v10.1.failed⟩:aa)) λv12=>
    Rk ((⟨v12.1.rest,v12.1.failed⟩:aa),(⟨(7:Int),(⟨#[]⟩:BA),([v12.2.inn]:List ZTE)⟩:ae))
   else
    WF (jZ (⟨v10.1.rest,v10.1.failed⟩:aa)) λv13=>
    WF (
     bif Rm (v13.2=(⟨#[]⟩:BA)) then
      Rk Ri
     else
      Rk v13.1.failed
    ) λs14=>
    Rk ((⟨v13.1.rest,s14⟩:aa),(⟨(1:Int),v13.2,([]:List ZTE)⟩:ae))
theorem ni (dI:aa->Int->Option (aa×ae)) (rz:aa->Int->Option (aa×ae)) (zZ:∀ x0 x1,Le (dI x0 x1)<|rz x0 x1) (rcf:aa->Option (aa×ae)) (rcf':aa->Option (aa×ae)) (hrcf:∀ x0,Le (rcf x0)<|rcf' x0) (r_:aa):Le (dK dI rcf r_) (bR rz rcf' r_):=by
 unfold dK bR
 solve_by_elim (maxDepth:=9999) only [*,lZ,tG,zZ,hrcf,Le.gd,Le.bif,Le.bind,Le.sumK,Le.loop,Le.nilK,Le.ifc,Le.refl]
def dL (dI:aa->Int->Option (aa×ae)):Nat->aa->Option (aa×ae)
 | 0=>λ_=>Rl
 | n+1=>dK dI (dL dI n)
def j3 (dI:aa->Int->Option (aa×ae)) (r_:aa):Option (aa×ae):=dL dI 40 r_
theorem gb (dI:aa->Int->Option (aa×ae)) (rz:aa->Int->Option (aa×ae)) (zZ:∀ x0 x1,Le (dI x0 x1)<|rz x0 x1):∀ (n m:Nat),n<=m->∀ x0,Le (dL dI n x0) (bu rz m x0)
 | 0,_,_=>λx0 v h=>by cases h
 | n+1,0,h=>absurd h (WU _)
 | n+1,m+1,h=>λx0=>ni dI rz zZ _ _ (gb dI rz zZ n m<|WV h) x0
theorem oF (dI:aa->Int->Option (aa×ae)) (rz:aa->Int->Option (aa×ae)) (zZ:∀ x0 x1,Le (dI x0 x1)<|rz x0 x1) (r_:aa):Le (j3 dI r_) (eC rz r_):=λv h=>vo 40 λm hm=>gb dI rz zZ 40 m hm r_ v h
def j4 (op:Int):Option (Int×ByteArray×Int):=
 bif (op==(1:Int)) then
  Rk ((0:Int),(⟨#[]⟩:BA),(0:Int))
 else
  bif (op==(2:Int)) then
   Rk ((3:Int),(⟨#[124]⟩:BA),(2:Int))
  else
   bif (op==(3:Int)) then
    Rk ((2:Int),(⟨#[38]⟩:BA),(2:Int))
   else
    bif (op==(4:Int)) then
     Rk ((2:Int),(⟨#[45]⟩:BA),(2:Int))
    else
     bif (op==(5:Int)) then
      Rk ((1:Int),(⟨#[59]⟩:BA),(2:Int))
     else
      bif (op==(6:Int)) then
       Rk ((0:Int),(⟨#[126]⟩:BA),(1:Int))
      else
       bif (op==(7:Int)) then
        Rk ((0:Int),(⟨#[43]⟩:BA),(1:Int))
       else
        Rk ((0:Int),(⟨#[]⟩:BA),(-1:Int))
theorem mV (op:Int):Le (j4 op) (gH op):=by
 unfold j4 gH
 solve_by_elim (maxDepth:=9999) only [*,Le.gd,Le.bif,Le.bind,Le.sumK,Le.loop,Le.nilK,Le.ifc,Le.refl]
def fo (level:Int):(ByteArray×Bool×Int×Int)->Option ((ByteArray×Bool×Int×Int) ⊕ (ByteArray×Bool×Int)):=λs12=>
 bif Rm (s12.2.2.1<(([(2:Int),(3:Int),(4:Int),(5:Int)]:LI).length:Int)) then
  WF (
   gd (Rm<|0<=s12.2.2.1/\s12.2.2.1<(([(2:Int),(3:Int),(4:Int),(5:Int)]:LI).length:Int)) <|
   WF (j4<|([(2:Int),(3:Int),(4:Int),(5:Int)]:LI).getD s12.2.2.1.toNat Rh) λv17=>
   WF (bif (s12.2.2.2==(0:Int)) then
    Rk (v17.1==level)
   else
    Rk Rj
   ) λs18=>
   bif s18 then
    gd (Rm<|0<=(0:Int)/\(0:Int)<(v17.2.1.size:Int)) <|
    WF (bF (⟨s12.1,s12.2.1⟩:aa) ((v17.2.1.data.getD (0:Int).toNat 0).toNat:Int)) λv22=>
    bif v22.2 then
     Rk (v22.1.rest,v22.1.failed,(([(2:Int),(3:Int),(4:Int),(5:Int)]:LI).getD s12.2.2.1.toNat Rh))
    else
     Rk (v22.1.rest,v22.1.failed,s12.2.2.2)
   else
    Rk (s12.1,s12.2.1,s12.2.2.2)
  ) λs15=>
  gd (QS .i64<|s12.2.2.1+(1:Int)) <|
  Rk (.inl (s15.1,s15.2.1,(s12.2.2.1+(1:Int)),s15.2.2))
 else
  Rk (.inr (s12.1,s12.2.1,s12.2.2.2))
theorem pg (level:Int) (sQ:_):Le (fo level sQ) (fe level sQ):=by
 unfold fo fe J
 solve_by_elim (maxDepth:=9999) only [*,mV,lZ,Le.gd,Le.bif,Le.bind,Le.sumK,Le.loop,Le.nilK,Le.ifc,Le.refl]
def fU (rcf:aa->Int->Option (aa×ae)) (level:Int):(ByteArray×Bool×Int×ByteArray×(List ZTE))->Option ((ByteArray×Bool×Int×ByteArray×(List ZTE)) ⊕ (aa×ae)):=λs7=>
 WF (
  oD 60 (fo level) (s7.1,s7.2.1,(0:Int),(0:Int))
 ) λs9=>
 bif (s9.2.2==(0:Int)) then
  Rk (.inr ((⟨s9.1,s9.2.1⟩:aa),(⟨s7.2.2.1,s7.2.2.2.1,s7.2.2.2.2⟩:ae)))
 else
  WF (rcf (⟨s9.1,s9.2.1⟩:aa)<|level-(1:Int)) λv26=>
  Rk (.inl (v26.1.rest,v26.1.failed,s9.2.2,(⟨#[]⟩:BA),([(⟨s7.2.2.1,s7.2.2.2.1,s7.2.2.2.2⟩:ae).inn,v26.2.inn]:List ZTE)))
theorem qp (rcf:aa->Int->Option (aa×ae)) (rcf':aa->Int->Option (aa×ae)) (hrcf:∀ x0 x1,Le (rcf x0 x1)<|rcf' x0 x1) (level:Int) (sQ:_):Le (fU rcf level sQ) (fP rcf' level sQ):=by
 unfold fU fP
 solve_by_elim (maxDepth:=9999) only [*,pg,hrcf,Le.gd,Le.bif,Le.bind,Le.sumK,Le.loop,Le.nilK,Le.ifc,Le.refl]
def gW (rcf:aa->Int->Option (aa×ae)) (r_:aa) (level:Int):Option (aa×ae):=
 bif (level==(0:Int)) then
  WF (j3 rcf (⟨r_.rest,r_.failed⟩:aa)) λv2=>
  Rk ((⟨v2.1.rest,v2.1.failed⟩:aa),(⟨v2.2.Op,v2.2.Name,v2.2.Kids⟩:ae))
 else
  gd (QS .i64<|level-(1:Int)) <|
  WF (rcf (⟨r_.rest,r_.failed⟩:aa)<|level-(1:Int)) λv4=>
  oD 60 (fU rcf level) (v4.1.rest,v4.1.failed,v4.2.Op,v4.2.Name,v4.2.Kids)
theorem qX (rcf:aa->Int->Option (aa×ae)) (rcf':aa->Int->Option (aa×ae)) (hrcf:∀ x0 x1,Le (rcf x0 x1)<|rcf' x0 x1) (r_:aa) (level:Int):Le (gW rcf r_ level) (dD rcf' r_ level):=by
 unfold gW dD
 solve_by_elim (maxDepth:=9999) only [*,oF,qp,hrcf,Le.gd,Le.bif,Le.bind,Le.sumK,Le.loop,Le.nilK,Le.ifc,Le.refl]
def gX:Nat->aa->Int->Option (aa×ae)
 | 0=>λ_ _=>Rl
 | n+1=>gW (gX n)
def nA (r_:aa) (level:Int):Option (aa×ae):=gX 40 r_ level
theorem j5:∀ (n m:Nat),n<=m->∀ x0 x1,Le (gX n x0 x1) (bC m x0 x1)
 | 0,_,_=>λx0 x1 v h=>by cases h
 | n+1,0,h=>absurd h (WU _)
 | n+1,m+1,h=>λx0 x1=>qX _ _ (j5 n m<|WV h) x0 x1
theorem sF (r_:aa) (level:Int):Le (nA r_ level) (iX r_ level):=λv h=>vo 40 λm hm=>j5 40 m hm r_ level v h
def dh (s:List BA) (v:BA):Option Bool:=
 WF (bY s v) λv1=>
 Rk (Rm<|(0:Int)<=v1)
theorem l7 (s:List BA) (v:BA):Le (dh s v) (bH s v):=by
 unfold dh bH
 solve_by_elim (maxDepth:=9999) only [*,gT,Le.gd,Le.bif,Le.bind,Le.sumK,Le.loop,Le.nilK,Le.ifc,Le.refl]
def pq (name:BA):Option Bool:=
 WF (dh EM name) λv1=>
 Rk v1
theorem wY (name:BA):Le (pq name) (lg name):=by
 unfold pq lg
 solve_by_elim (maxDepth:=9999) only [*,l7,Le.gd,Le.bif,Le.bind,Le.sumK,Le.loop,Le.nilK,Le.ifc,Le.refl]
def mW (rcf:ae->Int->Option Int) (e_:ae) (most:Int):(Int×Int)->Option ((Int×Int) ⊕ Int):=λs13=>
 bif Rm (s13.1<(e_.Kids.length:Int)) then
  gd (Rm<|0<=s13.1/\s13.1<(e_.Kids.length:Int)) <|
  gd (QS .i64<|most-(1:Int)) <|
  WF (rcf (⟨((e_.Kids.getD s13.1.toNat Rh).out).Op,((e_.Kids.getD s13.1.toNat Rh).out).Name,((e_.Kids.getD s13.1.toNat Rh).out).Kids⟩:ae)<|most-(1:Int)) λv18=>
  gd (QS .i64<|s13.2+v18) <|
  bif Rm ((40:Int)<(s13.2+v18)) then
   Rk (.inr<|s13.2+v18)
  else
   gd (QS .i64<|s13.1+(1:Int)) <|
   Rk (.inl ((s13.1+(1:Int)),(s13.2+v18)))
 else
  Rk (.inr s13.2)
theorem vE (rcf:ae->Int->Option Int) (rcf':ae->Int->Option Int) (hrcf:∀ x0 x1,Le (rcf x0 x1)<|rcf' x0 x1) (e_:ae) (most:Int) (sQ:_):Le (mW rcf e_ most sQ) (mD rcf' e_ most sQ):=by
 unfold mW mD J
 solve_by_elim (maxDepth:=9999) only [*,hrcf,Le.gd,Le.bif,Le.bind,Le.sumK,Le.loop,Le.nilK,Le.ifc,Le.refl]
def pu (rcf:ae->Int->Option Int) (e_:ae) (most:Int):Option Int:=
 WF (j4 e_.Op) λv1=>
 sumK (
  WF (
   bif (most==(0:Int)) then
    Rk Ri
   else
    bif ((e_.Kids.length:Int) != v1.2.2) then
     Rk Ri
    else
     WF (pq e_.Name) λv6=>
     bif (!((e_.Op==(1:Int))==v6)) then
      Rk Ri
     else
      bif (e_.Op != (1:Int)) then
       Rk (!decide (e_.Name=(⟨#[]⟩:BA)))
      else
       Rk Rj
  ) λs3=>
  bif s3 then
   Rk (.inr (41:Int))
  else
   Rk (.inl ())
 ) λs2=>
 WF (
  oD 60 (mW rcf e_ most) ((0:Int),(1:Int))
 ) λs10=>
 Rk s10
theorem wZ (rcf:ae->Int->Option Int) (rcf':ae->Int->Option Int) (hrcf:∀ x0 x1,Le (rcf x0 x1)<|rcf' x0 x1) (e_:ae) (most:Int):Le (pu rcf e_ most) (lj rcf' e_ most):=by
 unfold pu lj
 solve_by_elim (maxDepth:=9999) only [*,mV,wY,vE,hrcf,Le.gd,Le.bif,Le.bind,Le.sumK,Le.loop,Le.nilK,Le.ifc,Le.refl]
def pz:Nat->ae->Int->Option Int
 | 0=>λ_ _=>Rl
 | n+1=>pu (pz n)
def wJ (e_:ae) (most:Int):Option Int:=pz 40 e_ most
theorem qY:∀ (n m:Nat),n<=m->∀ x0 x1,Le (pz n x0 x1) (iN m x0 x1)
 | 0,_,_=>λx0 x1 v h=>by cases h
 | n+1,0,h=>absurd h (WU _)
 | n+1,m+1,h=>λx0 x1=>wZ _ _ (qY n m<|WV h) x0 x1
theorem zy (e_:ae) (most:Int):Le (wJ e_ most) (rX e_ most):=λv h=>vo 40 λm hm=>qY 40 m hm e_ most v h
def iF (e_:ae):Option Bool:=
 WF (wJ e_ (12:Int)) λv1=>
 Rk (Rm<|v1<=(40:Int))
theorem nB (e_:ae):Le (iF e_) (eD e_):=by
 unfold iF eD
 solve_by_elim (maxDepth:=9999) only [*,zy,Le.gd,Le.bif,Le.bind,Le.sumK,Le.loop,Le.nilK,Le.ifc,Le.refl]
def pE (rcf:ae->Int->Option BA) (e_:ae) (most:Int):Option BA:=
 WF (j4 e_.Op) λv1=>
 WF (
  bif (v1.2.2==(1:Int)) then
   gd (Rm<|0<=(0:Int)/\(0:Int)<(e_.Kids.length:Int)) <|
   WF (rcf ((e_.Kids.getD (0:Int).toNat Rh).out) (0:Int)) λv5=>
   gd (Rm<|v1.2.1.size+v5.size<=9223372036854775807) <|
   Rk (v1.2.1++v5)
  else
   bif (v1.2.2==(2:Int)) then
    gd (Rm<|0<=(0:Int)/\(0:Int)<(e_.Kids.length:Int)) <|
    WF (rcf ((e_.Kids.getD (0:Int).toNat Rh).out) v1.1) λv9=>
    gd (Rm<|v9.size+v1.2.1.size<=9223372036854775807) <|
    gd (Rm<|0<=(1:Int)/\(1:Int)<(e_.Kids.length:Int)) <|
    gd (QS .i64<|v1.1-(1:Int)) <|
    WF (rcf ((e_.Kids.getD (1:Int).toNat Rh).out)<|v1.1-(1:Int)) λv13=>
    gd (Rm<|(v9++v1.2.1).size+v13.size<=9223372036854775807) <|
    Rk ((v9++v1.2.1)++v13)
   else
    Rk e_.Name
 ) λs2=>
 bif Rm (most<v1.1) then
  gd (Rm<|(⟨#[40]⟩:BA).size+s2.size<=9223372036854775807) <|
  gd (Rm<|((⟨#[40]⟩:BA)++s2).size+(⟨#[41]⟩:BA).size<=9223372036854775807) <|
  Rk (((⟨#[40]⟩:BA)++s2)++(⟨#[41]⟩:BA))
 else
  Rk s2
theorem w9 (rcf:ae->Int->Option BA) (rcf':ae->Int->Option BA) (hrcf:∀ x0 x1,Le (rcf x0 x1)<|rcf' x0 x1) (e_:ae) (most:Int):Le (pE rcf e_ most) (ll rcf' e_ most):=by
 unfold pE ll J
 solve_by_elim (maxDepth:=9999) only [*,mV,hrcf,Le.gd,Le.bif,Le.bind,Le.sumK,Le.loop,Le.nilK,Le.ifc,Le.refl]
def pG:Nat->ae->Int->Option BA
 | 0=>λ_ _=>Rl
 | n+1=>pE (pG n)
def wK (e_:ae) (most:Int):Option BA:=pG 40 e_ most
theorem qZ:∀ (n m:Nat),n<=m->∀ x0 x1,Le (pG n x0 x1) (iO m x0 x1)
 | 0,_,_=>λx0 x1 v h=>by cases h
 | n+1,0,h=>absurd h (WU _)
 | n+1,m+1,h=>λx0 x1=>w9 _ _ (qZ n m<|WV h) x0 x1
theorem zz (e_:ae) (most:Int):Le (wK e_ most) (rY e_ most):=λv h=>vo 40 λm hm=>qZ 40 m hm e_ most v h
def gB (e_:ae):Option BA:=
 WF (iF e_) λv1=>
 bif !v1 then
  Rk (⟨#[]⟩:BA)
 else
  WF (wK e_ (3:Int)) λv3=>
  Rk v3
theorem mX (e_:ae):Le (gB e_) (dP e_):=by
 unfold gB dP
 solve_by_elim (maxDepth:=9999) only [*,nB,zz,Le.gd,Le.bif,Le.bind,Le.sumK,Le.loop,Le.nilK,Le.ifc,Le.refl]
def lM (text:BA):Option (ae×Bool):=
 bif Rm ((300:Int)<(text.size:Int)) then
  Rk ((⟨(0:Int),(⟨#[]⟩:BA),([]:List ZTE)⟩:ae),Rj)
 else
  WF (nA (⟨text,Rj⟩:aa) (3:Int)) λv2=>
  WF (bif v2.1.failed then
   Rk Ri
  else
   Rk (!decide (v2.1.rest=(⟨#[]⟩:BA)))
  ) λs3=>
  WF (bif s3 then
   Rk Ri
  else
   Rk (Rm<|text=(⟨#[]⟩:BA))
  ) λs5=>
  WF (bif s5 then
   Rk Ri
  else
   WF (gB (⟨v2.2.Op,v2.2.Name,v2.2.Kids⟩:ae)) λv9=>
   Rk (!decide (v9=text))
  ) λs7=>
  bif s7 then
   Rk ((⟨(0:Int),(⟨#[]⟩:BA),([]:List ZTE)⟩:ae),Rj)
  else
   Rk ((⟨v2.2.Op,v2.2.Name,v2.2.Kids⟩:ae),Ri)
theorem uQ (text:BA):Le (lM text) (iw text):=by
 unfold lM iw
 solve_by_elim (maxDepth:=9999) only [*,sF,mX,Le.gd,Le.bif,Le.bind,Le.sumK,Le.loop,Le.nilK,Le.ifc,Le.refl]
def kM (v2:(List BA)):((List aj)×Int)->Option (((List aj)×Int) ⊕ ((List aj) ⊕ ((List aj)×Bool))):=λs8=>
 bif Rm (s8.2<(v2.length:Int)) then
  gd (Rm<|0<=s8.2/\s8.2<(v2.length:Int)) <|
  WF (ut (v2.getD s8.2.toNat Rh) (⟨#[32]⟩:BA)) λv15=>
  WF (bY CK v15.1) λv16=>
  WF (lM v15.2.1) λv17=>
  WF (bif Rm (v16<(1:Int)) then
   Rk Ri
  else
   Rk (!v17.2)
  ) λs18=>
  bif s18 then
   Rk (.inr<|.inr (([]:List aj),Rj))
  else
   gd (bT (s8.1.length+1) 56) <|
   gd (QS .i64<|s8.2+(1:Int)) <|
   Rk (.inl ((s8.1++[(⟨v16,(⟨v17.1.Op,v17.1.Name,v17.1.Kids⟩:ae)⟩:aj)]),(s8.2+(1:Int))))
 else
  Rk (.inr<|.inl s8.1)
theorem uw (v2:(List BA)) (sQ:_):Le (kM v2 sQ) (kI v2 sQ):=by
 unfold kM kI J
 solve_by_elim (maxDepth:=9999) only [*,Au,gT,uQ,Le.gd,Le.bif,Le.bind,Le.sumK,Le.loop,Le.nilK,Le.ifc,Le.refl]
def qq (x:Int) (low:Int) (high:Int):Option Bool:=
 WF (bif Rm (low<=x) then
  Rk (Rm<|x<=high)
 else
  Rk Rj
 ) λs1=>
 Rk s1
theorem uK (x:Int) (low:Int) (high:Int):Le (qq x low high) (mE x low high):=by
 unfold qq mE
 solve_by_elim (maxDepth:=9999) only [*,Le.gd,Le.bif,Le.bind,Le.sumK,Le.loop,Le.nilK,Le.ifc,Le.refl]
def lN (r_:aj):Option Bool:=
 WF (qq r_.Kind (1:Int) (3:Int)) λv1=>
 WF (bif !v1 then
  Rk Ri
 else
  WF (iF r_.Expr) λv4=>
  Rk (!v4)
 ) λs2=>
 Rk s2
theorem uR (r_:aj):Le (lN r_) (iy r_):=by
 unfold lN iy
 solve_by_elim (maxDepth:=9999) only [*,uK,nB,Le.gd,Le.bif,Le.bind,Le.sumK,Le.loop,Le.nilK,Le.ifc,Le.refl]
def aI (s:List aj):Int->Option (Int ⊕ (Unit ⊕ Int)):=λs4=>
 bif Rm (s4<(s.length:Int)) then
  gd (Rm<|0<=s4/\s4<(s.length:Int)) <|
  WF (lN<|s.getD s4.toNat Rh) λv8=>
  bif v8 then
   Rk (.inr<|.inr s4)
  else
   gd (QS .i64<|s4+(1:Int)) <|
   Rk (.inl<|s4+(1:Int))
 else
  Rk (.inr<|.inl ())
theorem cz (s:List aj) (sQ:_):Le (aI s sQ) (aH s sQ):=by
 unfold aI aH J
 solve_by_elim (maxDepth:=9999) only [*,uR,Le.gd,Le.bif,Le.bind,Le.sumK,Le.loop,Le.nilK,Le.ifc,Le.refl]
def aN (s:List aj):Option Int:=
 sumK (
  oD 60 (aI s) (0:Int)
 ) λs1=>
 Rk (-1:Int)
theorem cW (s:List aj):Le (aN s) (aB s):=by
 unfold aN aB
 solve_by_elim (maxDepth:=9999) only [*,cz,Le.gd,Le.bif,Le.bind,Le.sumK,Le.loop,Le.nilK,Le.ifc,Le.refl]
def aJ (s:List aj):Option Bool:=
 WF (aN s) λv1=>
 Rk (Rm<|(0:Int)<=v1)
theorem cA (s:List aj):Le (aJ s) (ay s):=by
 unfold aJ ay
 solve_by_elim (maxDepth:=9999) only [*,cW,Le.gd,Le.bif,Le.bind,Le.sumK,Le.loop,Le.nilK,Le.ifc,Le.refl]
def nQ (m:List aj):Option Bool:=
 WF (qq (m.length:Int) (1:Int) (5:Int)) λv1=>
 WF (bif v1 then
  WF (aJ m) λv4=>
  Rk (!v4)
 else
  Rk Rj
 ) λs2=>
 Rk s2
theorem p6 (m:List aj):Le (nQ m) (dY m):=by
 unfold nQ dY
 solve_by_elim (maxDepth:=9999) only [*,uK,cA,Le.gd,Le.bif,Le.bind,Le.sumK,Le.loop,Le.nilK,Le.ifc,Le.refl]
def j6 (m:List aj):((List BA)×Int)->Option (((List BA)×Int) ⊕ (List BA)):=λs8=>
 bif Rm (s8.2<(m.length:Int)) then
  gd (Rm<|0<=s8.2/\s8.2<(m.length:Int)) <|
  gd (Rm<|0<=(m.getD s8.2.toNat Rh).Kind/\(m.getD s8.2.toNat Rh).Kind<4) <|
  gd (Rm<|(CK.getD ((m.getD s8.2.toNat Rh).Kind).toNat Rh).size+(⟨#[32]⟩:BA).size<=9223372036854775807) <|
  WF (gB (⟨((m.getD s8.2.toNat Rh).Expr).Op,((m.getD s8.2.toNat Rh).Expr).Name,((m.getD s8.2.toNat Rh).Expr).Kids⟩:ae)) λv15=>
  gd (Rm<|((CK.getD ((m.getD s8.2.toNat Rh).Kind).toNat Rh)++(⟨#[32]⟩:BA)).size+v15.size<=9223372036854775807) <|
  gd (Rm<|0<=s8.2/\s8.2<(s8.1.length:Int)) <|
  gd (QS .i64<|s8.2+(1:Int)) <|
  Rk (.inl ((s8.1.set s8.2.toNat<|((CK.getD ((m.getD s8.2.toNat Rh).Kind).toNat Rh)++(⟨#[32]⟩:BA))++v15),(s8.2+(1:Int))))
 else
  Rk (.inr s8.1)
theorem tH (m:List aj) (sQ:_):Le (j6 m sQ) (jr m sQ):=by
 unfold j6 jr J
 solve_by_elim (maxDepth:=9999) only [*,mX,Le.gd,Le.bif,Le.bind,Le.sumK,Le.loop,Le.nilK,Le.ifc,Le.refl]
def mY (m:List aj):Option BA:=
 WF (nQ m) λv1=>
 bif !v1 then
  Rk (⟨#[]⟩:BA)
 else
  gd (Rm<|0<=(m.length:Int)/\(m.length:Int)<=(m.length:Int)/\(m.length:Int)*((16:Nat):Int)<=140737488355328/\(m.length:Int)<=140737488355328) <|
  WF (
   oD 60 (j6 m) ((WT (m.length:Int).toNat (Rh:BA)),(0:Int))
  ) λs4=>
  WF (nT s4 (⟨#[47]⟩:BA)) λv20=>
  Rk v20
theorem vF (m:List aj):Le (mY m) (je m):=by
 unfold mY je
 solve_by_elim (maxDepth:=9999) only [*,p6,tH,Le.gd,Le.bif,Le.bind,Le.sumK,Le.loop,Le.nilK,Le.ifc,Le.refl]
def nR (text:BA):Option ((List aj)×Bool):=
 sumK (
  WF (qV text (⟨#[47]⟩:BA)) λv2=>
  oD 60 (kM v2) (([]:List aj),(0:Int))
 ) λs1=>
 WF (mY s1) λv26=>
 bif (!decide (v26=text)) then
  Rk (([]:List aj),Rj)
 else
  Rk (s1,Ri)
theorem ww (text:BA):Le (nR text) (kz text):=by
 unfold nR kz
 solve_by_elim (maxDepth:=9999) only [*,yC,uw,vF,Le.gd,Le.bif,Le.bind,Le.sumK,Le.loop,Le.nilK,Le.ifc,Le.refl]
def wL (name:BA):Option ((List aj)×Bool):=
 WF (o8 name) λv1=>
 WF (nR v1) λv2=>
 Rk (v2.1,v2.2)
theorem zA (name:BA):Le (wL name) (kT name):=by
 unfold wL kT
 solve_by_elim (maxDepth:=9999) only [*,wX,ww,Le.gd,Le.bif,Le.bind,Le.sumK,Le.loop,Le.nilK,Le.ifc,Le.refl]
def mZ (from_:Int) (n:Int):Option BA:=
 gd (QS .u8 n) <|
 gd (QS .u8<|from_+n) <|
 Rk (strOfNums ([(from_+n)]:LI))
theorem yD (from_:Int) (n:Int):Le (mZ from_ n) (jJ from_ n):=by
 unfold mZ jJ
 solve_by_elim (maxDepth:=9999) only [*,Le.gd,Le.bif,Le.bind,Le.sumK,Le.loop,Le.nilK,Le.ifc,Le.refl]
def uy (x:QV):Option BA:=
 WF (mZ (120:Int) x.Loc) λv1=>
 WF (mZ (97:Int) x.Reg) λv2=>
 bif (x.Op==(1:Int)) then
  gd (Rm<|v2.size+(⟨#[61]⟩:BA).size<=9223372036854775807) <|
  gd (Rm<|(v2++(⟨#[61]⟩:BA)).size+v1.size<=9223372036854775807) <|
  Rk ((v2++(⟨#[61]⟩:BA))++v1)
 else
  bif (x.Op==(2:Int)) then
   gd (Rm<|v1.size+(⟨#[61]⟩:BA).size<=9223372036854775807) <|
   WF (qo x.Val) λv8=>
   gd (Rm<|(v1++(⟨#[61]⟩:BA)).size+v8.size<=9223372036854775807) <|
   Rk ((v1++(⟨#[61]⟩:BA))++v8)
  else
   bif (x.Op==(3:Int)) then
    gd (Rm<|v1.size+(⟨#[61]⟩:BA).size<=9223372036854775807) <|
    gd (Rm<|(v1++(⟨#[61]⟩:BA)).size+v2.size<=9223372036854775807) <|
    Rk ((v1++(⟨#[61]⟩:BA))++v2)
   else
    bif (x.Op==(5:Int)) then
     gd (Rm<|v2.size+(⟨#[61]⟩:BA).size<=9223372036854775807) <|
     gd (Rm<|(v2++(⟨#[61]⟩:BA)).size+v1.size<=9223372036854775807) <|
     gd (Rm<|((v2++(⟨#[61]⟩:BA))++v1).size+(⟨#[58]⟩:BA).size<=9223372036854775807) <|
     WF (qo x.Val) λv17=>
     gd (Rm<|(((v2++(⟨#[61]⟩:BA))++v1)++(⟨#[58]⟩:BA)).size+v17.size<=9223372036854775807) <|
     Rk ((((v2++(⟨#[61]⟩:BA))++v1)++(⟨#[58]⟩:BA))++v17)
    else
     Rk (⟨#[102,101,110,99,101]⟩:BA)
theorem Av (x:QV):Le (uy x) (qj x):=by
 unfold uy qj
 solve_by_elim (maxDepth:=9999) only [*,yD,Ar,Le.gd,Le.bif,Le.bind,Le.sumK,Le.loop,Le.nilK,Le.ifc,Le.refl]
section
variable {p:List (List QV)} {x:XS} {F:LI}
def tNm (s:BA):ZTE := .mk 1 s []
def NS (op:Int) (a b:ZTE):ZTE := .mk op ⟨#[]⟩ [a,b]
def sPo:BA:=⟨#[112,111]⟩
def sRf:BA:=⟨#[114,102]⟩
def sCo:BA:=⟨#[99,111]⟩
def sFr:BA:=⟨#[102,114]⟩
def Pf:ZTE:=NS 2 (NS 2 (NS 2 (tNm sPo)<|tNm sRf)<|tNm sCo)<|tNm sFr
def NT:List aj:=[⟨1,Pf.out⟩]
theorem LW {s:BA} (h:s∈EM):VT (tNm s):=by unfold tNm;rw [VT];exact .inl ⟨rfl,h⟩
theorem Kv {op:Int} {a b:ZTE} (ho:op=2\/op=3\/op=4\/op=5) (ha:VT a) (hb:VT b):VT (NS op a b):=by unfold NS;rw [VT];exact .inr<|.inr ⟨ho,rfl,by rw [VL,VL,VL];exact ⟨ha,hb,trivial⟩⟩
theorem Pg:VT Pf:=Kv (.inl rfl) (Kv (.inl rfl) (Kv (.inl rfl) (LW<|by simp [EM,sPo])<|LW<|by simp [EM,sRf])<|LW<|by simp [EM,sCo])<|LW (by simp [EM,sFr])
theorem Ht {base:BA->Int->Int->Bool} {N:Nat} (s:BA):Dw base N (tNm s)=base s:=by unfold tNm;rw [Dw,KX,if_pos rfl]
theorem Kw {base:BA->Int->Int->Bool} {N:Nat} (a b:ZTE):Dw base N (NS 2 a b)=λi k=>Dw base N a i k||Dw base N b i k:=by
 unfold NS;rw [Dw,CM,CM,CM,KX,if_neg (by decide),if_neg (by decide),if_neg (by decide),if_pos rfl];rfl
theorem NU:Dw (nmR p x) (evs p).length Pf=bef p x:=by
 unfold Pf;rw [Kw,Kw,Kw,Ht,Ht,Ht,Ht]
 rfl
theorem Ky (hp:PV p) (R:RunOf p x F):rS (evs p).length (Q9 (bef p x) (evs p).length)=Ri:=by
 rw [yA];intro i hi
 cases h:Q9 (bef p x) (evs p).length (i:Int) (i:Int) with
 | false=>rfl
 | true=>
  exfalso;have hR:=Hq (N:=(evs p).length) (f:=bef p x) (R:=λi k=>i∈F->k∈F->rk F i<rk F k) (λi k j hj h1 h2 hi hk=>by
   have hjF:(j:Int)∈F:=(R.mem _).2 ⟨by omega,by omega⟩;have := h1 hi hjF;have := h2 hjF hk;omega) (λi k h hi hk=>My hp R hi hk h) _ (Nat.le_refl _) _ _ h
  have hiF:(i:Int)∈F:=(R.mem _).2 ⟨by omega,by omega⟩;have := hR hiF hiF;omega
theorem Gp (C:Cand p x F) (hl:rS (evs p).length (Q9 (bef p x) (evs p).length)=Ri) {a:Nat->Nat} (h:∃ i,i∈F/\dn p a i=Rj):∃ n,n∈F/\dn p a n=Rj/\wI p x F a n:=by
 let U:LI:=(WI (evs p).length).map (λ(i:Nat)=>(i:Int)) |>.filter λi => !dn p a i;have hU:∀ i,i∈U↔i∈F/\dn p a i=Rj:=λi=>by
  simp only [U,WZ,Bool.not_eq_true'];rw [C.mem];exact ⟨λ⟨a,b⟩=>⟨(o6 i).1 a,b⟩,λ⟨a,b⟩=>⟨(o6 i).2 a,b⟩⟩
 let pre:Int->Nat:=λm=>(U.filter λi=>Q9 (bef p x) (evs p).length i m).length;obtain ⟨n,⟨h1,h2⟩,h3⟩:=Mx pre _ h;refine ⟨n,h1,h2,λi hi hb=>?_⟩
 cases hd:dn p a i with
 | true=>rfl
 | false=>
  exfalso;have hle:=h3 i ⟨hi,hd⟩;obtain ⟨i0,i1⟩:=(C.mem i).1 hi;have hin:Q9 (bef p x) (evs p).length i n=Ri:=LR hb;have hii:Q9 (bef p x) (evs p).length i i=Rj:=by
   have := yA.1 hl i.toNat (by omega)
   rwa [WG i0] at this
  obtain ⟨g1,g2⟩:=uk (n:=i) (P:=λj=>Q9 (bef p x) (evs p).length j i) (Q:=λj=>Q9 (bef p x) (evs p).length j n) (l:=U) (λj hj h=>by
   have := Kq (N:=(evs p).length) (f:=bef p x) (i:=j) (k:=n) (j:=i.toNat) (by omega) (by rw [WG i0];exact h) (by rw [WG i0];exact hin);exact this)
  have := g2 ((hU i).2 ⟨hi,hd⟩) hii hin;simp only [pre] at hle;omega
theorem LX (C:Cand p x F) (hl:rS (evs p).length (Q9 (bef p x) (evs p).length)=Ri) {a:Nat->Nat} (hs:StA p a) (hf : ¬ JO p a):∃ t,iS p x F a t:=by
 have hex:∃ t,t<p.length/\a t<(p.getD t Rh).length:=by
  apply Classical.byContradiction;intro hno;refine hf λt ht=>?_;have := hs t ht;have := mt (λh=>(⟨t,ht,h⟩:∃ t,t<p.length/\a t<(p.getD t Rh).length)) hno;omega
 by_cases hfe:∃ t,t<p.length/\a t<(p.getD t Rh).length/\BV p t (a t)
 ·obtain ⟨t,h1,h2,h3⟩:=hfe;refine ⟨t,h1,h2,λn hn=>?_⟩;unfold nxt at hn;rw [if_pos h3] at hn
  cases hn
 have hev:∀ t,t<p.length->a t<(p.getD t Rh).length->Isn p t (a t):=λt h1 h2=>⟨h1,h2,λh3=>hfe ⟨t,h1,h2,h3⟩⟩;obtain ⟨t,h1,h2⟩:=hex;have hI:=hev t h1 h2;obtain ⟨n,n1,n2,n3⟩:=Gp C hl (a:=a) ⟨(base p t (a t):Int),(C.mem _).2 ⟨by omega,by have := hI.ev.2;omega⟩,by
  cases hd:dn p a (base p t (a t):Int) with
  | false=>rfl
  | true=>have := (jY hI).1 hd;omega⟩
 obtain ⟨m0,m1⟩:=(C.mem n).1 n1;rcases gy m0 m1 with h3 | ⟨t',k',h3,rfl⟩
 ·rw [ul m0 h3] at n2
  cases n2
 have hle:a t'<=k':=by
  rcases Nat.lt_or_ge k' (a t') with h | h
  ·rw [(jY h3).2 h] at n2;cases n2
  exact h
 have hI':=hev t' h3.t (by have := h3.k;omega);have : a t'=k':=by
  rcases Nat.lt_or_ge (a t') k' with h | h
  ·exfalso;have := (jY hI').1 (n3 (base p t' (a t'):Int) ((C.mem _).2 ⟨by omega,by have := hI'.ev.2;omega⟩) (by
    unfold bef poB;rw [hI'.ev.1,h3.ev.1];simp only [decide_true,Bool.true_and,Bool.or_eq_true,dte,bae];exact .inl (.inl (.inl ⟨by omega,by omega⟩)))
    )
   omega
  omega
 refine ⟨t',h3.t,hI'.k,λm hm=>?_⟩;unfold nxt at hm;rw [if_neg (show ¬ BV p t' (a t') from hI'.o)] at hm;injection hm with hm;rw [<- hm,this];exact n3
theorem Gq (hp:PV p) (hv:bq (Q7 p)=Ri) (C:Cand p x F) {l:LI} {b:Bool} (h:bU p ⟨x.1,x.2⟩=Rk (l,b)):b=rS (evs p).length (Q9 (bef p x) (evs p).length):=by
 obtain ⟨l',b',e1,e2,_,_,h5,h6⟩:=zw hp hv C;rw [h] at e1;obtain ⟨rfl,rfl⟩:=Prod.mk.inj<|osl e1
 cases b with
 | true=>
  obtain ⟨g1,g2,_⟩:=h5 rfl;have R:=EW hp g1;rw [g2] at R;exact (Ky hp R).symm
 | false=>
  cases hl:rS (evs p).length (Q9 (bef p x) (evs p).length) with
  | false=>rfl
  | true=>
   exfalso;obtain ⟨v,ev,_,v2⟩:=BZ hp C;rw [e2] at ev;obtain rfl:=osl ev;obtain ⟨_,a,a1,a2,a3⟩:=v2 rfl;obtain ⟨t,ht⟩:=LX C hl a1 a2;exact a3 t ht
theorem Iv (hp:PV p) (hv:bq (Q7 p)=Ri) (C:Cand p x F):Q4 (gK p ⟨x.1,x.2⟩ NT) λv=>(v.1<0↔rS (evs p).length (Q9 (bef p x) (evs p).length)=Ri)/\(v.1<0->v.1 = -1):=by
 have hN:=Pd hv;refine (LU (N:=(evs p).length) (base:=nmR p x) (by omega) (λnm hn=>PY hp C hn) (m:=NT) (λr hr=>?_)<|by decide).mono λv ⟨h1,h2⟩=>⟨h1.trans ?_,h2⟩
 ·obtain rfl:=WL.1 hr;exact ⟨.inl rfl,Pg⟩
 unfold NT;simp only [WL,forall_eq];unfold okR;rw [if_pos rfl];show rS _ (Q9 (Dw (nmR p x) (evs p).length Pf) _)=Ri↔_;rw [NU]
end
theorem LY:kT ⟨#[115,101,113]⟩=Rk (NT,Ri):=zA _ _ (by kernel_rfl)
theorem LZ:dY NT=Rk Ri:=p6 _ _ (by kernel_rfl)
section
variable {α:Type} {r:Option α}
theorem m5 {n:Int} {x:Option α} (h : -9223372036854775808<=n/\n<=9223372036854775807) (hx:x=r):gd (QS .i64 n) x=r:=by rw [oP (Mq h)];exact hx
theorem yE {A:Prop} [Decidable A] {x:Option α} (h:A) (hx:x=r):gd (decide A) x=r:=by rw [oP (decide_eq_true h)];exact hx
theorem Kz {b:Bool} {x y:Option α} (h:b=Ri) (hx:x=r):(bif b then x else y)=r:=by rw [h];exact hx
theorem Gs {b:Bool} {x y:Option α} (h:b=Rj) (hx:y=r):(bif b then x else y)=r:=by rw [h];exact hx
theorem zB {β:Type} {o:Option β} {k:β->Option α} {v:β} (h:o=Rk v) (hx:k v=r):o.bind k=r:=by rw [h];exact hx
end
def Bts (b:LI):Prop:=b.length<=1048576/\∀ y∈b,0<=y/\y<=255
theorem Bts.get {b:LI} (h:Bts b) (k:Nat):0<=b.getD k Rh/\b.getD k Rh<=255:=by
 rw [gdq]
 by_cases hk:k<b.length
 ·rw [geq hk];exact h.2 _<|WJ _
 rw [gen (by omega)];exact ⟨by decide,by decide⟩
theorem L6 {m n:Int} (hm:0<=m/\m<=1000000000000) (hn:0<=n/\n<=1000000000000):0<=OB .i64 m n:=by
 have e1:∀ x:Int,0<=x->x<=1000000000000->(WM 64 x).toNat<2 ^ 62:=by
  intro x h1 h2;rw [BitVec.toNat_ofInt];have : x % ((2:Nat) ^ 64:Nat)=x:=by
   rw [Int.emod_eq_of_lt h1];omega
  omega
 have h3:(WM 64 m ^^^ WM 64 n).toNat<2 ^ 62:=by
  rw [BitVec.toNat_xor];exact Nat.xor_lt_two_pow (e1 m hm.1 hm.2)<|e1 n hn.1 hn.2
 have h4:=IntWalk.i64_in (((WM 64 m ^^^ WM 64 n).toNat:Nat):Int) ⟨by omega,by omega⟩;unfold OB;rw [show IntKind.i64.bits=64 from rfl,h4];omega
theorem L8 {a n:Int} (ha:0<=a) (hn:0<n):0<=a.tmod n/\a.tmod n<n:=by
 rw [Int.tmod_eq_emod_of_nonneg ha];exact ⟨Int.emod_nonneg _ (by omega),Int.emod_lt_of_pos _ hn⟩
theorem Ph {a n:Int} (ha:0<=a) (hn:0<=n):0<=a.tdiv n/\a.tdiv n<=a:=by
 rw [Int.tdiv_eq_ediv_of_nonneg ha];exact ⟨Int.ediv_nonneg ha hn,Int.ediv_le_self _ ha⟩
theorem KA {b:LI} {p:Int} (hb:Bts b) (hp:0<=p/\p<=100000000) (n:Int):∃ v,az ⟨b,p⟩ n=Rk (⟨b,p+1⟩,v)/\0<=v/\(v<n\/v=0):=by
 have hl:=hb.1;have e1:p+1-1=p:=by omega
 unfold az J;simp only [e1]
 by_cases h0:n<1\/b.length=0
 ·refine ⟨0,?_,WW _,.inr rfl⟩;refine m5 (by omega) ?_;refine zB (v:=true) ?_<|Kz rfl rfl
  by_cases hn:n<1
  ·exact Kz (by simp [hn]) rfl
  refine Gs (by simp [hn]) ?_;have : b.length=0:=by omega
  simp [this]
 have hn:1<=n:=by omega
 have hl0:0<(b.length:Int):=by omega
 by_cases hlt:p<(b.length:Int)
 ·have hg:=hb.get p.toNat;have hv:=L8 hg.1 (show (0:Int)<n by omega);refine ⟨(b.getD p.toNat Rh).tmod n,?_,hv.1,.inl hv.2⟩;refine m5 (by omega) ?_;refine zB (v:=false) (Gs (by simp;omega)<|congrArg Rk<|beq_eq_false_iff_ne.2<|by omega) (Gs rfl ?_);refine m5 (by omega)<|Kz (by simpa using hlt) ?_;exact yE (by omega)<|m5 (by omega)<|yE (by omega) rfl
 have h1:=L8 hp.1 hl0;have h2:=Ph hp.1 (show 0<=(b.length:Int) by omega);have h3:=L8 (a:=p*7+3) (by omega) hl0;have h4:=hb.get (p.tmod (b.length:Int)).toNat;have h5:=hb.get ((p*7+3).tmod (b.length:Int)).toNat;have hx:0<=(b.getD (p.tmod (b.length:Int)).toNat Rh)*131+(b.getD ((p*7+3).tmod (b.length:Int)).toNat Rh)*1117+p*29+p.tdiv (b.length:Int)*53 /\
  (b.getD (p.tmod (b.length:Int)).toNat Rh)*131+(b.getD ((p*7+3).tmod (b.length:Int)).toNat Rh)*1117+p*29+p.tdiv (b.length:Int)*53<=1000000000000:=by omega
 have h6:=Ph hx.1 (show (0:Int)<=64 by omega);have h7:=L6 hx ⟨h6.1,Int.le_trans h6.2 hx.2⟩;have hv:=L8 h7 (show (0:Int)<n by omega);refine ⟨_,?_,hv.1,.inl hv.2⟩;refine m5 (by omega) ?_;refine zB (v:=false) (Gs (by simp;omega)<|congrArg Rk<|beq_eq_false_iff_ne.2<|by omega) (Gs rfl ?_);refine m5 (by omega)<|Gs (by simpa using hlt) ?_;refine yE (by omega)<|yE h1<|m5 (by omega)<|m5 (by omega)<|m5 (by omega)<|m5 (by omega)<|yE h3<|m5 (by omega) ?_;refine m5 (by omega)<|m5 (by omega)<|m5 (by omega)<|m5 (by omega)<|m5 (by omega)<|m5 (by omega)<|m5 (by omega) ?_;refine yE (by omega)<|m5 (by omega)<|yE (by omega) rfl
theorem Pi {b:LI} {p:Int} (hb:Bts b) (hp:0<=p/\p<=100000000) (l:LI) (hl:l≠[]):∃ v,bi ⟨b,p⟩ l=Rk (⟨b,p+1⟩,v)/\v∈l:=by
 obtain ⟨v,h1,h2,h3⟩:=KA hb hp (l.length:Int);have hpos:0<l.length:=List.length_pos_iff.2 hl;have h4:v<(l.length:Int):=by omega
 refine ⟨l.getD v.toNat Rh,?_,?_⟩
 ·unfold bi J;exact zB h1<|yE ⟨h2,h4⟩ rfl
 rw [gdq,geq (by omega)];exact WJ _
theorem NV {b:LI} (hb:Bts b):∃ b',kR b=Rk ⟨b',0⟩/\Bts b':=by
 unfold kR
 by_cases h:(2000:Int)<(b.length:Int)
 ·refine ⟨_,zB (Kz (by simpa using h)<|yE (by omega) rfl) rfl,?_,λy hy=>?_⟩
  ·rw [List.length_take];omega
  exact hb.2 y<|W5<|W6 hy
 exact ⟨b,zB (Gs (by simpa using h) rfl) rfl,hb⟩
def Rd (k:Int) (r:ah):Prop:=Bts r.b/\0<=r.p/\r.p<=k
theorem Rd.mono {k k':Int} {r:ah} (h:Rd k r) (hk:k<=k'):Rd k' r:=⟨h.1,h.2.1,by have := h.2.2;omega⟩
theorem Rd.mk' {k:Int} {r:ah} (h:Rd k r):Rd k ⟨r.b,r.p⟩:=h
theorem dw {k:Int} {r:ah} (h:Rd k r) (hk:k<=100000000) (n:Int):Q4 (az r n) λv=>Rd (k+1) v.1/\0<=v.2/\(v.2<n\/v.2=0):=by
 obtain ⟨b,p⟩:=r;obtain ⟨h1,h2,h3⟩:=h;obtain ⟨v,e,h4,h5⟩:=KA h1 (p:=p) ⟨h2,by simp only at h3;omega⟩ n;exact ⟨_,e,⟨h1,by simp only at h2 ⊢;omega,by simp only at h3 ⊢;omega⟩,h4,h5⟩
theorem xa {k:Int} {r:ah} (h:Rd k r) (hk:k<=100000000) (l:LI) (hl:l≠[]):Q4 (bi r l) λv=>Rd (k+1) v.1/\v.2∈l:=by
 obtain ⟨b,p⟩:=r;obtain ⟨h1,h2,h3⟩:=h;obtain ⟨v,e,h4⟩:=Pi h1 (p:=p) ⟨h2,by simp only at h3;omega⟩ l hl;exact ⟨_,e,⟨h1,by simp only at h2 ⊢;omega,by simp only at h3 ⊢;omega⟩,h4⟩
theorem L9 {b:LI} (h:Bts b):Q4 (kR b) (Rd 0):=by
 obtain ⟨b',e,h'⟩:=NV h;exact ⟨_,e,h',WW _,WW _⟩
def pI (s:BA) (c:Int):((List BA)×Int×Int)->Option (((List BA)×Int×Int) ⊕ (List BA)):=λs5=>
 bif Rm (s5.2.1<=(s.size:Int)) then
  WF (
   WF (bif (s5.2.1==(s.size:Int)) then
    Rk Ri
   else
    gd (Rm<|0<=s5.2.1/\s5.2.1<(s.size:Int)) <|
    Rk (((s.data.getD s5.2.1.toNat 0).toNat:Int)==c)
   ) λs10=>
   bif s10 then
    gd (Rm<|0<=s5.2.2/\s5.2.2<=s5.2.1/\s5.2.1<=(s.size:Int)) <|
    gd (bT (s5.1.length+1) 16) <|
    gd (QS .i64<|s5.2.1+(1:Int)) <|
    Rk ((s5.1++[(s.extract s5.2.2.toNat s5.2.1.toNat)]),(s5.2.1+(1:Int)))
   else
    Rk (s5.1,s5.2.2)
  ) λs9=>
  gd (QS .i64<|s5.2.1+(1:Int)) <|
  Rk (.inl (s9.1,(s5.2.1+(1:Int)),s9.2))
 else
  Rk (.inr s5.1)
theorem xb (s:BA) (c:Int) (sQ:_):Le (pI s c sQ) (o7 s c sQ):=by
 unfold pI o7
 solve_by_elim (maxDepth:=9999) only [*,Le.gd,Le.bif,Le.bind,Le.sumK,Le.loop,Le.nilK,Le.ifc,Le.refl]
def qw (s:BA) (c:Int):Option (List BA):=
 WF (
  oD 40 (pI s c) (([]:List BA),(0:Int),(0:Int))
 ) λs1=>
 Rk s1
theorem uL (s:BA) (c:Int):Le (qw s c) (mQ s c):=by
 unfold qw mQ
 solve_by_elim (maxDepth:=9999) only [*,xb,Le.gd,Le.bif,Le.bind,Le.sumK,Le.loop,Le.nilK,Le.ifc,Le.refl]
def bZ (s:BA) (at_:Int) (from_:Int) (most:Int):Option Int:=
 WF (bif Rm ((s.size:Int)<=at_) then
  Rk Ri
 else
  gd (Rm<|0<=at_/\at_<(s.size:Int)) <|
  Rk (Rm<|((s.data.getD at_.toNat 0).toNat:Int)<from_)
 ) λs1=>
 WF (bif s1 then
  Rk Ri
 else
  gd (Rm<|0<=at_/\at_<(s.size:Int)) <|
  gd (QS .u8<|((s.data.getD at_.toNat 0).toNat:Int)-from_) <|
  gd (QS .i64<|((s.data.getD at_.toNat 0).toNat:Int)-from_) <|
  Rk (Rm<|most<(((s.data.getD at_.toNat 0).toNat:Int)-from_))
 ) λs4=>
 bif s4 then
  Rk (-1:Int)
 else
  gd (Rm<|0<=at_/\at_<(s.size:Int)) <|
  gd (QS .u8<|((s.data.getD at_.toNat 0).toNat:Int)-from_) <|
  gd (QS .i64<|((s.data.getD at_.toNat 0).toNat:Int)-from_) <|
  Rk (((s.data.getD at_.toNat 0).toNat:Int)-from_)
theorem zC (s:BA) (at_:Int) (from_:Int) (most:Int):Le (bZ s at_ from_ most) (bP s at_ from_ most):=by
 unfold bZ bP
 solve_by_elim (maxDepth:=9999) only [*,Le.gd,Le.bif,Le.bind,Le.sumK,Le.loop,Le.nilK,Le.ifc,Le.refl]
def sG (s:BA):Option QV:=
 bif Rm (s=(⟨#[102,101,110,99,101]⟩:BA)) then
  Rk (⟨(4:Int),(0:Int),(0:Int),(0:Int)⟩:QV)
 else
  WF (bZ s (0:Int) (97:Int) (2:Int)) λv2=>
  WF (bZ s (0:Int) (120:Int) (2:Int)) λv3=>
  WF (bif Rm ((0:Int)<=v2) then
   Rk ((s.size:Int)==(3:Int))
  else
   Rk Rj
  ) λs4=>
  bif s4 then
   WF (bZ s (2:Int) (120:Int) (2:Int)) λv7=>
   Rk (⟨(1:Int),v7,v2,(0:Int)⟩:QV)
  else
   WF (bif Rm ((0:Int)<=v2) then
    Rk ((s.size:Int)==(5:Int))
   else
    Rk Rj
   ) λs8=>
   bif s8 then
    WF (bZ s (2:Int) (120:Int) (2:Int)) λv11=>
    WF (bZ s (4:Int) (48:Int) (3:Int)) λv12=>
    Rk (⟨(5:Int),v11,v2,v12⟩:QV)
   else
    WF (bif Rm ((0:Int)<=v3) then
     WF (bZ s (2:Int) (97:Int) (2:Int)) λv15=>
     Rk (Rm<|(0:Int)<=v15)
    else
     Rk Rj
    ) λs13=>
    bif s13 then
     WF (bZ s (2:Int) (97:Int) (2:Int)) λv17=>
     Rk (⟨(3:Int),v3,v17,(0:Int)⟩:QV)
    else
     WF (bZ s (2:Int) (48:Int) (3:Int)) λv18=>
     Rk (⟨(2:Int),v3,(0:Int),v18⟩:QV)
theorem zD (s:BA):Le (sG s) (nY s):=by
 unfold sG nY
 solve_by_elim (maxDepth:=9999) only [*,zC,Le.gd,Le.bif,Le.bind,Le.sumK,Le.loop,Le.nilK,Le.ifc,Le.refl]
def iG (v1:(List BA)) (s6:(List<|List QV)×Int) (v14:(List BA)):((List QV)×Int)->Option (((List QV)×Int) ⊕ (List QV)):=λs19=>
 WF (bif Rm (s19.2<(v14.length:Int)) then
  Rk (Rm<|s19.2<=(7:Int))
 else
  Rk Rj
 ) λs22=>
 WF (bif s22 then
  Rk (!decide ((v1.getD s6.2.toNat Rh)=(⟨#[]⟩:BA)))
 else
  Rk Rj
 ) λs24=>
 bif s24 then
  gd (Rm<|0<=s19.2/\s19.2<(v14.length:Int)) <|
  WF (sG<|v14.getD s19.2.toNat Rh) λv28=>
  gd (bT (s19.1.length+1) 32) <|
  gd (QS .i64<|s19.2+(1:Int)) <|
  Rk (.inl ((s19.1++[v28]),(s19.2+(1:Int))))
 else
  Rk (.inr s19.1)
theorem rB (v1:(List BA)) (s6:(List<|List QV)×Int) (v14:(List BA)) (sQ:_):Le (iG v1 s6 v14 sQ) (iE v1 s6 v14 sQ):=by
 unfold iG iE J
 solve_by_elim (maxDepth:=9999) only [*,zD,Le.gd,Le.bif,Le.bind,Le.sumK,Le.loop,Le.nilK,Le.ifc,Le.refl]
def ja (v1:(List BA)):((List<|List QV)×Int)->Option (((List<|List QV)×Int) ⊕ (List<|List QV)):=λs6=>
 WF (bif Rm (s6.2<(v1.length:Int)) then
  Rk (Rm<|s6.2<=(3:Int))
 else
  Rk Rj
 ) λs9=>
 bif s9 then
  WF (
   gd (Rm<|0<=s6.2/\s6.2<(v1.length:Int)) <|
   WF (qw (v1.getD s6.2.toNat Rh) (59:Int)) λv14=>
   WF (
    oD 40 (iG v1 s6 v14) (([]:List QV),(0:Int))
   ) λs15=>
   gd (bT (s6.1.length+1) 24) <|
   Rk (s6.1++[s15])
  ) λs12=>
  gd (QS .i64<|s6.2+(1:Int)) <|
  Rk (.inl (s12,(s6.2+(1:Int))))
 else
  Rk (.inr s6.1)
theorem sH (v1:(List BA)) (sQ:_):Le (ja v1 sQ) (iZ v1 sQ):=by
 unfold ja iZ J
 solve_by_elim (maxDepth:=9999) only [*,uL,rB,Le.gd,Le.bif,Le.bind,Le.sumK,Le.loop,Le.nilK,Le.ifc,Le.refl]
def kN (p:List<|List QV) (s4:Int×BA):(Int×BA)->Option ((Int×BA) ⊕ BA):=λs13=>
 gd (Rm<|0<=s4.1/\s4.1<(p.length:Int)) <|
 bif Rm (s13.1<((p.getD s4.1.toNat Rh).length:Int)) then
  WF (
   bif Rm ((0:Int)<s13.1) then
    gd (Rm<|s13.2.size+(⟨#[59]⟩:BA).size<=9223372036854775807) <|
    Rk (s13.2++(⟨#[59]⟩:BA))
   else
    Rk s13.2
  ) λs17=>
  gd (Rm<|0<=s13.1/\s13.1<((p.getD s4.1.toNat Rh).length:Int)) <|
  WF (uy<|(p.getD s4.1.toNat Rh).getD s13.1.toNat Rh) λv21=>
  gd (Rm<|s17.size+v21.size<=9223372036854775807) <|
  gd (QS .i64<|s13.1+(1:Int)) <|
  Rk (.inl ((s13.1+(1:Int)),(s17++v21)))
 else
  Rk (.inr s13.2)
theorem uz (p:List<|List QV) (s4:Int×BA) (sQ:_):Le (kN p s4 sQ) (kL p s4 sQ):=by
 unfold kN kL J
 solve_by_elim (maxDepth:=9999) only [*,Av,Le.gd,Le.bif,Le.bind,Le.sumK,Le.loop,Le.nilK,Le.ifc,Le.refl]
def lQ (p:List<|List QV):(Int×BA)->Option ((Int×BA) ⊕ BA):=λs4=>
 bif Rm (s4.1<(p.length:Int)) then
  WF (
   WF (
    bif Rm ((0:Int)<s4.1) then
     gd (Rm<|s4.2.size+(⟨#[124]⟩:BA).size<=9223372036854775807) <|
     Rk (s4.2++(⟨#[124]⟩:BA))
    else
     Rk s4.2
   ) λs8=>
   oD 40 (kN p s4) ((0:Int),s8)
  ) λs7=>
  gd (QS .i64<|s4.1+(1:Int)) <|
  Rk (.inl ((s4.1+(1:Int)),s7))
 else
  Rk (.inr s4.2)
theorem uS (p:List<|List QV) (sQ:_):Le (lQ p sQ) (lK p sQ):=by
 unfold lQ lK
 solve_by_elim (maxDepth:=9999) only [*,uz,Le.gd,Le.bif,Le.bind,Le.sumK,Le.loop,Le.nilK,Le.ifc,Le.refl]
def pJ (p:List<|List QV):Option BA:=
 WF (
  oD 40 (lQ p) ((0:Int),(⟨#[]⟩:BA))
 ) λs1=>
 Rk s1
theorem xc (p:List<|List QV):Le (pJ p) (lw p):=by
 unfold pJ lw
 solve_by_elim (maxDepth:=9999) only [*,uS,Le.gd,Le.bif,Le.bind,Le.sumK,Le.loop,Le.nilK,Le.ifc,Le.refl]
def iH (text:BA):Option ((List<|List QV)×Bool):=
 WF (qw text (124:Int)) λv1=>
 WF (
  oD 40 (ja v1) (([]:List<|List QV),(0:Int))
 ) λs2=>
 WF (bf s2) λv36=>
 WF (bif !v36 then
  Rk Ri
 else
  WF (pJ s2) λv39=>
  Rk (!decide (v39=text))
 ) λs37=>
 bif s37 then
  Rk (([]:List<|List QV),Rj)
 else
  Rk (s2,Ri)
theorem uT (text:BA):Le (iH text) (eO text):=by
 unfold iH eO
 solve_by_elim (maxDepth:=9999) only [*,uL,sH,xc,Le.gd,Le.bif,Le.bind,Le.sumK,Le.loop,Le.nilK,Le.ifc,Le.refl]
def smI (x:QV):Bool:=Rm<|(-1<=x.Op/\x.Op<=6)/\(-1<=x.Loc/\x.Loc<=3)/\(-1<=x.Reg/\x.Reg<=3)/\(-1<=x.Val/\x.Val<=4)
def smP (p:List<|List QV):Bool:=Rm (p.length<=4)&&p.all λr=>Rm (r.length<=8)&&r.all smI

def Iw (p:List<|List QV):Bool:=Rm (p.length<=1048576)&&p.all λr=>Rm<|r.length<=1048576
def KY (p:List<|List QV) (i:Nat) (x:List QV):List (List QV):=p.set i<|p.getD i []++x
def kg (r_:ah) (p:List<|List QV):Option (ah×List (List QV)):= gd (Iw p) <|bif Nat.beq p.length 0 then Rk (r_,p) else WF (az r_ (p.length:Int)) λv1=>WF (az v1.1 (40:Int)) λv2=>gd (Rm<|0<=v1.2/\v1.2<(p.length:Int)) <|bif v2.2==(0:Int) then WF (bi v2.1 ([(0:Int),(6:Int),(1:Int),(4:Int)]:LI)) λa=>WF (bi a.1 ([(0:Int),(3:Int),(-1:Int)]:LI)) λb=>Rk (b.1,KY p v1.2.toNat [⟨a.2,b.2,0,0⟩]) else bif v2.2==(1:Int) then WF (bi v2.1 ([(4:Int),(-1:Int),(3:Int)]:LI)) λa=>Rk (a.1,KY p v1.2.toNat [⟨2,0,0,a.2⟩]) else bif v2.2==(2:Int) then Rk (v2.1,p++WT (4-p.length) []) else bif v2.2==(3:Int) then Rk (v2.1,KY p v1.2.toNat<|WT (8-(p.getD v1.2.toNat []).length) ⟨1,0,0,0⟩) else bif v2.2==(4:Int) then Rk (v2.1,(p.drop 1).take<|p.length-1) else Rk (v2.1,p)
theorem xd {p:List (List QV)}:smP p=Ri↔p.length<=4/\∀ r∈p,r.length<=8/\∀ x∈r,smI x=Ri:=by
 simp only [smP,bae,dte,WH]
theorem Ma {p:List (List QV)} (h:smP p=Ri):Iw p=Ri:=by
 rw [xd] at h;simp only [Iw,bae,dte,WH];exact ⟨by omega,λr hr=>by have := (h.2 r hr).1;omega⟩
theorem Ei {α:Type} {m:Nat}:∀ {p:List (List α)},(∀ r∈p,r.length<=m)->total p<=p.length*m
 | [],_=>by simp [total]
 | r::p,h=>by
  have h1:=Ei (p:=p) λx hx=>h x<|W7 _ hx;have h2:=h r<|List.mem_cons_self;simp only [total,List.map_cons,List.sum_cons,llc,Nat.add_mul,Nat.one_mul] at h1 ⊢;omega
theorem Pj {p:List (List QV)} (h:smP p=Ri):p.length<=1048576/\total p<=1048576:=by
 rw [xd] at h;have h1:=Ei (m:=8) λr hr=>(h.2 r hr).1;have h2:p.length*8<=32:=by omega
 exact ⟨by omega,by omega⟩
theorem Gt {k:Int} {r:ah} (h:Rd k r) (hk:k<=10000000):Q4 (fT r) λv=>Rd (k+4) v.1/\smI v.2=Ri:=by
 unfold fT;refine (dw h.mk' (by omega) 2).bind λv1 ⟨a1,a2,a3⟩=>(dw a1.mk' (by omega) 7).bind λv2 ⟨b1,b2,b3⟩ => ?_;refine .bif (λ_ => .pure ⟨b1.mono (by omega),by simp only [smI];exact decide_eq_true<|by omega⟩) λ_=>?_;refine .bif (λ_=>(dw b1.mk' (by omega) 2).bind λv3 ⟨c1,c2,c3⟩ => .pure ⟨c1.mono (by omega),decide_eq_true<|by simp only [];omega⟩) λ_=>?_;refine .bif (λ_=>(dw b1.mk' (by omega) 2).bind λv3 ⟨c1,c2,c3⟩=>(dw c1.mk' (by omega) 3).bind λv4 ⟨d1,d2,d3⟩ => .gdI (by omega)<|.pure ⟨d1.mono (by omega),decide_eq_true<|by simp only [];omega⟩) λ_=>?_;refine Q4.bind (P:=λ_=>True) (.bif (λ_ => .pure trivial) λ_ => .pure trivial) λs _=>?_;refine .bif (λ_=>(dw b1.mk' (by omega) 3).bind λv3 ⟨c1,c2,c3⟩ => .gdI (by omega)<|.pure ⟨c1.mono (by omega),decide_eq_true<|by simp only [];omega⟩) λ_=>?_;exact (dw b1.mk' (by omega) 2).bind λv3 ⟨c1,c2,c3⟩ => .pure ⟨c1.mono (by omega),decide_eq_true<|by simp only [];omega⟩
theorem Iy {k:Int} {b:LI} {p n:Int} (h:Rd k ⟨b,p⟩) (hk:k<=1000000) (hn:0<=n/\n<=3):Q4 (loopO nO (b,p,([]:List QV),n)) λv=>Rd (k+12) ⟨v.1,v.2.1⟩/\v.2.2.length<=3/\∀ x∈v.2.2,smI x=Ri:=by
 refine Q4.loop (λs=>Rd (k+4*(3-s.2.2.2)) ⟨s.1,s.2.1⟩/\(0<=s.2.2.2/\s.2.2.2+(s.2.2.1.length:Int)<=3)/\∀ x∈s.2.2.1,smI x=Ri) (λs=>s.2.2.2.toNat) ⟨h.mono (by simp only [];omega),by simp;omega,by simp⟩ λs ⟨h1,h2,h3⟩ => ?_;unfold nO;refine .bifD (λh0=>?_) λh0 => .pure ⟨h1.mono (by omega),by simp only [];omega,h3⟩;refine (Gt h1<|by omega).bind λv ⟨a1,a2⟩ => .gdC (by omega) rfl<|.gdI (by omega)<|.pure ⟨⟨a1.mk'.mono (by simp only [];omega),by simp only [lla,llc,WN];omega,λx hx=>?_⟩,by simp only [];omega⟩;rcases WO.1 hx with hx | hx
 ·exact h3 x hx
 rw [WL.1 hx];exact a2
theorem Gu {k:Int} {b:LI} {p n:Int} (h:Rd k ⟨b,p⟩) (hk:k<=100000) (hn:0<=n/\n<=3):Q4 (loopO nP (b,p,([]:List<|List QV),n)) λv=>Rd (k+39) ⟨v.1,v.2.1⟩/\smP v.2.2=Ri:=by
 refine Q4.loop (λs=>Rd (k+13*(3-s.2.2.2)) ⟨s.1,s.2.1⟩/\(0<=s.2.2.2/\s.2.2.2+(s.2.2.1.length:Int)<=3)/\∀ r∈s.2.2.1,r.length<=8/\∀ x∈r,smI x=Ri) (λs=>s.2.2.2.toNat) ⟨h.mono (by simp only [];omega),by simp;omega,by simp⟩ λs ⟨h1,h2,h3⟩ => ?_;unfold nP;refine .bifD (λh0=>?_) λh0 => .pure ⟨h1.mono (by omega),xd.2 ⟨by simp only [];omega,h3⟩⟩;refine Q4.bind (P:=λv=>Rd (k+13*(3-s.2.2.2)+13) ⟨v.1,v.2.1⟩/\∃ t:List QV,v.2.2=s.2.2.1++[t]/\t.length<=8/\∀ x∈t,smI x=Ri) ?_ λv ⟨a1,t,a2,a3,a4⟩ => ?_
 ·refine Q4.bind (P:=λv=>Rd (k+13*(3-s.2.2.2)+13) ⟨v.1,v.2.1⟩/\v.2.2.length<=3/\∀ x∈v.2.2,smI x=Ri) ?_ λv ⟨a1,a2,a3⟩ => .gdC (by omega) rfl<|.pure ⟨a1,v.2.2,rfl,by omega,a3⟩;refine (xa h1 (by omega) _<|by simp).bind λv ⟨b1,b2⟩=>(Iy (n:=v.2) b1.mk' (by omega)<|by simp only [WK,WP,or_false] at b2;omega).mono λu ⟨c1,c2,c3⟩=>⟨c1.mono (by omega),c2,c3⟩
 refine .gdI (by omega)<|.pure ⟨⟨a1.mono (by simp only [];omega),by simp only [a2,lla,llc,WN];omega,λr hr=>?_⟩,by simp only [];omega⟩;simp only [a2] at hr;rcases WO.1 hr with hr | hr
 ·exact h3 r hr
 rw [WL.1 hr];exact ⟨a3,a4⟩
theorem NW {p:List (List QV)} (h:smP p=Ri) {i:Nat} (hi:i<p.length) {l:List QV} (hl:(p.getD i []).length+l.length<=9) (hx:∀ x∈l,smI x=Ri):(KY p i l).length<=4/\∀ r∈KY p i l,r.length<=9/\∀ x∈r,smI x=Ri:=by
 rw [xd] at h;unfold KY;refine ⟨by rw [List.length_set];exact h.1,λr hr=>?_⟩;rcases List.mem_or_eq_of_mem_set hr with hr | rfl
 ·exact ⟨by have := (h.2 r hr).1;omega,(h.2 r hr).2⟩
 have hg:p.getD i []=p[i]:=by simp [hi]
 refine ⟨by rw [lla];omega,λx hxx=>?_⟩;rcases WO.1 hxx with hxx | hxx
 ·rw [hg] at hxx;exact (h.2 _<|WJ hi).2 x hxx
 exact hx x hxx
def Sm (p:List<|List QV):Prop:=p.length<=9/\∀ r∈p,r.length<=9/\∀ x∈r,smI x=Ri
theorem KC {p:List (List QV)} (h:smP p=Ri):Sm p:=by
 rw [xd] at h;exact ⟨by omega,λr hr=>⟨by have := (h.2 r hr).1;omega,(h.2 r hr).2⟩⟩
theorem Sm.sz {p:List (List QV)} (h:Sm p):p.length<=1048576/\total p<=1048576:=by
 have h1:=Ei (m:=9) λr hr=>(h.2 r hr).1;have h2:p.length*9<=81:=by have := h.1;omega
 exact ⟨by have := h.1;omega,by omega⟩
theorem Fc {k:Int} {r:ah} (h:Rd k r) (hk:k<=100000) {p:List (List QV)} (hp:smP p=Ri):Q4 (kg r p) λv=>Rd (k+4) v.1/\Sm v.2:=by
 unfold kg;have hp0:=xd.1 hp;have hg:∀ i,(p.getD i []).length<=8:=λi=>by
  by_cases hi:i<p.length
  ·have : p.getD i []=p[i]:=by simp [hi]
   rw [this];exact (hp0.2 _<|WJ hi).1
  simp [List.getD,gen (Nat.le_of_not_lt hi)]
 refine .gd (Ma hp)<|.bif (λ_ => .pure ⟨h.mono (by omega),KC hp⟩) λh0=>?_;have hpos:0<p.length:=by
  cases hc:p.length with
  | zero=>rw [hc] at h0;cases h0
  | succ n=>omega
 refine (dw h (by omega) _).bind λv1 ⟨a1,a2,a3⟩=>(dw a1 (by omega) _).bind λv2 ⟨b1,b2,b3⟩ => .gdD ⟨a2,by omega⟩ ?_;have hi:v1.2.toNat<p.length:=by omega
 have put:∀ {l:List QV},(p.getD v1.2.toNat []).length+l.length<=9->(∀ x∈l,smI x=Ri)->Sm (KY p v1.2.toNat l):=λ{l} hl hx=>by
  obtain ⟨g1,g2⟩:=NW hp hi hl hx;exact ⟨by omega,g2⟩
 refine .bif (λ_=>(xa b1 (by omega) _<|by simp).bind λa ⟨c1,c2⟩=>(xa c1 (by omega) _<|by simp).bind λb ⟨d1,d2⟩ => .pure ⟨d1.mono (by omega),put (by have := hg v1.2.toNat;simp only [llc,WN];omega) λx hx=>?_⟩) λ_=>?_
 ·rw [WL.1 hx];simp only [WK,WP,or_false] at c2 d2;exact decide_eq_true (by simp only [];omega)
 refine .bif (λ_=>(xa b1 (by omega) _<|by simp).bind λa ⟨c1,c2⟩ => .pure ⟨c1.mono (by omega),put (by have := hg v1.2.toNat;simp only [llc,WN];omega) λx hx=>?_⟩) λ_=>?_
 ·rw [WL.1 hx];simp only [WK,WP,or_false] at c2;exact decide_eq_true (by simp only [];omega)
 refine .bif (λ_ => .pure ⟨b1.mono (by omega),by simp only [lla,Xb];omega,λr hr=>?_⟩) λ_=>?_
 ·rcases WO.1 hr with hr | hr
  ·exact ⟨by have := (hp0.2 r hr).1;omega,(hp0.2 r hr).2⟩
  rw [Xd hr];exact ⟨by simp,by simp⟩
 refine .bif (λ_ => .pure ⟨b1.mono (by omega),put (by have := hg v1.2.toNat;rw [Xb];omega) λx hx=>?_⟩) λ_=>?_
 ·rw [Xd hx]
  rfl
 refine .bif (λ_ => .pure ⟨b1.mono (by omega),?_⟩) λ_ => .pure ⟨b1.mono (by omega),KC hp⟩;exact ⟨by simp only [List.length_take,List.length_drop];omega,λr hr=>(KC hp).2 r<|W5<|W6 hr⟩

def qx (r_:ah):Option (ah×(List<|List QV)×QW):= WF (qm (⟨r_.b,r_.p⟩:ah)) λv1=>WF (rO v1.2) λv2=>WF (az (⟨v1.1.b,v1.1.p⟩:ah) (v2.length:Int)) λv3=>gd (Rm<|0<=v3.2/\v3.2<(v2.length:Int)) <|Rk ((⟨v3.1.b,v3.1.p⟩:ah),v1.2,(⟨(J v2 v3.2).From,(J v2 v3.2).Order⟩:QW))
def kO (code:LI):Option ((List<|List QV)×QW):= WF (kR code) λv1=>WF (qx (⟨v1.b,v1.p⟩:ah)) λv2=>WF (kg (⟨v2.1.b,v2.1.p⟩:ah) v2.2.1) λv3=>WF (jT (⟨v3.1.b,v3.1.p⟩:ah) (⟨v2.2.2.From,v2.2.2.Order⟩:QW)) λv4=>Rk (v3.2,(⟨v4.2.From,v4.2.Order⟩:QW))
def fG (code:LI):Option ((List<|List QV)×QW):= WF (kO code) λv1=>Rk (v1.1,(⟨v1.2.From,v1.2.Order⟩:QW))
def uM (a:LI) (b:LI):LS Int (Unit ⊕ Bool):=λs5=>bif Rm (s5<(a.length:Int)) then gd (Rm<|0<=s5/\s5<(a.length:Int)) <|gd (Rm<|0<=s5/\s5<(b.length:Int)) <|bif ((J a s5) != (J b s5)) then Rk (.inr<|.inr Rj) else gd (QS .i64<|s5+(1:Int)) <|Rk (.inl<|s5+(1:Int)) else Rk (.inr<|.inl ())
def kG (a:LI) (b:LI):Option Bool:= bif ((a.length:Int) != (b.length:Int)) then Rk Rj else sumK (loopO (uM a b) (0:Int)) λs2=>Rk Ri
def eT (code:LI):Option Bool:= bif Rm ((1048576:Int)<(code.length:Int)) then Rk Ri else WF (fG code) λv2=>WF (bV v2.1 (⟨v2.2.From,v2.2.Order⟩:QW)) λv3=>WF (dX v2.1 (⟨v2.2.From,v2.2.Order⟩:QW)) λv4=>WF (bif (!(v3.2==v4.2)) then Rk Ri else WF (kG v3.1 v4.1) λv7=>Rk<|!v7) λs5=>WF (bif s5 then Rk Ri else WF (bQ v2.1 (⟨v2.2.From,v2.2.Order⟩:QW)) λv10=>Rk<|!v10) λs8=>bif s8 then WF (bif (v3.2==v4.2) then WF (kG v3.1 v4.1) λv14=>Rk v14 else Rk Rj) λs12=>Rk s12 else WF (kT (⟨#[115,101,113]⟩:BA)) λv15=>WF (kF v2.1 (⟨v2.2.From,v2.2.Order⟩:QW) v15.1) λv16=>WF (iA v2.1 v3.1) λv17=>WF (bif v15.2 then Rk v16.2 else Rk Rj) λs18=>WF (bif s18 then Rk (v3.2==(v16.1==(-1:Int))) else Rk Rj) λs20=>WF (bif s20 then WF (bif !v3.2 then Rk Ri else WF (bif v17.2 then WF (mL (⟨v2.2.From,v2.2.Order⟩:QW) (⟨v17.1.From,v17.1.Order⟩:QW)) λv28=>Rk v28 else Rk Rj) λs26=>Rk s26) λs24=>Rk s24 else Rk Rj) λs22=>Rk s22
def Gv (t:BA):Bool:=match iH t with
 | some v=>smP v.1&&(!v.2||bq (Q7 v.1))
 | none=>Rj
theorem Gw:∀ l,nX=Rk l->l.all Gv=Ri:=by
 intro l h;obtain rfl:=osl h
 decide +kernel
theorem Gx {t:BA} (h:Gv t=Ri):Q4 (eO t) λv=>smP v.1=Ri/\(v.2=Ri->bq (Q7 v.1)=Ri):=by
 unfold Gv at h
 cases hc:iH t with
 | none=>rw [hc] at h;cases h
 | some v=>
  rw [hc] at h;refine ⟨v,uT t v hc,?_⟩;simp only [bae,Bool.or_eq_true,Bool.not_eq_true'] at h;exact ⟨h.1,λe=>h.2.resolve_left λh2=>by rw [e] at h2;cases h2⟩
theorem NY:((WI 6).all λo=>(WI 3).all λl=>(WI 3).all λg=>(WI 4).all λv => !iK ⟨(o:Int),(l:Int),(g:Int),(v:Int)⟩||bq [[⟨(o:Int),(l:Int),(g:Int),(v:Int)⟩]])=Ri:=by decide +kernel
theorem vG {x:QV} (h1:0<=x.Op/\x.Op<6) (h2:0<=x.Loc/\x.Loc<3) (h3:0<=x.Reg/\x.Reg<3) (h4:0<=x.Val/\x.Val<4) (h:iK (jl x)=Ri):bq (Q7 [[x]])=Ri:=by
 have e:=NY;have e:=WH.1 e x.Op.toNat<|WQ.2 (by omega);have e:=WH.1 e x.Loc.toNat<|WQ.2 (by omega);have e:=WH.1 e x.Reg.toNat<|WQ.2 (by omega);have e:=WH.1 e x.Val.toNat<|WQ.2 (by omega);rw [WG h1.1,WG h2.1,WG h3.1,WG h4.1] at e;have e':(!iK (jl x)||bq (Q7 [[x]]))=Ri:=e;rw [h] at e';simpa using e'
theorem Qs {o l g:Int} (ho:o=1\/o=3) (h:0<=l/\l<=2) (h':0<=g/\g<=2):iK ⟨o,l,g,0⟩=Ri:=by
 unfold iK Q0
 grind
theorem ok2 {l v:Int} (h:0<=l/\l<=2) (h':0<=v/\v<=3):iK ⟨2,l,0,v⟩=Ri:=by
 unfold iK Q0
 grind
theorem ok5 {l g v:Int} (h:0<=l/\l<=2) (h':0<=g/\g<=2) (h'':0<=v/\v<=3):iK ⟨5,l,g,v⟩=Ri:=by
 unfold iK Q0
 grind
theorem Fe {k:Int} {r:ah} (h:Rd k r) (hk:k<=10000000):Q4 (fT r) λv=>Rd (k+4) v.1/\smI v.2=Ri/\bq (Q7 [[v.2]])=Ri:=by
 unfold fT;refine (dw h.mk' (by omega) 2).bind λv1 ⟨a1,a2,a3⟩=>(dw a1.mk' (by omega) 7).bind λv2 ⟨b1,b2,b3⟩ => ?_;refine .bif (λ_ => .pure ⟨b1.mono (by omega),by simp only [smI];exact decide_eq_true (by omega),vG (x:=⟨4,0,0,0⟩) (by decide) (by decide) (by decide) (by decide)<|by decide⟩) λ_=>?_;refine .bif (λ_=>(dw b1.mk' (by omega) 2).bind λv3 ⟨c1,c2,c3⟩ => .pure ⟨c1.mono (by omega),decide_eq_true (by simp only [];omega),vG (by simp only [];omega) (by simp only [];omega) (by simp only [];omega) (by simp only [];omega)<|Qs (.inr rfl) (by simp only [];omega)<|by simp only [];omega⟩) λ_=>?_;refine .bif (λ_=>(dw b1.mk' (by omega) 2).bind λv3 ⟨c1,c2,c3⟩=>(dw c1.mk' (by omega) 3).bind λv4 ⟨d1,d2,d3⟩ => .gdI (by omega)<|.pure ⟨d1.mono (by omega),decide_eq_true (by simp only [];omega),vG (by simp only [];omega) (by simp only [];omega) (by simp only [];omega) (by simp only [];omega)<|ok5 (by simp only [];omega) (by simp only [];omega)<|by simp only [];omega⟩) λ_=>?_;refine Q4.bind (P:=λ_=>True) (.bif (λ_ => .pure trivial) λ_ => .pure trivial) λs _=>?_;refine .bif (λ_=>(dw b1.mk' (by omega) 3).bind λv3 ⟨c1,c2,c3⟩ => .gdI (by omega)<|.pure ⟨c1.mono (by omega),decide_eq_true (by simp only [];omega),vG (by simp only [];omega) (by simp only [];omega) (by simp only [];omega) (by simp only [];omega)<|ok2 (by simp only [];omega)<|by simp only [];omega⟩) λ_=>?_;exact (dw b1.mk' (by omega) 2).bind λv3 ⟨c1,c2,c3⟩ => .pure ⟨c1.mono (by omega),decide_eq_true (by simp only [];omega),vG (by simp only [];omega) (by simp only [];omega) (by simp only [];omega) (by simp only [];omega)<|Qs (.inl rfl) (by simp only [];omega)<|by simp only [];omega⟩
theorem Gy {k:Int} {r:ah} (h:Rd k r) (hk:k<=10000):Q4 (qm r) λv=>Rd (k+46) v.1/\smP v.2=Ri/\bq (Q7 v.2)=Ri:=by
 unfold qm J;have e1:∃ l,nX=Rk l/\0<l.length/\l.length<=100:=⟨_,rfl,by decide,by decide⟩;obtain ⟨l,e1,e2,e3⟩:=e1;have hp':=λt (ht:t∈l)=>Gx<|WH.1 (Gw l e1) t ht;refine (Q4.of (P:=λv=>v=l) e1 rfl).bind λv1 hv=>?_;subst hv;refine Q4.sum (PS:=λs=>Rd (k+2) ⟨s.1,s.2⟩) (PW:=λv:ah×List (List QV)=>Rd (k+46) v.1/\smP v.2=Ri/\bq (Q7 v.2)=Ri) ?_ λs hs=>?_
 ·refine (dw h.mk' (by omega) 3).bind λv3 ⟨a1,a2,a3⟩ => .bif (λ_=>?_) λ_ => .pure<|a1.mk'.mono (by omega);refine (dw a1.mk' (by omega) _).bind λv5 ⟨b1,b2,b3⟩ => .gdD ⟨b2,by omega⟩ ?_;have hlt:v5.2.toNat<v1.length:=by omega
  refine Q4.bind (hp' (v1.getD v5.2.toNat Rh)<|by rw [gdq,geq hlt];exact WJ _) λv7 h7=>?_;exact .bif (λhb => .pure ⟨b1.mk'.mono (by omega),h7.1,h7.2 hb⟩) λ_ => .pure<|b1.mk'.mono (by omega)
 refine Q4.bind (P:=λv=>Rd (k+42) ⟨v.1,v.2.1⟩/\smP v.2.2=Ri) ?_ λv ⟨a1,a2⟩ => ?_
 ·exact (xa hs (by omega) _<|by simp).bind λv ⟨b1,b2⟩=>(Gu (n:=v.2) b1.mk' (by omega)<|by simp only [WK,WP,or_false] at b2;omega).mono λu ⟨c1,c2⟩=>⟨c1.mono (by omega),c2⟩
 have hv:Q4 (bf v.2.2) (· = bq (Q7 v.2.2)) := .gdD (Pj a2)<|.pure rfl;refine hv.bind λb hb => .bif (λe => .pure ⟨a1.mono (by omega),a2,by rw [<- hb];exact e⟩) λ_=>?_;exact (Fe a1<|by omega).bind λu ⟨c1,c2,c3⟩ => .pure ⟨c1.mk'.mono (by omega),xd.2 ⟨by simp,by simp [c2]⟩,c3⟩
theorem Gz {α:Type}:∀ {cs:List (List α)},(∀ c∈cs,c≠[])->wW cs≠[]
 | [],_=>by simp [wW]
 | c::cs,h=>by
  have h1:=h c (by simp);have h2:=Gz (cs:=cs) λd hd=>h d<|W7 _ hd;obtain ⟨a,l,rfl⟩:=WX h1;obtain ⟨b,m,e⟩:=WX h2;unfold wW;rw [e];simp
theorem Mb {p:List (List QV)} (hp:PV p):0<(Ce p).length:=by
 have h1:wW (chF p)≠[]:=Gz λc hc=>by
  obtain ⟨i,hi,rfl⟩:=List.mem_map.1 hc;have hi:=WQ.1 hi;unfold chE
  split
  ·rename_i hr;have hl:=ny hp (n:=(i:Int)) (by omega) (by omega);have h0:=mO (p:=p) (l:=(ev p (i:Int)).Loc.toNat) (by omega);rw [WG hl.1] at h0;have hm:(ev p (i:Int)).Loc∈Q6 p (ev p (i:Int)).Loc:=by
    unfold Q6;refine WZ.2 ⟨(o6 _).2 ⟨hl.1,by omega⟩,?_⟩;unfold Wl;rw [h0.1];simp
   have hne : ¬ (ev p (i:Int)).Loc=(i:Int):=λe=>by
    have h1:=h0.1;rw [e] at h1;rw [h1] at hr
    cases hr
   exact List.ne_nil_of_mem<|WZ.2 ⟨hm,by simpa using hne⟩
  exact List.cons_ne_nil _ _
 have h2:wW (chO p)≠[]:=Gz λc hc=>by
  have key:∀ l:Nat,chL p l≠[]:=λl e=>by
   unfold chL at e;have := Cc (Q6 p (l:Int)).tail.length (Q6 p (l:Int)).tail rfl;rw [List.map_eq_nil_iff.1 e,WN] at this;have h3:=DW (Q6 p (l:Int)).tail.length;omega
  unfold chO at hc;simp only [WK,WP,or_false] at hc;rcases hc with rfl | rfl | rfl <;> exact key _
 obtain ⟨a,l,ea⟩:=WX h1;obtain ⟨b,m,eb⟩:=WX h2;unfold Ce;rw [ea,eb];simp
def SmX (x:QW):Prop:=∀ r∈x.Order,r.length<=1048576
theorem GA {k:Int} {r:ah} (h:Rd k r) (hk:k<=10000):Q4 (qx r) λv=>Rd (k+47) v.1/\smP v.2.1=Ri/\PV v.2.1/\Cand v.2.1 (v.2.2.From,v.2.2.Order) (NH v.2.1):=by
 unfold qx J;refine (Gy h.mk' hk).bind λv1 ⟨a1,a2,a3⟩ => ?_;have hp:=PV.of a3;refine (J8 a3).bind λv2 h2=>?_;subst h2;have hne:=Mb hp;refine (dw a1.mk' (by omega) _).bind λv3 ⟨b1,b2,b3⟩ => ?_;have hlt:v3.2<((Ce v1.2).length:Int):=by
  rcases b3 with h | h
  ·exact h
  omega
 have hm:=getD_in (l:=Ce v1.2) (i:=v3.2.toNat) (by omega);exact .gdD ⟨b2,hlt⟩<|.pure ⟨b1.mk'.mono (by omega),a2,hp,Gi hp hm⟩
theorem Ff {k:Int} {r:ah} {p:List (List QV)} {x:QW} (h:Rd k r) (hk:k<=10000) (hp:PV p) (C:Cand p (x.From,x.Order)<|NH p):Q4 (jT r x) λv=>SmX v.2:=by
 have hel:=jX hp.vs;have h3:3<=(evs p).length:=by have := (mO (p:=p) (l:=2)<|by omega).2;omega
 have hf:x.From.length=(evs p).length:=C.flen;have ho:x.Order.length=3:=C.olen;have hr:∀ r∈x.Order,r.length<=24:=λr hr=>by
  obtain ⟨i,hi,rfl⟩:=List.getElem_of_mem hr;have e:od (x.From,x.Order) (i:Int)=x.Order[i]:=by
   unfold od;rw [tnn,gdq,geq hi];rfl
  have hc:=C.ods (i:Int) (by omega);rw [e] at hc;have := List.Nodup.length_le_of_subset hc.nd (l₂:=NH p) λn hn=>((hc.mem n).1 hn).1;unfold NH at this;rw [llm,WR] at this;omega
 have hfit:Jv x=Ri:=by
  unfold Jv;simp only [bae,dte,WH];exact ⟨⟨by omega,by omega⟩,λr h'=>by have := hr r h';omega⟩
 have hd:∀ r∈x.Order.drop 1,r.length<=1048576:=λr h'=>by have := hr r<|W5 h';omega
 have h0:(x.Order.getD 0 []).length<=24:=by
  rw [gdq,geq (by omega)];exact hr _<|WJ _
 have hb:∀ r∈x.Order,r.length<=1048576:=λr h'=>by have := hr r h';omega
 unfold jT;refine .gd hfit<|(dw h (by omega) 24).bind λv ⟨a1,a2,a3⟩ => .bif (λ_=>?_) λ_ => .bif (λ_ => .pure hb) λ_ => .bif (λ_ => .gdD (by omega)<|.pure λr h'=>hd r<|W6 h') λ_ => .bif (λ_=>?_) λ_ => .bif (λ_ => .gdD (by omega)<|.pure λr h' => ?_) λ_ => .pure hb
 ·refine (dw a1 (by omega) _).bind λa ⟨b1,b2,b3⟩=>(xa b1 (by omega) _<|by simp).bind λb _ => .gdD ⟨b2,by omega⟩<|.pure hb
 ·refine .gdD (by omega)<|(xa a1 (by omega) _<|by simp).bind λb _ => .pure λr h' => ?_;rcases WK.1 h' with rfl | h'
  ·rw [lla,List.length_singleton];omega
  exact hd r h'
 rcases WK.1 h' with rfl | h'
 ·exact WS _
 exact hd r h'
theorem KD {b:LI} (hb:Bts b):Q4 (fG b) λv=>Sm v.1/\SmX v.2:=by
 unfold fG;refine Q4.bind (P:=λv:List (List QV)×QW=>Sm v.1/\SmX v.2) ?_ λv hv => .pure hv;unfold kO;refine (L9 hb).bind λr h=>(GA h.mk'<|by omega).bind λv ⟨a1,a2,a3,a4⟩=>(Fc a1.mk' (by omega) a2).bind λu ⟨b1,b2⟩=>(Ff b1.mk' (by omega) a3 a4).bind λw hw => .pure ⟨b2,hw⟩
theorem Mc {p:List (List QV)} (hv:bq (Q7 p)=Ri) (hsz:p.length<=1048576/\total p<=1048576):∃ v,iA p []=Rk v:=by
 have hp:=PV.of hv;have hI:aT p=Rk Ri:=hv ▸ oP (decide_eq_true hsz);have h0:=JH hp;have hg:Good p [] ([]:LI).length:=λj hj=>absurd hj (by simp);obtain ⟨u',z',g1,g2,g3⟩:=OV hp (s:=[]) (by simp) hg 0 0 _ _ rfl h0 λt ht=>by
  rw [h0.a t ht];simp only [u0,Z3b.get,List.take_zero,List.count_nil]
  split <;> (try split) <;> rfl
 obtain ⟨d,d1,d2⟩:=ES hp g2;have key:Q4 (iA p []) λ_=>True:=by
  unfold iA;refine (JC hI g1 d1 (Ad hp g2).eq).bind λv hv=>?_;exact .bif (λ_ => .pure trivial) λ_=>(EU hp (by simp) hg).bind λv hv => .pure trivial
 obtain ⟨v,h1,_⟩:=key;exact ⟨v,h1⟩
theorem GD (a:LI) (ha:a.length<=1048576):Q4 (kG a a) (· = Ri):=by
 unfold kG;refine .bif (λh=>by simp at h) λ_=>Q4.sum (PS:=λ_=>True) (PW:=(· = Ri)) ?_ λ_ _ => .pure rfl;refine Q4.loop (λz=>0<=z/\z<=(a.length:Int)) (λz=>((a.length:Int)-z).toNat) ⟨WW _,by omega⟩ λz ⟨h1,h2⟩ => ?_;unfold uM J;exact .bifD (λh0 => .gdD ⟨h1,h0⟩<|.gdD ⟨h1,h0⟩<|.bif (λh=>by simp at h) λ_ => .gdI (by omega)<|.pure ⟨⟨by omega,by omega⟩,by omega⟩) λ_ => .pure trivial
theorem P5 {b:LI} (hb:Bts b):eT b=Rk Ri:=by
 refine Q4.eq ?_;unfold eT;refine .bifD (λ_ => .pure rfl) λ_=>(KD hb).bind λv ⟨hp,hx⟩ => ?_;obtain ⟨p,xe⟩:=v;obtain ⟨xf,xo⟩:=xe;simp only at hp hx ⊢;have hsz:=hp.sz;obtain ⟨l,ok,e1,e2,hl⟩:=Ef (x:=(xf,xo)) hsz hx;have hsame:=GD l (by omega);refine (Q4.of (P:=(· = (l,ok))) e1 rfl).bind λv3 h3=>(Q4.of (P:=(· = (l,ok))) e2 rfl).bind λv4 h4=>?_;subst h3 h4;refine Q4.bind (P:=(· = Rj)) (.bif (λh=>by simp at h) λ_=>hsame.bind λv hv => .pure<|by rw [hv];rfl) λs5 h5=>?_;subst h5;have hgood:Q4 (WF (bif (ok==ok) then WF (kG l l) λv14=>Rk v14 else Rk Rj) λs12=>Rk s12) (· = Ri):=
  Q4.bind (P:=(· = Ri)) (.bif (λ_=>hsame.bind λv hv => .pure hv) λh=>by simp at h) λs hs => .pure hs
 cases hv:bq (Q7 p) with
 | false=>
  have hI:bQ p ⟨xf,xo⟩=Rk Rj:=by
   unfold bQ;rw [show aT p=Rk (bq<|Q7 p) from oP (decide_eq_true hsz),hv]
   rfl
  refine Q4.bind (P:=(· = Ri)) (.bif (λh=>by cases h) λ_=>(Q4.of (P:=(· = Rj)) hI rfl).bind λv hv => .pure<|by rw [hv];rfl) λs8 h8=>?_;subst h8;exact .bif (λ_=>hgood) λh=>by cases h
 | true=>
  have hpv:=PV.of hv;obtain ⟨c,i1,i2⟩:=MH (x:=(xf,xo)) hpv hv hsz hx;refine Q4.bind (P:=(· = !c)) (.bif (λh=>by cases h) λ_=>(Q4.of (P:=(· = c)) i1 rfl).bind λv hv => .pure<|by rw [hv]) λs8 h8=>?_;subst h8;refine .bif (λ_=>hgood) λhc=>?_;obtain rfl:c=Ri:=by simpa using hc
  have C:=(i2.1 rfl).cand hpv;obtain ⟨l',b',f1,_,_,f4,f5,_⟩:=zw hpv hv C;have hlo:=Gq hpv hv C f1;have e1':bV p ⟨xf,xo⟩=Rk (l',b'):=by
   refine Q4.eq ?_;unfold bV;exact (Q4.of (P:=(· = Ri)) i1 rfl).bind λv hv => .bif (λh=>by rw [hv] at h;cases h) λ_=>(Q4.of (P:=(· = (l',b'))) f1 rfl).bind λv hv => .pure (by rw [hv])
  rw [e1] at e1';obtain ⟨rfl,rfl⟩:=Prod.mk.inj<|osl e1';refine (Q4.of (P:=(· = (NT,Ri))) LY rfl).bind λv15 h15=>?_;subst h15;have hB:Q4 (kF p ⟨xf,xo⟩ NT) λv=>v.2=Ri/\(v.1 = -1↔ok=Ri):=by
   unfold kF;refine (Q4.of (P:=(· = Ri)) i1 rfl).bind λv hv' => ?_;subst hv';refine Q4.bind (P:=(· = Rj)) (.bif (λh=>by cases h) λ_=>(Q4.of (P:=(· = Ri)) LZ rfl).bind λv hv => .pure<|by rw [hv];rfl) λv hv2=>?_;subst hv2;refine .bif (λh=>by cases h) λ_=>(Iv (x:=(xf,xo)) hpv hv C).bind λv ⟨v1,v2⟩ => .pure ⟨rfl,?_⟩;rw [hlo,<- v1];exact ⟨λe=>by simp only [] at e;omega,λe=>v2 e⟩
  refine hB.bind λv16 ⟨k1,k2⟩ => ?_
  cases ok with
  | true=>
   obtain ⟨g1,g2,_⟩:=f5 rfl;have hx1:=Il hsz (s:=l) (by omega) g1;refine (Q4.of (P:=(· = (PT p l Ri,Ri))) hx1 rfl).bind λv17 h17=>?_;subst h17;have he:PT p l Ri=⟨xf,xo⟩:=by
    show (⟨(wT p<|sN p l l.length).1,(wT p<|sN p l l.length).2⟩:QW)=_;rw [g2]
   rw [he];have hEB:EB ⟨xf,xo⟩:=by
    have hel:=jX hpv.vs;refine ⟨by show xf.length<=_;have : xf.length=_:=C.flen;omega,by show xo.length<=_;have : xo.length=_:=C.olen;omega,λi=>?_⟩;show (xo.getD i []).length<=_
    by_cases hi:i<xo.length
    ·have := hx (xo.getD i []) (by rw [gdq,geq hi];exact WJ _);omega
    rw [gdq,gen (by omega)];exact WS _
   have hes:=JG (a:=⟨xf,xo⟩) (b:=⟨xf,xo⟩) hEB;have hk:v16.1 = -1:=k2.2 rfl;refine Q4.bind (P:=(· = Ri)) (.bif (λ_ => .pure k1) λh=>by cases h) λs18 h18=>?_;subst h18;refine Q4.bind (P:=(· = Ri)) (.bif (λ_ => .pure<|by rw [hk];rfl) λh=>by cases h) λs20 h20=>?_;subst h20;refine Q4.bind (P:=(· = Ri)) (.bif (λ_=>?_) λh=>by cases h) λs22 h22 => .pure h22;refine Q4.bind (P:=(· = Ri)) (.bif (λh=>by cases h) λ_=>Q4.bind (P:=(· = Ri)) (.bif (λ_=>hes.bind λv hv => .pure<|by rw [hv];simp [same]) λh=>by cases h) λs hs => .pure hs) λs hs => .pure hs
  | false=>
   obtain rfl:=f4 rfl;obtain ⟨w,hw⟩:=Mc hv hsz;refine (Q4.of (P:=λ_=>True) hw trivial).bind λv17 _=>?_;have hk : ¬ v16.1 = -1:=λe=>by have := k2.1 e;cases this
   refine Q4.bind (P:=(· = Ri)) (.bif (λ_ => .pure k1) λh=>by cases h) λs18 h18=>?_;subst h18;refine Q4.bind (P:=(· = Ri)) (.bif (λ_ => .pure ?_) λh=>by cases h) λs20 h20=>?_
   ·have : (v16.1==(-1:Int))=Rj:=by simpa using hk
    rw [this];rfl
   subst h20;refine Q4.bind (P:=(· = Ri)) (.bif (λ_=>Q4.bind (P:=(· = Ri)) (.bif (λ_ => .pure rfl) λh=>by cases h) λs hs => .pure hs) λh=>by cases h) λs22 h22 => .pure h22
theorem Ra:TyF Rn 3 Rj 1:=⟨by kernel_rfl,by kernel_rfl,by kernel_rfl,by kernel_rfl⟩
theorem zs3:TyZ Rn 3 [I (0:Int)]:=⟨by kernel_rfl,by kernel_rfl⟩
theorem ty4:TyF Rn 4 Rj 1:=⟨by kernel_rfl,by kernel_rfl,by kernel_rfl,by kernel_rfl⟩
theorem bt4:wN Rn 4=Ri:=by kernel_rfl
theorem ty5:TyF Rn 5 Rj 1:=⟨by kernel_rfl,by kernel_rfl,by kernel_rfl,by kernel_rfl⟩
theorem zs5:TyZ Rn 5 [Y (0:Int)]:=⟨by kernel_rfl,by kernel_rfl⟩
theorem ty9:TyF Rn 9 Rj 1:=⟨by kernel_rfl,by kernel_rfl,by kernel_rfl,by kernel_rfl⟩
theorem zs9:TyZ Rn 9 [St (⟨#[]⟩:BA)]:=⟨by kernel_rfl,by kernel_rfl⟩
theorem ML:TyF Rn 22 Rj 1:=⟨by kernel_rfl,by kernel_rfl,by kernel_rfl,by kernel_rfl⟩
theorem Qt:TyF Rn 23 Rj 1:=⟨by kernel_rfl,by kernel_rfl,by kernel_rfl,by kernel_rfl⟩
theorem Ag:TyF Rn 24 Rj 1:=⟨by kernel_rfl,by kernel_rfl,by kernel_rfl,by kernel_rfl⟩
theorem QF:TyZ Rn 24 [.nil]:=⟨by kernel_rfl,by kernel_rfl⟩
theorem Dx:TyF Rn 25 Rj 1:=⟨by kernel_rfl,by kernel_rfl,by kernel_rfl,by kernel_rfl⟩
theorem QG:TyZ Rn 25 [.nil]:=⟨by kernel_rfl,by kernel_rfl⟩
theorem vH:TyF Rn 27 Ri 2:=⟨by kernel_rfl,by kernel_rfl,by kernel_rfl,by kernel_rfl⟩
theorem Ej:TyZ Rn 27 [.nil,.nil]:=⟨by kernel_rfl,by kernel_rfl⟩
theorem yF:TyS Rn 27 [(0,1),(1,1)]:=⟨by kernel_rfl⟩
theorem Qu:TyF Rn 57 Rj 1:=⟨by kernel_rfl,by kernel_rfl,by kernel_rfl,by kernel_rfl⟩
theorem QH:TyZ Rn 57 [.nil]:=⟨by kernel_rfl,by kernel_rfl⟩
theorem P6:TyF Rn 60 Ri 5:=⟨by kernel_rfl,by kernel_rfl,by kernel_rfl,by kernel_rfl⟩
theorem P8:TyZ Rn 60 [I (0:Int),I (0:Int),I (0:Int),Bo Rj,Bo Rj]:=⟨by kernel_rfl,by kernel_rfl⟩
theorem KZ:TyF Rn 73 Rj 1:=⟨by kernel_rfl,by kernel_rfl,by kernel_rfl,by kernel_rfl⟩
theorem QI:TyZ Rn 73 [.nil]:=⟨by kernel_rfl,by kernel_rfl⟩
theorem Hu:TyF Rn 79 Ri 4:=⟨by kernel_rfl,by kernel_rfl,by kernel_rfl,by kernel_rfl⟩
theorem NZ:TyZ Rn 79 [I (0:Int),I (0:Int),I (0:Int),I (0:Int)]:=⟨by kernel_rfl,by kernel_rfl⟩
theorem N7:TyS Rn 79 [(0,1),(1,1),(2,1),(3,1)]:=⟨by kernel_rfl⟩
theorem Qv:TyZ Rn 95 [I (0:Int),I (0:Int),I (0:Int)]:=⟨by kernel_rfl,by kernel_rfl⟩
theorem Fg:TyF Rn 116 Ri 3:=⟨by kernel_rfl,by kernel_rfl,by kernel_rfl,by kernel_rfl⟩
theorem Qa:TyZ Rn 116 [I (0:Int),St (⟨#[]⟩:BA),.nil]:=⟨by kernel_rfl,by kernel_rfl⟩
theorem Qb:TyF Rn 120 Ri 4:=⟨by kernel_rfl,by kernel_rfl,by kernel_rfl,by kernel_rfl⟩
theorem Qc:TyZ Rn 120 [I (0:Int),I (0:Int),St (⟨#[]⟩:BA),.nil]:=⟨by kernel_rfl,by kernel_rfl⟩
theorem Qd:TyZ Rn 157 [.nil,I (0:Int)]:=⟨by kernel_rfl,by kernel_rfl⟩
theorem Aw:TyS Rn 157 [(0,1),(1,1)]:=⟨by kernel_rfl⟩
theorem Qe:TyF Rn 170 Rj 1:=⟨by kernel_rfl,by kernel_rfl,by kernel_rfl,by kernel_rfl⟩
theorem Qf:TyF Rn 184 Ri 3:=⟨by kernel_rfl,by kernel_rfl,by kernel_rfl,by kernel_rfl⟩
theorem Iz:SlT Rn 22 5 Rj 1 [Y (0:Int)] 1:=⟨Tryz.underlying22,ty5,zs5,rfl,rfl,by kernel_rfl⟩
theorem Ah:SlT Rn 23 73 Rj 1 [.nil] 24:=⟨Tryz.underlying23,KZ,QI,rfl,rfl,by kernel_rfl⟩
theorem iI:SlT Rn 24 3 Rj 1 [I (0:Int)] 8:=⟨Tryz.underlying24,Ra,zs3,rfl,rfl,by kernel_rfl⟩
theorem xg:SlT Rn 25 24 Rj 1 [.nil] 24:=⟨Tryz.underlying25,Ag,QF,rfl,rfl,by kernel_rfl⟩
theorem QJ:SlT Rn 34 120 Ri 4 [I (0:Int),I (0:Int),St (⟨#[]⟩:BA),.nil] 56:=⟨Tryz.underlying34,Qb,Qc,rfl,rfl,by kernel_rfl⟩
theorem Pk:SlT Rn 51 9 Rj 1 [St (⟨#[]⟩:BA)] 16:=⟨Tryz.underlying51,ty9,zs9,rfl,rfl,by kernel_rfl⟩
theorem Pm:SlT Rn 52 27 Ri 2 [.nil,.nil] 48:=⟨Tryz.underlying52,vH,Ej,rfl,rfl,by kernel_rfl⟩
theorem Md:SlT Rn 57 60 Ri 5 [I (0:Int),I (0:Int),I (0:Int),Bo Rj,Bo Rj] 32:=⟨Tryz.underlying57,P6,P8,rfl,rfl,by kernel_rfl⟩
theorem Ek:SlT Rn 73 79 Ri 4 [I (0:Int),I (0:Int),I (0:Int),I (0:Int)] 32:=⟨Tryz.underlying73,Hu,NZ,rfl,rfl,by kernel_rfl⟩
theorem Qw:KeyA Rn 95 3 kI3:=by
 obtain ⟨i,hi⟩:=Option.isSome_iff_exists.1 (show (Rn.info? 3).isSome=Ri by kernel_rfl);exact PO Tryz.underlying95 Tryz.underlying3 (by kernel_rfl) hi (by kernel_rfl)
theorem El:SlT Rn 114 116 Ri 3 [I (0:Int),St (⟨#[]⟩:BA),.nil] 48:=⟨Tryz.underlying114,Fg,Qa,rfl,rfl,by kernel_rfl⟩
theorem KE:SlT Rn 151 25 Rj 1 [.nil] 24:=⟨Tryz.underlying151,Dx,QG,rfl,rfl,by kernel_rfl⟩
abbrev jA:=@TO.nil
abbrev jC:=@T.region
abbrev jE:=@T.block
abbrev jG:=@T.skip
abbrev jH:=@T.seq
abbrev jI:=@T.sr
abbrev jK:=@T.ret
abbrev jM:=@T.exit
abbrev jN:=@T.ifH
abbrev jO:=@T.loop
abbrev jP:=@T.drawF
abbrev jQ:=@Fin.ret
abbrev jR:=@TF.nil
theorem qC {m:Nat} {H:AH} {a:AV} (h:isF 9 a=Ri):Fz m H a a:=.of_isF 9 _ h
theorem qD {α:Sort _} {β:α->Sort _} {f:(x:α)->β x}:∀ x,f x=f x:=λ_=>rfl
theorem Ay (code:LI) {q} (h:kR code=Rk q):dS Rn 62 [eL cY code] [] (.hp 0 0 2 0 0) [Rk ⟨0,2,157,[(ah.c q)]⟩]:=by
 refine aM func62 Z (by kernel_rfl) Z<|jI<|oN as'<|jA ?_;refine T.jU h (λs1=>[(0,eL cY s1)]) (λs1=>[]) (λs1 h=>?_) λs1 h=>?_
 ·refine jI<|oN mv<|oN (QR.build [eL cY s1,I U] Tryz.underlying157 Qd Aw Z Z)<|oA (EvA.bx (cs:=[eL cY s1,I U]) Z Z Z)<|oN as'<|jA<|jK ?_;obtain rfl:=QU h
  repeat (first|refine n9 ?_|refine og ?_)
  exact ⟨ai [(2,.hp 0 0 2 0 0)],[Rk ⟨0,2,157,[(ah.c (⟨s1,U⟩:ah))]⟩],kw Z Z,jQ (vs:=[.hp 0 0 2 0 0]) (.cons (.tmp Z) .nil) ⟨Z,Z⟩⟩
 refine jI<|oN mv<|oN (QR.lenL Iz Z)<|oN (QR.igt Z Z)<|jA ?_;refine jN Z h (λq2 h=>?_) λq2 h=>?_
 ·refine jC<|oN mv<|jD h λg3 h=>oN (QR.slL Iz Z .no (.yes Z) g3 qD)<|oN as'<|jA ?_
  cases h
  exact ⟨(),trivial,kw Z Z⟩
 refine jG ?_
 cases h
 exact ⟨(),trivial,kw Z Z⟩
theorem aC (r_:ah) (n:Int) (aG:Nat) {q} (h:az r_ n=Rk q):dS Rn 126 [.hp 0 aG 2 0 0,I n] [Rk ⟨aG,2,157,[(ah.c r_)]⟩] (I q.2) [Rk ⟨aG,2,157,[(ah.c q.1)]⟩]:=by
 let d0:=((r_.p+V)-V);refine aM func126 Z (by kernel_rfl) Z<|jI<|oN as'<|jA<|jI<|oN mv<|oN mv<|oN (nl Z)<|oN (fa Aw Z)<|oA (lh (I r_.p) Ra Z Z Z)<|jW h λg1 h=>oN (QR.add Z Z g1)<|oN (nl Z)<|oN (fa Aw Z)<|oV (sr [eL cY r_.b,I (r_.p+V)] Ra Z Z Z Z)<|jA ?_;refine jH<|jI<|oN mv<|oN (QR.ilt Z Z)<|oN mv ?_;refine TO.jB h 7 (λs2=>[(24,Bo s2),(0,.hp 0 aG 2 0 0),(1,I n)]) (λs2=>[Rk ⟨aG,2,157,[[eL cY r_.b,I (r_.p+V)]]⟩]) (λs2 q3 h js2=>?_) (λs2 q3 h js2=>?_) λs2 h=>?_
 ·refine gS Z q3<|gS Z q3<|gS Z q3<|gS Z q3<|gS Z q3<|gS Z q3<|oN (QR.pickT Z q3 (Bo Ri) Z) ?_
  cases h
  exact js2 _ _<|kw Z Z
 ·refine gN Z q3 mv<|gN Z q3 (nl Z)<|gN Z q3 (fa Aw Z)<|gA Z q3 (lh (eL cY r_.b) ML Z Z Z)<|gN Z q3 (QR.lenL Iz Z)<|gN Z q3 (QR.ieq Z Z)<|oN (QR.pickF Z q3 (Bo<|(r_.b.length:Int)==U) Z) ?_
  cases h
  exact js2 _ _<|kw Z Z
 refine jA ?_;refine jN Z h (λq4 h=>?_) λq4 h=>?_
 ·refine jI<|oN as'<|jA<|jK ?_;obtain rfl:=QU h
  repeat (first|refine n9 ?_|refine og ?_)
  exact ⟨ai [(4,I U)],[Rk ⟨aG,2,157,[(ah.c (⟨r_.b,(r_.p+V)⟩:ah))]⟩],kw Z Z,jQ (vs:=[I U]) (.cons (.tmp Z) .nil) ⟨Z,Z⟩⟩
 refine jG<|jI<|oN mv<|oN (nl Z)<|oN (fa Aw Z)<|oA (lh (I<|r_.p+V) Ra Z Z Z)<|jW h λg5 h=>oN (QR.sub Z Z g5)<|oN as'<|jA<|jH<|jI<|oN mv<|oN mv<|oN (nl Z)<|oN (fa Aw Z) ?_;refine oA (lh (eL cY r_.b) ML Z Z Z)<|oN (QR.lenL Iz Z)<|oN (QR.ilt Z Z)<|jA ?_;refine jN Z h (λq6 h=>?_) λq6 h=>?_
 ·refine jI<|oN mv<|oN (nl Z)<|oN (fa Aw Z)<|oA (lh (eL cY r_.b) ML Z Z Z)<|oN mv<|jD h λg7 h=>oN (QR.ixL Iz Z Z g7 qD)<|oN (lf (Y<|J r_.b d0) ty5 Z)<|jW h λg8 h=>oN (QR.iconv ty5.und Tryz.underlying3 Z g8)<|oN mv<|jD h λg9 h=>oN (QR.rem Z Z g9)<|oN as'<|jA ?_;refine jK ?_;obtain rfl:=QU h
  repeat (first|refine n9 ?_|refine og ?_)
  exact ⟨ai [(4,I<|(J r_.b d0).tmod n)],[Rk ⟨aG,2,157,[(ah.c (⟨r_.b,(r_.p+V)⟩:ah))]⟩],kw Z Z,jQ (vs:=[I ((J r_.b d0).tmod n)]) (.cons (.tmp Z) .nil) ⟨Z,Z⟩⟩
 refine jG<|jH<|jP (dG [dF,dF,dF,([0],Rj),dF,dF,dF,dF,([0],Rj),dF,dF,dF,dF,dF,dF,dF,dF,dF,([0],Rj),dF,dF,dF,dF,dF,dF,([0],Rj),dF,dF,dF,dF,dF,dF,dF,dF,dF,dF,dF,dF,dF,dF,([0],Rj),dF,dF,dF,dF,dF]) (by kernel_rfl) (by kernel_rfl)<|fN Z mv<|fN Z (nl Z)<|fN Z (fa Aw Z)<|fR [0] Z (λG hG=>EvA.loadhp (eL cY r_.b) ML Z (hG.a0 Z) Z Z Z Z)<|fN Z mv<|fN Z mv<|fN Z (nl Z)<|fN Z (fa Aw Z)<|fR [0] Z (λG hG=>EvA.loadhp (eL cY r_.b) ML Z (hG.a0 Z) Z Z Z Z)<|fN Z (QR.lenL Iz Z)<|jD h λg10 h=>fN Z (QR.rem Z Z g10)<|jD h λg11 h=>?_;refine fN Z (QR.ixL Iz Z Z g11 qD)<|fN Z (lf (Y<|J r_.b<|d0.tmod (r_.b.length:Int)) ty5 Z)<|jW h λg12 h=>fN Z (QR.iconv ty5.und Tryz.underlying3 Z g12)<|jW h λg13 h=>fN Z (QR.mul Z Z g13)<|fN Z mv<|fN Z (nl Z)<|fN Z (fa Aw Z)<|fR [0] Z (λG hG=>EvA.loadhp (eL cY r_.b) ML Z (hG.a0 Z) Z Z Z Z)<|fN Z mv<|jW h λg14 h=>fN Z (QR.mul Z Z g14)<|jW h λg15 h=>fN Z (QR.add Z Z g15)<|fN Z mv ?_;refine fN Z (nl Z)<|fN Z (fa Aw Z)<|fR [0] Z (λG hG=>EvA.loadhp (eL cY r_.b) ML Z (hG.a0 Z) Z Z Z Z)<|fN Z (QR.lenL Iz Z)<|fN Z (QR.rem Z Z g10)<|jD h λg16 h=>fN Z (QR.ixL Iz Z Z g16 qD)<|fN Z (lf (Y<|J r_.b<|((d0*(7:Int))+(3:Int)).tmod (r_.b.length:Int)) ty5 Z)<|jW h λg17 h=>fN Z (QR.iconv ty5.und Tryz.underlying3 Z g17)<|jW h λg18 h=>fN Z (QR.mul Z Z g18)<|jW h λg19 h=>fN Z (QR.add Z Z g19)<|fN Z mv<|jW h λg20 h=>?_;refine fN Z (QR.mul Z Z g20)<|jW h λg21 h=>fN Z (QR.add Z Z g21)<|fN Z mv<|fN Z mv<|fN Z (nl Z)<|fN Z (fa Aw Z)<|fR [0] Z (λG hG=>EvA.loadhp (eL cY r_.b) ML Z (hG.a0 Z) Z Z Z Z)<|fN Z (QR.lenL Iz Z)<|jW h λg22 h=>fN Z (QR.quo Z Z g10 g22)<|jW h λg23 h=>fN Z (QR.mul Z Z g23)<|jW h λg24 h=>fN Z (QR.add Z Z g24)<|fN Z as' ?_;refine jR<|jH<|T.clean (H0:=[Rk ⟨aG,2,157,[[eL cY r_.b,I (r_.p+V)]]⟩]) (e0:=ai [(6,I<|((((J r_.b<|d0.tmod (r_.b.length:Int))*(131:Int))+((J r_.b<|((d0*(7:Int))+(3:Int)).tmod (r_.b.length:Int))*(1117:Int)))+(d0*(29:Int)))+((d0.tdiv (r_.b.length:Int))*(53:Int))),(1,I n)]) Z (QQ Z<|QQ Z QP)<|jC<|oN mv<|oN mv<|jD h λg25 h=>jW h λg26 h=>oN (QR.quo Z Z g25 g26)<|jB h λw27 ew27 h=>?_;replace ew27:=osi ew27;refine oN (QR.res (QR.bxor Z Z) (r':=I w27) λ_ _ hr=>by rw [<- ew27];exact hr)<|oN as'<|jA<|jI<|oN mv<|oN mv<|jD h λg28 h=>oN (QR.rem Z Z g28)<|oN as'<|jA<|jK ?_;obtain rfl:=QU h
 repeat (first|refine n9 ?_|refine og ?_)
 exact ⟨ai [(4,I<|w27.tmod n)],[Rk ⟨aG,2,157,[(ah.c (⟨r_.b,(r_.p+V)⟩:ah))]⟩],kw Z Z,jQ (vs:=[I (w27.tmod n)]) (.cons (.tmp Z) .nil) ⟨Z,Z⟩⟩
theorem cE (r_:ah) (list:LI) (aG:Nat) {q} (h:bi r_ list=Rk q):dS Rn 113 [.hp 0 aG 2 0 0,eL cI list] [Rk ⟨aG,2,157,[(ah.c r_)]⟩] (I q.2) [Rk ⟨aG,2,157,[(ah.c q.1)]⟩]:=by
 refine aM func113 Z (by kernel_rfl) Z<|jI<|oN as'<|jA<|jI<|oN mv<|oN mv<|oN mv<|oN (QR.lenL iI Z)<|jB h λv1 cv1 h=>oA (EvA.call Z Z Z<|(aC (⟨r_.b,r_.p⟩:ah) (list.length:Int) aG cv1).one 0 Z (.cons (.hp Z)<|.cons (.pF Z) .nil) (ak Z) (ak Z) Z)<|jD h λg2 h=>oN (QR.ixL iI Z Z g2 qD)<|oN (lf (I<|J list v1.2) Ra Z)<|oN as'<|jA ?_;refine jK ?_;obtain rfl:=QU h
 repeat (first|refine n9 ?_|refine og ?_)
 exact ⟨ai [(4,I<|J list v1.2)],[Rk ⟨aG,2,157,[(ah.c (⟨v1.1.b,v1.1.p⟩:ah))]⟩],kw Z Z,jQ (vs:=[I (J list v1.2)]) (.cons (.tmp Z) .nil) ⟨Z,Z⟩⟩
section
variable {α β:Type} [Inhabited β] {f:α->List Value} {s:Nat} {c:β->List AV} {w:World} {fz:Nat->Prop} {v:Value}
theorem KG {u x:Value} (h:FRel w fz (.v u) x):x=u:=by
 cases h with
 | v _=>rfl
theorem Dy {e:β->α} (hf:∀ x,c x=(f<|e x).map AV.v) (hs:∀ x,(f<|e x).length=s) {l:List β} (h:FRel w fz (eL c l) v):Sl f s w 0 w.heap.size v (l.map e):=by
 unfold eL at h
 cases h with
 | sl us hc hm ha hr hu h1 h=>
  refine ⟨_,_,by rw [llm],by simpa using hc,hm,λhn=>?_⟩;rw [llm] at hn;obtain ⟨rfl,hg,hlt⟩:=ha hn;refine ⟨_,_,rfl,WS _,hlt,hlt,λk hk j u hu' => ?_⟩;rw [llm] at hk;rw [WY] at hu';have hk0:l.getD k Rh=l[k]:=by simp [List.getD,hk]
  have hrow:(c<|l.getD k Rh)[j]? = Rk (.v u):=by rw [hk0,hf,W8,hu'];rfl
  have hs':=hr k hk
  dsimp only at hs'
  rw [hf,llm,hs] at hs';subst hs';have h2:=hu k j _ hk hrow;rw [KG (h k j _ hk hrow)] at h2;exact h2
theorem Ai {e:β->α} (hf:∀ x,c x=(f<|e x).map AV.v) (hs:∀ x,(f<|e x).length=s) {l:List (List β)} (h:FRel w fz (eL (cL c) l) v):Eu f s w 0 w.heap.size v (l.map λr=>r.map e):=by
 unfold eL at h
 cases h with
 | sl us hc hm ha hr hu h1 h=>
  refine ⟨(WI l.length).map λi=>us i 0,?_,by simp,λk hk hk' => ?_⟩
  ·refine ⟨_,_,by rw [llm,WR],by simpa using hc,hm,λhn=>?_⟩;rw [llm,WR] at hn;obtain ⟨rfl,hg,hlt⟩:=ha hn;refine ⟨_,_,rfl,WS _,hlt,hlt,λk hk j u hu' => ?_⟩;rw [llm,WR] at hk;rw [WY,List.getElem_range] at hu';have hs':=hr k hk;change 1=_ at hs';subst hs'
   match j with
   | 0=>
    have h2:=hu k 0 _ hk rfl;rw [h2];simpa [PD] using hu'
   | j+1=>simp [PD] at hu'
  rw [llm,WR] at hk;rw [WY,WY,List.getElem_range];have h2:=h k 0 _ hk rfl;have hk0:l.getD k Rh=l[k]:=by simp [List.getD,hk]
  rw [hk0] at h2;exact Dy hf hs h2
theorem IA {e:α->β} (hf:∀ x,c (e x)=(f x).map AV.v) (hs:∀ x,(f x).length=s) (hp:∀ x,∀ u∈f x,plain u=Ri) {l:List α} {hi:Nat} (h:Sl f s w 0 hi v l):FRel w (λg=>g<w.heap.size) (eL c<|l.map e) v:=by
 obtain ⟨A,cap,rfl,hc,hm,h⟩:=h;have key:∀ (g o:Nat),(0<l.length->A=Rk ⟨g,o,Rl⟩/\g<w.heap.size/\∀ (k:Nat) (h:k<l.length) (j:Nat) (u:Value),(f l[k])[j]? = Rk u->w.cell? ⟨g,o+k*s+j,Rl⟩=Rk u)->FRel w (λg=>g<w.heap.size) (eL c<|l.map e) (.slice A l.length cap):=by
  intro g o hh;have hrow:∀ (i j:Nat) (a:AV),i<l.length->(c<|(l.map e).getD i Rh)[j]? = Rk a->∃ u,l[i]?.bind (λx=>(f x)[j]?)=Rk u/\a = .v u/\plain u=Ri/\w.cell? ⟨g,o+i*s+j,Rl⟩=Rk u:=by
   intro i j a hi ha;have h0:(l.map e).getD i Rh=e l[i]:=by simp [List.getD,hi]
   rw [h0,hf,W8] at ha
   cases hq:(f l[i])[j]? with
   | none=>rw [hq] at ha;cases ha
   | some u=>
    rw [hq] at ha;refine ⟨u,by rw [geq hi];exact hq,(osl ha).symm,hp _ u<|List.mem_of_getElem? hq,(hh<|by omega).2.2 i hi j u hq⟩
  have e0:(l.map e).length=l.length:=by simp
  unfold eL;rw [e0];refine FRel.sl (s:=s) (g:=g) (o:=o) (λi j=>(l[i]?.bind λx=>(f x)[j]?).getD<|.bool Rj) hc hm (λhn=>⟨(hh hn).1,(hh hn).2.1,(hh hn).2.1⟩) (λi hi=>?_) (λi j a hi ha=>?_) (λi j a hi ha=>?_) λi j a hi ha=>?_
  ·have h0:(l.map e).getD i Rh=e l[i]:=by simp [List.getD,hi]
   rw [h0,hf,llm,hs]
  ·obtain ⟨u,h1,h2,h3,h4⟩:=hrow i j a hi ha;simp only [h1,W9];exact h4
  ·obtain ⟨u,h1,h2,h3,h4⟩:=hrow i j a hi ha;simp only [h1,W9];exact Bh h3
  obtain ⟨u,h1,h2,h3,h4⟩:=hrow i j a hi ha;subst h2;simp only [h1,W9];exact .v h3
 by_cases h0:0<l.length
 ·obtain ⟨b,o,hA,_,_,hlt,hcell⟩:=h h0;exact key b o λ_=>⟨hA,hlt,hcell⟩
 exact key 0 0 λh1=>absurd h1 h0
theorem Em {P:Program} {g:FuncId} {ars:List AV} {r:AV} (h:ax P g ars r) (vs:Array Value) (hl:vs.size=ars.length) (hr:∀ (i:Nat) (a:AV) (v:Value),ars[i]? = Rk a->vs[i]? = Rk v->FRel w (λg=>g<w.heap.size) a v) (hgl:Gl w (λg=>g<w.heap.size):=by exact gl_none) :
  Calls P g vs w λe w'=>∃ v fz',e = .returned v/\Below w.heap.size w w'/\FRel w' fz' r v:=
 (h.2 w _ vs (λg hg=>hg) hgl hl hr).mono λe w' ⟨v,fz',h1,h2,h3,_⟩=>⟨v,fz',h1,h2,h3⟩
theorem Qg {a:AV} {u:Value} (h:FRel w fz a u):∀ (i:Nat) (a':AV) (v:Value),[a][i]? = Rk a' -> #[u][i]? = Rk v->FRel w fz a' v:=by
 intro i a' v h1 h2
 match i with
 | 0=>
  obtain rfl:=osl h1;obtain rfl:u=v:=by simpa using h2
  exact h
 | i+1=>simp at h1
end
theorem IB {w:World} {v:Value} {hi:Nat} {l:LI} (h:Sl Ih 1 w 0 hi v l):FRel w (λg=>g<w.heap.size) (eL cY l) v:=by
 have := IA (f:=Ih) (s:=1) (c:=cY) (e:=id) (λ_=>rfl) (λ_=>rfl) (λx u hu=>by simp [Ih] at hu;subst hu;rfl) h
 rwa [List.map_id] at this
theorem GF {P:Program} {g:FuncId} {ars:List AV} {w:World} {vs:Array Value} (h:ax P g ars<|Bo Ri) (hl:vs.size=ars.length) (hr:∀ (i:Nat) (a:AV) (v:Value),ars[i]? = Rk a->vs[i]? = Rk v->FRel w (λg=>g<w.heap.size) a v) (hgl:Gl w (λg=>g<w.heap.size):=by exact gl_none) :
  Calls P g vs w λe w'=>e = .returned (.bool Ri)/\Below w.heap.size w w':=
 (Em h vs hl hr hgl).mono λe w' ⟨v,fz',h1,h2,h3⟩=>⟨by rw [h1,KG h3],h2⟩
open Go.Shelf Go.RowKit Go.Lib
def MM:Go.Shelf.Ren:=⟨λ| 156=>103 | 165=>172 | 166=>173 | 169=>174 | 240=>237 | 241=>238 | 276=>273 | 277=>274 | n=>n,λ| 31=>51 | 9=>9 | 3=>3 | 4=>4 | 0=>0 | 20=>20 | 72=>198 | 76=>201 | 70=>196 | 37=>22 | 75=>200 | 127=>242 | 164=>264 | 5=>5 | 80=>203 | n=>n,λ| n=>n⟩
theorem MN:Go.Proofs.Lays.n156 Rn MM where
 mixed:=by kernel_rfl
 f156:=func103.trans<|congrArg Rk (by kernel_rfl)
 f165:=func172.trans<|congrArg Rk (by kernel_rfl)
 f166:=func173.trans<|congrArg Rk (by kernel_rfl)
 f169:=func174.trans<|congrArg Rk (by kernel_rfl)
 f240:=func237.trans<|congrArg Rk (by kernel_rfl)
 f241:=func238.trans<|congrArg Rk (by kernel_rfl)
 f276:=func273.trans<|congrArg Rk (by kernel_rfl)
 f277:=func274.trans<|congrArg Rk (by kernel_rfl)
 t0:=Tryz.underlying0
 a0:=Tryz.isAgg0
 z0:=Tryz.sizeOf0
 v0:=Tryz.zeroValue0
 t3:=Tryz.underlying3
 a3:=Tryz.isAgg3
 z3:=Tryz.sizeOf3
 v3:=Tryz.zeroValue3
 t4:=Tryz.underlying4
 a4:=Tryz.isAgg4
 z4:=Tryz.sizeOf4
 v4:=Tryz.zeroValue4
 t9:=Tryz.underlying9
 a9:=Tryz.isAgg9
 z9:=Tryz.sizeOf9
 v9:=Tryz.zeroValue9
 t20:=Tryz.underlying20
 a20:=Tryz.isAgg20
 z20:=Tryz.sizeOf20
 v20:=Tryz.zeroValue20
 t31:=Tryz.underlying51
 a31:=Tryz.isAgg51
 z31:=Tryz.sizeOf51
 v31:=Tryz.zeroValue51
 t37:=Tryz.underlying22
 a37:=Tryz.isAgg22
 z37:=Tryz.sizeOf22
 v37:=Tryz.zeroValue22
 t70:=Tryz.underlying196
 a70:=Tryz.isAgg196
 z70:=Tryz.sizeOf196
 v70:=Tryz.zeroValue196
 t72:=Tryz.underlying198
 a72:=Tryz.isAgg198
 z72:=Tryz.sizeOf198
 v72:=Tryz.zeroValue198
 t75:=Tryz.underlying200
 a75:=Tryz.isAgg200
 z75:=Tryz.sizeOf200
 v75:=Tryz.zeroValue200
 t76:=Tryz.underlying201
 a76:=Tryz.isAgg201
 z76:=Tryz.sizeOf201
 v76:=Tryz.zeroValue201
 t127:=Tryz.underlying242
 a127:=Tryz.isAgg242
 z127:=Tryz.sizeOf242
 v127:=Tryz.zeroValue242
 t164:=Tryz.underlying264
 a164:=Tryz.isAgg264
 z164:=Tryz.sizeOf264
 v164:=Tryz.zeroValue264
theorem Qx:Builder.Extra Rn MM where
 sizeBuilder:=by kernel_rfl
 liesBuilder:=by kernel_rfl
 t5:=Tryz.underlying5
 a5:=Tryz.isAgg5
 z5:=Tryz.sizeOf5
 v5:=Tryz.zeroValue5
 infoByte:=by kernel_rfl
 cellsByte:=by kernel_rfl
 sizeByte:=by kernel_rfl
 neB5:=by decide
open Go.RowKit Go.Shelf
theorem Az (l:List BA) (sep:BA) {q} (h:nT l sep=Rk q):ax Rn 103 [eL cS l,St sep] (St q):=by
 unfold nT at h;obtain ⟨⟨h1,h2⟩,h⟩:=gdD h;obtain rfl:=osl h;refine ⟨by kernel_rfl,λw fz vs hlt _ hl hrel=>?_⟩;obtain ⟨u,v,rfl⟩:∃ u v,vs = #[u,v]:=by
  obtain ⟨l⟩:=vs
  match l,hl with
  | [u,v],_=>exact ⟨u,v,rfl⟩
 obtain rfl:=KG<|hrel 1 _ v rfl rfl;have hs:=Dy (f:=λs=>[Value.string s]) (s:=1) (c:=cS) (e:=id) (λ_=>rfl) (λ_=>rfl)<|hrel 0 _ u rfl rfl;rw [List.map_id] at hs;obtain ⟨A,cap,rfl,hc,hm,hx⟩:=hs;have key:Calls Rn 103 #[.slice A l.length cap,.string sep] w λe w'=>e = .returned (.string<|Lm l sep)/\Below w.heap.size w w':=by
  by_cases hn:0<l.length
  ·obtain ⟨b,o,rfl,_,_,hlt,hcell⟩:=hx hn;exact Any.strings_Join MN Qx b o cap l sep w (λj x hj=>by
    obtain ⟨hj1,rfl⟩:=ges hj;have := hcell j hj1 0 _ rfl;simpa using this) hlt h1 hc (by simpa [Lm,ByteArray.size] using h2)
  obtain rfl:l=[]:=Xe (by omega);exact (Any.strings_Join_none MN Qx A cap sep w).mono λe w' ⟨he,hw⟩=>⟨he,hw ▸ Below.refl _ _⟩
 refine key.mono λe w' ⟨he,hb⟩ => ?_;exact ⟨_,fz,he,hb,.v Z,λg hg=>hg,λg hg => .inl hg,λg hg=>Xa (hlt g hg) hb.size⟩
theorem MO {vs:Array Value} {a:AV} (hl:vs.size=[a].length):∃ u,vs = #[u]:=by
 obtain ⟨l⟩:=vs
 match l,hl with
 | [u],_=>exact ⟨u,rfl⟩
theorem oH (p:List<|List QV) {q} (h:aT p=Rk q):ax Rn 29 [eL (cL QV.c) p] (Bo q):=by
 unfold aT at h;obtain ⟨⟨h1,h2⟩,h⟩:=gdD h;obtain rfl:=osl h;refine ⟨by kernel_rfl,λw fz vs hlt _ hl hrel=>?_⟩;obtain ⟨u,rfl⟩:=MO hl;have hs:=Ai (f:=Ins.cells) (s:=4) (e:=jl) (λ_=>rfl) (λ_=>rfl)<|hrel 0 _ u rfl rfl;refine (vu hs (Nat.le_refl _)<|by rw [EN];exact h2).mono λe w' ⟨he,hb⟩ => ?_;exact ⟨_,fz,he,hb,.v Z,λg hg=>hg,λg hg => .inl hg,λg hg=>Xa (hlt g hg) hb.size⟩
theorem ko (p:List<|List QV) {q} (h:bf p=Rk q):ax Rn 52 [eL (cL QV.c) p] (Bo q):=by
 unfold bf at h;obtain ⟨⟨h1,h2⟩,h⟩:=gdD h;obtain rfl:=osl h;refine ⟨by kernel_rfl,λw fz vs hlt _ hl hrel=>?_⟩;obtain ⟨u,rfl⟩:=MO hl;have hs:=Ai (f:=Ins.cells) (s:=4) (e:=jl) (λ_=>rfl) (λ_=>rfl)<|hrel 0 _ u rfl rfl;refine (vq hs (Nat.le_refl _)<|by rw [EN];exact h2).mono λe w' ⟨he,hb⟩ => ?_;exact ⟨_,fz,he,hb,.v Z,λg hg=>hg,λg hg => .inl hg,λg hg=>Xa (hlt g hg) hb.size⟩
open Go.RowKit Go.WideShapes Go.ChangeShapes Go.Deep
section
variable {H:Type} {enc:TypeId×Value->H} {P:Program}
theorem En {f:Func} {s:ChangeSpec} {apart fresh handsOn again:Bool} {W W':World} {args:Array Value} {v:Value} {ds gs:List (DataW H)} {before pa pv:List MemPlace}
  (hW:DataW.Whole enc P f.params.toList s.vars apart W args.toList ds gs before)
  (hres:∀ (b:Nat) (sp:Nat->Bool) (hd:Bool),DataW.TrodAll enc P W' b sp hd f.resultTypes.toList (v.resultList f.resultTypes.size) (s.fn H<|ds++gs).results [])
  (hargs:∀ sp:Nat->Bool,(∀ p∈before,sp p.block=Ri)->DataW.TrodAll enc P W' 0 sp Ri f.params.toList args.toList (s.fn H<|ds++gs).args pa)
  (hvars:∀ sp:Nat->Bool,(∀ p∈before,sp p.block=Ri)->DataW.TrodVars enc P W' sp s.vars (s.fn H<|ds++gs).vars pv)
  (hps:before=pa++pv) (hb:Below W.heap.size W W')
  (hok:∀ (j:Nat) (t:TypeId) (r:Value),f.resultTypes[j]? = Rk t->(v.resultList f.resultTypes.size)[j]? = Rk r->Value.okWide P W' .any 0 t r) :
  s.post enc P f apart fresh handsOn again W args v W':=by
 have hlt:∀ p∈before,p.block<W.heap.size:=λp hp=>hW.lt p hp;have hold:∀ p∈before,(λb=>Rm<|b<W.heap.size) p.block=Ri:=λp hp=>by simpa using hlt p hp
 refine ⟨ds,gs,before,[],pa,pv,hW,hres _ _ _,hargs _ hold,hvars _ hold,World.keptBut_mono (λp hp=>⟨hp,?_⟩) (hb.frame (· ∈ before)),λ_=>?_⟩
 ·rw [hps,WO] at hp;exact Or.inr hp
 obtain ⟨_,_,_,_,_,hz,hn⟩:=hW;refine ⟨hok,_,_,([]++pa)++pv,⟨[]++pa,pv,trodAll_append (hargs _ λ_ _=>rfl)<|hres _ _ _,hvars _ λ_ _=>rfl,rfl,?_,?_⟩,?_⟩
 ·intro b off hp;have hin:MemPlace.cell b off∈before:=by rw [hps];simpa using hp
  rw [hb.frozen (hlt _ hin)];exact hz b off hin
 ·intro ha;have := hn ha;rw [hps] at this;simpa using this
 intro p hp _;rw [hps];simpa using hp
theorem yG (hl:laidOutB P=Ri) {W W':World} (hb:Below W.heap.size W W') {sp:Nat->Bool}:∀ (ts:List TypeId) (vs:List Value) (ds:List<|DataW H) (ps:List MemPlace),
  (∀ t∈ts,P.readableRec t=Ri/\t<P.types.size)->DataW.TrodAll enc P W 0 (λ_=>Ri) Ri ts vs ds ps->(∀ x∈ps,x.block<W.heap.size)->(∀ x∈ps,sp x.block=Ri) ->
  DataW.TrodAll enc P W' 0 sp Ri ts vs ds ps
 | [],[],[],_,_,h,_,_=>h
 | t::ts,v::vs,d::ds,ps,hr,⟨p,q,h1,h2,hpq⟩,hlt,hs=>by
  subst hpq;have hp:∀ x∈p,x.block<W.heap.size:=λx hx=>hlt x (Xf _ hx);exact ⟨p,q,WideElems.Trod_stays hl (hr t (by simp)).1 (hr t (by simp)).2 h1 (λx hx=>hb.same (hp x hx)) (λx hx=>hs x (Xf _ hx)),
   yG hl hb ts vs ds q (λt ht=>hr t (W7 _ ht)) h2 (λx hx=>hlt x (Xg _ hx)) (λx hx=>hs x (Xg _ hx)),rfl⟩
 | [],_::_,_,_,_,h,_,_=>(by cases h)
 | [],[],_::_,_,_,h,_,_=>(by cases h)
 | _::_,[],_,_,_,h,_,_=>(by cases h)
 | _::_,_::_,[],_,_,h,_,_=>(by cases h)
variable {w:World} {spare:Nat->Bool} {held:Bool}
theorem Me {α:Type} {f:α->List Value} {s:Nat} {t e:TypeId} (hs:P.cellsOf e=s) (hs0:0<s) (ht:P.underlying t=Rk (.slice e)) {Good:α->Prop}
  (hel:∀ (fuel:Nat) (cs:List Value) (x:DataW H×List MemPlace),DataW.trod enc P w 0 spare held fuel e cs=Rk x->∃ a,cs=f a/\Good a) {fuel:Nat} {cs:List Value} {x:DataW H×List MemPlace}
  (h:DataW.trod enc P w 0 spare held fuel t cs=Rk x):∃ v,cs=[v]/\∃ xs:List α,Sl f s w 0 w.heap.size v xs/\∀ y∈xs,Good y:=by
 rcases open_slice ht h with ⟨rfl,_⟩ | ⟨a,len,cap,m,n,D,Pl,rfl,_,hl,hm,hmm,_,hi⟩
 ·exact ⟨_,rfl,[],Sl.nil_ _ _ (by omega),λy hy=>absurd hy<|by simp⟩
 refine ⟨_,rfl,?_⟩;have hlm:len<=m:=by rw [hmm];split <;> omega
 have key:∀ i,i<len->∃ y:α,Good y/\∀ (j:Nat) (u:Value),(f y)[j]? = Rk u->w.cell? ((a.add<|i*s).add j)=Rk u:=by
  intro i hil;obtain ⟨cs',hc,ht'⟩:=hi i (by omega);obtain ⟨y,rfl,hg⟩:=hel _ _ _ ht';obtain ⟨_,hcl,hat⟩:=World.cells?_some hc;rw [hs] at hat hcl;exact ⟨y,hg,λj u hu=>by
   have hj:j<s:=by
    have := (ges hu).1;omega
   rw [hat j hj];exact hu⟩
 have key2:∀ i,i<len->∃ cs',w.cells? 0 (a.add<|i*s) s=Rk cs':=by
  intro i hil;obtain ⟨cs',hc,_⟩:=hi i (by omega);rw [hs] at hc;exact ⟨cs',hc⟩
 clear hi;simp only [maxLen] at hm
 by_cases hn:0<len
 ·obtain ⟨cs0,hc0⟩:=key2 0 hn;obtain ⟨_,hcl,hat⟩:=World.cells?_some hc0;have h00:=hat 0 hs0;rw [geq (by omega)] at h00;have hspot:=World.cell?_spot h00;obtain ⟨b,o,sp⟩:=a;have hsp:sp=Rl:=by simpa [Addr.add] using hspot
  subst hsp;have hb:b<w.heap.size:=by
   have := World.block_lt_of_cell? w _ h00;simpa [zg] using this
  have hch:∃ F:Nat->α,∀ i,i<len->Good (F i)/\∀ (j:Nat) (u:Value),(f<|F i)[j]? = Rk u->w.cell? (((⟨b,o,Rl⟩:Addr).add<|i*s).add j)=Rk u:=by
   obtain ⟨y0,_⟩:=key 0 hn;refine ⟨λi=>if h:i<len then (key i h).choose else y0,λi hil=>?_⟩;simp only [dif_pos hil];exact (key i hil).choose_spec
  obtain ⟨F,hF⟩:=hch;refine ⟨(WI len).map F,⟨_,cap,by simp,by simpa using hl,by omega,λ_=>⟨b,o,rfl,WS _,hb,hb,λk hk j u hu=>?_⟩⟩,λy hy=>?_⟩
  ·have hk':k<len:=by simpa using hk
   have := (hF k hk').2 j u (by simpa using hu)
   rwa [zg,zg] at this
  rw [List.mem_map] at hy;obtain ⟨i,hi,rfl⟩:=hy;exact (hF i<|by simpa using hi).1
 have h0:len=0:=by omega
 subst h0;exact ⟨[],Sl.nil_ _ _ (by omega),λy hy=>absurd hy<|by simp⟩
theorem Pn {t:TypeId} {k:IntKind} (ht:P.underlying t=Rk (.int k)) (fuel:Nat) (cs:List Value) (x:DataW H×List MemPlace) (h:DataW.trod enc P w 0 spare held fuel t cs=Rk x) :
  ∃ a:Int,cs=[.int k a]/\(Lit.int k a).wf=Ri:=by
 obtain ⟨n,h1,_,h3⟩:=DataW.trod_int ht h;exact ⟨n,h1,h3⟩
end
theorem one_cell {v u:Value} (h:v.cells.toList=[u]) (hv:∃ a len cap,v = .slice a len cap):v=u:=by
 obtain ⟨a,len,cap,rfl⟩:=hv;simpa [Value.cells] using h
open Go.ChangeShapes Go.WideShapes Go.ChangeAt Go.RowKit Go.Sort
theorem Ci {w:World} {blk off g:Nat} {d:Array Int} (h:g≠blk):(putRow (Value.int .i64) w blk off d).heap[g]? = w.heap[g]? := by
 show (w.heap.modify blk _)[g]? = _;rw [Xh,if_neg (Ne.symm h)]
theorem Cj {w:World} {blk off:Nat} {d:Array Int} {cs:Array Value} {t:TypeId} {fr:Nat×Nat} (h:w.heap[blk]? = Rk (.cells cs t fr)):(putRow (Value.int .i64) w blk off d).heap[blk]? = Rk (.cells (putCells (Value.int .i64) off d cs) t fr):=by
 show (w.heap.modify blk _)[blk]? = _;rw [Xh,if_pos rfl,h]
 rfl
theorem sI {off:Nat} {d:Array Int} {cs:Array Value}:(putCells (Value.int .i64) off d cs).size=cs.size:=by simp [putCells]
theorem Eo {off:Nat} {d:Array Int} {cs:Array Value} {k:Nat} (h:off+d.size<=cs.size) (hk:k<d.size):(putCells (Value.int .i64) off d cs)[off+k]? = Rk (.int .i64 d[k]!):=by
 unfold putCells;rw [Array.getElem?_mapIdx,Array.getElem?_eq_getElem (by omega)];simp only [Option.map_some];rw [if_pos (by omega),show off+k-off=k by omega]
theorem Mf {c:Cx} (hr:HRel c) {l q:LI} {ver uF:Nat} (hH:c.H=[Rk ⟨ver,1,3,l.map cI⟩]) {cs:Array Value} {fr0:Nat×Nat} (hB:BRel c 0 ⟨ver,1,3,l.map cI⟩ cs<|Rk fr0) {d':Array Int} (hd:d'.size=l.length) (hq:q.length<=d'.size)
  (hqe:∀ i (h:i<q.length),d'[i]! = q[i]) {m:Nat} {os:Array Obj} (hv:(uF=ver/\q.length=l.length)\/ver<uF) :
  ∃ c',c'.w=grow (putRow (Value.int .i64) (Sort.ahead c.w m) (c.φ 0).1 (c.φ 0).2 d') os/\c'.H=[Rk ⟨uF,1,3,q.map cI⟩]/\HRel c'/\Ext c c'/\c'.φ 0=c.φ 0/\c'.w.heap[(c.φ 0).1]? = Rk (.cells (putCells (Value.int .i64) (c.φ 0).2 d' cs) 3 fr0):=by
 have hlv:c.live 0 ⟨ver,1,3,l.map cI⟩:=by
  unfold Cx.live;rw [hH]
  rfl
 have hat:c.w.heap[(c.φ 0).1]? = Rk (.cells cs 3 fr0):=hB.at_;have hblk:(c.φ 0).1<c.w.heap.size:=hr.live_lt hlv;have hfit:(c.φ 0).2+l.length<=cs.size:=by
  have := hB.fits;simpa using this
 have he1:Ext c (c.upd 0 ⟨uF,1,3,q.map cI⟩ ((c.φ 0).1,(c.φ 0).2) (putCells (Value.int .i64) (c.φ 0).2 d' cs)):=Cx.upd_ext hr hlv hB sI (by
  rcases hv with ⟨h1,h2⟩ | h
  ·exact .inl ⟨h1,rfl,by simp [h2],rfl⟩
  exact .inr h)
 have hr1:=Cx.upd_rel hr hlv hB (k:=⟨uF,1,3,q.map cI⟩) (o:=(c.φ 0).2) (cs:=putCells (Value.int .i64) (c.φ 0).2 d' cs) sI rfl he1 Nat.one_pos (by rw [sI];simp;omega) (λi row h=>by
  obtain ⟨x,_,rfl⟩:=by simpa [W8,Option.map_eq_some_iff] using h
  rfl) (λi row j a h1 h2=>by
  have hi:i<q.length:=by simpa using (ges h1).1
  have hrw:row=cI q[i]:=by
   have := (ges h1).2;rw [<- this];simp
  subst hrw
  match j,h2 with
  | 0,h2=>
   obtain rfl:=osl h2;refine ⟨.int .i64 d'[i]!,?_,rfl,?_⟩
   ·have := Eo (off:=(c.φ 0).2) (d:=d') (cs:=cs) (k:=i) (by omega) (by omega);simpa using this
   rw [hqe i hi];exact .fr<|.v rfl
  | j+1,h2=>simp [cI] at h2)
 have hbl:Below (c.upd 0 ⟨uF,1,3,q.map cI⟩ ((c.φ 0).1,(c.φ 0).2)<|putCells (Value.int .i64) (c.φ 0).2 d' cs).w.heap.size (c.upd 0 ⟨uF,1,3,q.map cI⟩ ((c.φ 0).1,(c.φ 0).2)<|putCells (Value.int .i64) (c.φ 0).2 d' cs).w (grow (putRow (Value.int .i64) (Sort.ahead c.w m) (c.φ 0).1 (c.φ 0).2 d') os):=by
  have hz:(c.upd 0 ⟨uF,1,3,q.map cI⟩ ((c.φ 0).1,(c.φ 0).2)<|putCells (Value.int .i64) (c.φ 0).2 d' cs).w.heap.size=c.w.heap.size:=by simp [Cx.upd]
  have hs:(putRow (Value.int .i64) (Sort.ahead c.w m) (c.φ 0).1 (c.φ 0).2 d').heap.size=c.w.heap.size:=by rw [size_putRow];rfl
  refine ⟨rfl,rfl,rfl,?_,λg hg=>?_⟩
  ·rw [hz];show _<=((putRow (Value.int .i64) (Sort.ahead c.w m) (c.φ 0).1 (c.φ 0).2 d').heap++os).size;rw [Array.size_append,hs];omega
  rw [hz] at hg;show ((putRow (Value.int .i64) (Sort.ahead c.w m) (c.φ 0).1 (c.φ 0).2 d').heap++os)[g]? = (c.w.setRow (c.φ 0).1<|putCells (Value.int .i64) (c.φ 0).2 d' cs).heap[g]?;rw [Array.getElem?_append_left (by rw [hs];exact hg)]
  by_cases e:g=(c.φ 0).1
  ·subst e;rw [Cj (w:=Sort.ahead c.w m) hat,setRow_heap _ _ _ _ _ _ hat]
  rw [Ci e,setRow_other _ _ _ _ e]
  rfl
 obtain ⟨g1,g2⟩:=xZ hr1 hbl (fz':=λ_=>False) (λ_ h=>h.elim) (λ_ h=>h.elim) λ_ _ _ h=>h;refine ⟨_,rfl,?_,g1,he1.trans g2,?_,?_⟩
 ·show c.H.set 0 _=_;rw [hH]
  rfl
 ·rfl
 have hz:(c.upd 0 ⟨uF,1,3,q.map cI⟩ ((c.φ 0).1,(c.φ 0).2)<|putCells (Value.int .i64) (c.φ 0).2 d' cs).w.heap.size=c.w.heap.size:=by simp [Cx.upd]
 have := hbl.block (c.φ 0).1 (by rw [hz];exact hblk);refine this.trans ?_;show (c.w.setRow (c.φ 0).1<|putCells (Value.int .i64) (c.φ 0).2 d' cs).heap[_]? = _;exact setRow_heap _ _ _ _ _ _ hat
theorem Mg {c:Cx} (hr:HRel c) {l:LI} {ver:Nat} (hH:c.H=[Rk ⟨ver,1,3,l.map cI⟩]) {u:Value} (hu:c.rel (.hs 0 ver 1 0 l.length) u) (hn:0<l.length) :
  ∃ cs fr0 cap,BRel c 0 ⟨ver,1,3,l.map cI⟩ cs (Rk fr0)/\u = .slice (Rk ⟨(c.φ 0).1,(c.φ 0).2,Rl⟩) l.length cap/\l.length<=cap/\cap<=9223372036854775807/\(c.φ 0).2+cap<=cs.size/\Holds (Value.int .i64) c.w (c.φ 0).1 (c.φ 0).2 l.toArray/\(c.φ 0).1<c.w.heap.size:=by
 have hlv:c.live 0 ⟨ver,1,3,l.map cI⟩:=by
  unfold Cx.live;rw [hH]
  rfl
 obtain ⟨cs,fr0,hB⟩:=hr.blk 0 _ hlv
 cases hu with
 | fr h=>cases h
 | @hs _ _ _ _ _ cap A hb hc hm h0 h=>
 obtain ⟨f,rfl,hat,hhd⟩:=hB.cells hlv λx hx=>(h x hx).1;obtain ⟨_,_,h3,h4⟩:=h _ hhd;have hA:=h3 (by omega);simp only [Nat.zero_mul,Nat.add_zero,Nat.mul_one] at hA h4;refine ⟨cs,f,cap,hB,by rw [hA],hc,hm,h4,λj hj=>?_,hr.live_lt hlv⟩;have hj:j<l.length:=by simpa using hj
 have hj2:(c.φ 0).2+j<cs.size:=by omega
 obtain ⟨u,g1,g2,g3⟩:=hB.rel j (cI l[j]) 0 (I l[j]) (by simp [hj]) rfl;refine ⟨?_,?_⟩
 ·simp only [World.cell?,hat];have := ik g3;simp only [Nat.mul_one,Nat.add_zero] at g1;rw [g1];obtain ⟨rfl,_⟩:=this;simp [hj]
 have := hB.fre f rfl _ hj2;obtain ⟨lo,hi'⟩:=f;simp only [World.frozen?,hat,Bool.and_eq_false_iff,decide_eq_false_iff_not];simp only at this;omega
open Go.Shelf Go.RowKit Go.Lib Go.Sort

open Go.ChangeShapes Go.WideShapes Go.ChangeAt Go.RowKit Go.Shelf Go.Sort

def Po:Go.Shelf.Ren:=⟨λ| 5=>34 | 8=>84 | 7=>83 | 19=>144 | 20=>145 | 10=>135 | 11=>136 | 12=>137 | 13=>138 | 14=>139 | 15=>140 | 16=>141 | 17=>142 | 18=>143 | 30=>200 | 31=>201 | 32=>202 | 33=>203 | 34=>204 | 35=>205 | 40=>250 | n=>n,λ| 23=>24 | 25=>3 | 3=>3 | 32=>108 | 22=>24 | 0=>0 | 44=>168 | 46=>170 | 4=>4 | 36=>163 | 35=>162 | 41=>37 | 5=>5 | 9=>9 | 53=>216 | 57=>220 | 63=>247 | 64=>248 | n=>n,λ| n=>n⟩
theorem MP:Go.Proofs.SlLaysM.n5 Rn Po where
 mixed:=by kernel_rfl
 f5 := ⟨"slices.Sort[[]int,int]",by decide,Tryz.func34.trans (congrArg some (by kernel_rfl))⟩
 f7 := ⟨"slices.pdqsortOrdered[int]",by decide,Tryz.func83.trans (congrArg some (by kernel_rfl))⟩
 f8:=func84.trans<|congrArg Rk (by kernel_rfl)
 f10 := ⟨"slices.insertionSortOrdered[int]",by decide,Tryz.func135.trans (congrArg some (by kernel_rfl))⟩
 f11 := ⟨"slices.heapSortOrdered[int]",by decide,Tryz.func136.trans (congrArg some (by kernel_rfl))⟩
 f12 := ⟨"slices.breakPatternsOrdered[int]",by decide,Tryz.func137.trans (congrArg some (by kernel_rfl))⟩
 f13 := ⟨"slices.choosePivotOrdered[int]",by decide,Tryz.func138.trans (congrArg some (by kernel_rfl))⟩
 f14 := ⟨"slices.reverseRangeOrdered[int]",by decide,Tryz.func139.trans (congrArg some (by kernel_rfl))⟩
 f15 := ⟨"slices.partialInsertionSortOrdered[int]",by decide,Tryz.func140.trans (congrArg some (by kernel_rfl))⟩
 f16 := ⟨"cmp.Less[int]",by decide,Tryz.func141.trans (congrArg some (by kernel_rfl))⟩
 f17 := ⟨"slices.partitionEqualOrdered[int]",by decide,Tryz.func142.trans (congrArg some (by kernel_rfl))⟩
 f18 := ⟨"slices.partitionOrdered[int]",by decide,Tryz.func143.trans (congrArg some (by kernel_rfl))⟩
 f19:=func144.trans<|congrArg Rk (by kernel_rfl)
 f20:=func145.trans<|congrArg Rk (by kernel_rfl)
 f30 := ⟨"slices.siftDownOrdered[int]",by decide,Tryz.func200.trans (congrArg some (by kernel_rfl))⟩
 f31:=func201.trans<|congrArg Rk (by kernel_rfl)
 f32:=func202.trans<|congrArg Rk (by kernel_rfl)
 f33 := ⟨"slices.medianAdjacentOrdered[int]",by decide,Tryz.func203.trans (congrArg some (by kernel_rfl))⟩
 f34 := ⟨"slices.medianOrdered[int]",by decide,Tryz.func204.trans (congrArg some (by kernel_rfl))⟩
 f35 := ⟨"cmp.isNaN[int]",by decide,Tryz.func205.trans (congrArg some (by kernel_rfl))⟩
 f40 := ⟨"slices.order2Ordered[int]",by decide,Tryz.func250.trans (congrArg some (by kernel_rfl))⟩
 t0:=Tryz.underlying0
 a0:=Tryz.isAgg0
 z0:=Tryz.sizeOf0
 v0:=Tryz.zeroValue0
 t3:=Tryz.underlying3
 a3:=Tryz.isAgg3
 z3:=Tryz.sizeOf3
 v3:=Tryz.zeroValue3
 t4:=Tryz.underlying4
 a4:=Tryz.isAgg4
 z4:=Tryz.sizeOf4
 v4:=Tryz.zeroValue4
 t5:=Tryz.underlying5
 a5:=Tryz.isAgg5
 z5:=Tryz.sizeOf5
 v5:=Tryz.zeroValue5
 t9:=Tryz.underlying9
 a9:=Tryz.isAgg9
 z9:=Tryz.sizeOf9
 v9:=Tryz.zeroValue9
 t22:=Tryz.underlying24
 a22:=Tryz.isAgg24
 z22:=Tryz.sizeOf24
 v22:=Tryz.zeroValue24
 t23:=Tryz.underlying24
 a23:=Tryz.isAgg24
 z23:=Tryz.sizeOf24
 v23:=Tryz.zeroValue24
 t25:=Tryz.underlying3
 a25:=Tryz.isAgg3
 z25:=Tryz.sizeOf3
 v25:=Tryz.zeroValue3
 t32:=Tryz.underlying108
 a32:=Tryz.isAgg108
 z32:=Tryz.sizeOf108
 v32:=Tryz.zeroValue108
 t35:=Tryz.underlying162
 a35:=Tryz.isAgg162
 z35:=Tryz.sizeOf162
 v35:=Tryz.zeroValue162
 t36:=Tryz.underlying163
 a36:=Tryz.isAgg163
 z36:=Tryz.sizeOf163
 v36:=Tryz.zeroValue163
 t41:=Tryz.underlying37
 a41:=Tryz.isAgg37
 z41:=Tryz.sizeOf37
 v41:=Tryz.zeroValue37
 t44:=Tryz.underlying168
 a44:=Tryz.isAgg168
 z44:=Tryz.sizeOf168
 v44:=Tryz.zeroValue168
 t46:=Tryz.underlying170
 a46:=Tryz.isAgg170
 z46:=Tryz.sizeOf170
 v46:=Tryz.zeroValue170
 t53:=Tryz.underlying216
 a53:=Tryz.isAgg216
 z53:=Tryz.sizeOf216
 v53:=Tryz.zeroValue216
 t57:=Tryz.underlying220
 a57:=Tryz.isAgg220
 z57:=Tryz.sizeOf220
 v57:=Tryz.zeroValue220
 t63:=Tryz.underlying247
 a63:=Tryz.isAgg247
 z63:=Tryz.sizeOf247
 v63:=Tryz.zeroValue247
 t64:=Tryz.underlying248
 a64:=Tryz.isAgg248
 z64:=Tryz.sizeOf248
 v64:=Tryz.zeroValue248
theorem Cm (l:LI) (g:Bool) (ver:Nat) (hg:g=Ri->l=[]) {q} (h:qb l=Rk q) :
  dS Rn 34 [hS g 0 ver 1 l.length] [bE g ver 1 3 (l.map cI)] (.tup []) [bE g ver 1 3 (q.map cI)]:=by
 obtain ⟨hl,h⟩:=gdD h;obtain rfl:=osl h;refine ⟨by kernel_rfl,λc vs hH hr hall=>?_⟩;obtain ⟨hsz,hrel⟩:=hall;obtain ⟨u,rfl⟩:∃ u,vs = #[u]:=by
  match vs,hsz with
  | ⟨[u]⟩,_=>exact ⟨u,rfl⟩
 have hu:=hrel 0 _ u rfl rfl
 by_cases hn:0<l.length
 ·obtain rfl:g=Rj:=by
   cases g with
   | false=>rfl
   | true=>
    rw [hg rfl] at hn;exact absurd hn (by simp)
  have hH:c.H=[Rk ⟨ver,1,3,l.map cI⟩]:=hH;obtain ⟨cs,fr0,cap,hB,rfl,hc,hm,hcs,hHo,hblk⟩:=Mg hr hH hu hn;have hcon:=AnyM.slices_Sort_int MP (c.φ 0).1 (c.φ 0).2 cap l c.w hHo hblk hl;refine (show Calls Rn 34 _ _ _ from hcon).mono ?_;rintro e w' ⟨rfl,m,os,rfl⟩;have hll:(Lp l).length=l.length:=(qI l).length_eq;obtain ⟨c',w1,w2,w3,w4,w5,w6⟩:=Mf hr hH hB (q:=Lp l) (uF:=ver) (d':=(Lp l).toArray) (by simpa using hll) (by simp) (λk hk=>by
   rw [getElem!_pos _ k (by simpa using hk)];simp) (m:=m) (os:=os) (.inl ⟨rfl,hll⟩)
  exact ⟨_,c',Z,w1,w2,w3,w4,.tup Z λi x y hx=>by simp at hx⟩
 obtain rfl:l=[]:=Xe (by omega);obtain ⟨A,cap,rfl⟩:∃ A cap,u = .slice A 0 cap:=by
  cases g with
  | true=>
   cases hu with
   | fr h=>cases h;exact ⟨_,_,rfl⟩
  | false=>
   obtain ⟨A,cap,h6,_⟩:=qE hu;exact ⟨A,cap,h6⟩
 refine (show Calls Rn 34 _ _ _ from AnyM.slices_Sort_int_none MP A cap c.w).mono ?_;rintro e w' ⟨rfl,rfl⟩;refine ⟨_,c,Z,Z,?_,hr,Ext.refl c,.tup Z λi x y hx=>by simp at hx⟩;rw [hH,(qI []).eq_nil]
end
end Go.Proofs.YtabfkkjdfhbngaaGreatDoor
