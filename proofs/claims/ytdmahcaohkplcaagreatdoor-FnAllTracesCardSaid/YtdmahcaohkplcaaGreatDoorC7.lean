/- Texts joined. No conditions. -/
import Derived.Test.YtdmahcaohkplcaaGreatDoorC6
namespace Go.Proofs.YtdmahcaohkplcaaGreatDoor
noncomputable section
open _root_.Inhabited renaming default -> Uo
open _root_.Bool renaming true -> Uq
open _root_.Bool renaming false -> Ur
open _root_.Option renaming some -> Us
open _root_.Option renaming none -> Ut
open _root_.Decidable renaming decide -> Uu
open _root_.Option renaming bind -> Xq
open _root_.Nat renaming le_refl -> Xr, not_succ_le_zero -> Xz, le_of_succ_le_succ -> XA, lt_irrefl -> XI
open _root_.Int renaming le_refl -> Xt, toNat_of_nonneg -> XG
open _root_.List renaming length_set -> Xu, getElem_mem -> Xv, mem_append -> Xw, append_assoc -> Xx, replicate -> Xy, take_add_one -> XB, length_take -> XC, append_nil -> XD, mem_map -> XE, mem_singleton -> XF, take_append_getElem -> XH, getElem_of_mem -> XJ, take_of_length_le -> XK, length_singleton -> XM
open _root_.List.IsPrefix renaming trans -> XL
open Go.RowKit
set_option maxRecDepth 100000
def qX (name:BA):Option BA:=
 bif Uu (name=(⟨#[115,101,113]⟩:BA)) then
  Us (⟨#[97,99,121,99,108,105,99,32,112,111,124,114,102,124,99,111,124,102,114]⟩:BA)
 else
  bif Uu (name=(⟨#[116,115,111]⟩:BA)) then
   Us (⟨#[97,99,121,99,108,105,99,32,112,111,38,108,111,99,124,114,102,124,99,111,124,102,114,47,97,99,121,99,108,105,99,32,112,111,45,119,114,124,102,101,110,99,101,124,114,102,38,101,120,116,124,99,111,124,102,114,47,105,114,114,101,102,32,102,114,59,99,111]⟩:BA)
  else
   bif Uu (name=(⟨#[112,115,111]⟩:BA)) then
    Us (⟨#[97,99,121,99,108,105,99,32,112,111,38,108,111,99,124,114,102,124,99,111,124,102,114,47,97,99,121,99,108,105,99,32,112,111,45,40,119,114,124,119,119,41,124,102,101,110,99,101,124,114,102,38,101,120,116,124,99,111,124,102,114,47,105,114,114,101,102,32,102,114,59,99,111]⟩:BA)
   else
    bif Uu (name=(⟨#[114,97]⟩:BA)) then
     Us (⟨#[97,99,121,99,108,105,99,32,112,111,124,114,102,47,97,99,121,99,108,105,99,32,43,40,112,111,124,114,102,41,38,108,111,99,124,99,111,124,102,114,47,105,114,114,101,102,32,102,114,59,99,111]⟩:BA)
    else
     bif Uu (name=(⟨#[108,111,99]⟩:BA)) then
      Us (⟨#[97,99,121,99,108,105,99,32,112,111,38,108,111,99,124,114,102,124,99,111,124,102,114]⟩:BA)
     else
      Us (⟨#[]⟩:BA)
theorem zG (name:BA):Le (qX name) (mh name):=by
 unfold qX mh
 solve_by_elim (maxDepth:=9999) only [*,Le.gd,Le.bif,Le.bind,Le.sumK,Le.loop,Le.nilK,Le.ifc,Le.refl]
def dA (s:BA) (c:Int):Option Int:=
 Us (SD s c)
theorem mS (s:BA) (c:Int):Le (dA s c) (bR s c):=by
 unfold dA bR
 solve_by_elim (maxDepth:=9999) only [*,Le.gd,Le.bif,Le.bind,Le.sumK,Le.loop,Le.nilK,Le.ifc,Le.refl]
def cH (s:BA) (substr:BA):Option Int:=
 Xq (bif ((substr.size:Int)==(0:Int)) then
  Us Uq
 else
  Us (Uu<|substr=s)
 ) λs1=>
 bif s1 then
  Us (0:Int)
 else
  bif ((substr.size:Int)==(1:Int)) then
   gd (Uu<|0<=(0:Int)/\(0:Int)<(substr.size:Int)) <|
   Xq (dA s ((substr.data.getD (0:Int).toNat 0).toNat:Int)) λv6=>
   Us v6
  else
   bif Uu ((s.size:Int)<=(substr.size:Int)) then
    Us (-1:Int)
   else
    Ut
theorem iM (s:BA) (substr:BA):Le (cH s substr) (bM s substr):=by
 unfold cH bM
 solve_by_elim (maxDepth:=9999) only [*,mS,Le.gd,Le.bif,Le.bind,Le.sumK,Le.loop,Le.nilK,Le.ifc,Le.refl]
def om (s:BA) (substr:BA):Option Int:=
 Xq (cH s substr) λv1=>
 Us v1
theorem uF (s:BA) (substr:BA):Le (om s substr) (kL s substr):=by
 unfold om kL
 solve_by_elim (maxDepth:=9999) only [*,iM,Le.gd,Le.bif,Le.bind,Le.sumK,Le.loop,Le.nilK,Le.ifc,Le.refl]
def oq (substr:BA):(Int×BA)->Option ((Int×BA) ⊕ Int):=λs6=>
 Xq (om s6.2 substr) λv8=>
 bif (v8==(-1:Int)) then
  Us (.inr s6.1)
 else
  gd (TT .i64<|s6.1+(1:Int)) <|
  gd (TT .i64<|v8+(substr.size:Int)) <|
  gd (Uu<|0<=(v8+(substr.size:Int))/\(v8+(substr.size:Int))<=(s6.2.size:Int)/\(s6.2.size:Int)<=(s6.2.size:Int)) <|
  Us (.inl ((s6.1+(1:Int)),(s6.2.extract (v8+(substr.size:Int)).toNat (s6.2.size:Int).toNat)))
theorem yc (substr:BA) (sQ:_):Le (oq substr sQ) (nU substr sQ):=by
 unfold oq nU
 solve_by_elim (maxDepth:=9999) only [*,uF,Le.gd,Le.bif,Le.bind,Le.sumK,Le.loop,Le.nilK,Le.ifc,Le.refl]
def tv (s:BA) (substr:BA):Option Int:=
 bif ((substr.size:Int)==(0:Int)) then
  Ut
 else
  bif ((substr.size:Int)==(1:Int)) then
   gd (Uu<|0<=(0:Int)/\(0:Int)<(substr.size:Int)) <|
   Us (SC s ((substr.data.getD (0:Int).toNat 0).toNat:Int))
  else
   qF 60 (oq substr) ((0:Int),s)
theorem AA (s:BA) (substr:BA):Le (tv s substr) (nV s substr):=by
 unfold tv nV
 solve_by_elim (maxDepth:=9999) only [*,yc,Le.gd,Le.bif,Le.bind,Le.sumK,Le.loop,Le.nilK,Le.ifc,Le.refl]
def j3 (s:BA) (sep:BA) (sepSave:Int) (s3:Int):((List BA)×Int×BA)->Option (((List BA)×Int×BA) ⊕ ((List BA)×Int×BA)):=λs14=>
 bif Uu (s14.2.1<((if ((s.size:Int)+(1:Int))<s3 then ((s.size:Int)+(1:Int)) else s3)-(1:Int))) then
  Xq (om s14.2.2 sep) λv18=>
  bif Uu (v18<(0:Int)) then
   Us (.inr (s14.1,s14.2.1,s14.2.2))
  else
   gd (TT .i64<|v18+sepSave) <|
   gd (Uu<|0<=(0:Int)/\(0:Int)<=(v18+sepSave)/\(v18+sepSave)<=(s14.2.2.size:Int)) <|
   gd (Uu<|0<=s14.2.1/\s14.2.1<(s14.1.length:Int)) <|
   gd (TT .i64<|v18+(sep.size:Int)) <|
   gd (Uu<|0<=(v18+(sep.size:Int))/\(v18+(sep.size:Int))<=(s14.2.2.size:Int)/\(s14.2.2.size:Int)<=(s14.2.2.size:Int)) <|
   gd (TT .i64<|s14.2.1+(1:Int)) <|
   Us (.inl ((s14.1.set s14.2.1.toNat<|s14.2.2.extract (0:Int).toNat (v18+sepSave).toNat),(s14.2.1+(1:Int)),(s14.2.2.extract (v18+(sep.size:Int)).toNat (s14.2.2.size:Int).toNat)))
 else
  Us (.inr (s14.1,s14.2.1,s14.2.2))
theorem uV (s:BA) (sep:BA) (sepSave:Int) (s3:Int) (sQ:_):Le (j3 s sep sepSave s3 sQ) (jY s sep sepSave s3 sQ):=by
 unfold j3 jY
 solve_by_elim (maxDepth:=9999) only [*,uF,Le.gd,Le.bif,Le.bind,Le.sumK,Le.loop,Le.nilK,Le.ifc,Le.refl]
def ou (s:BA) (sep:BA) (sepSave:Int) (n:Int):Option (List BA):=
 bif (n==(0:Int)) then
  Us ([]:List BA)
 else
  bif Uu (sep=(⟨#[]⟩:BA)) then
   Ut
  else
   Xq (
    bif Uu (n<(0:Int)) then
     Xq (tv s sep) λv5=>
     gd (TT .i64<|v5+(1:Int)) <|
     Us (v5+(1:Int))
    else
     Us n
   ) λs3=>
   gd (TT .i64<|(s.size:Int)+(1:Int)) <|
   gd (Uu<|0<=(if ((s.size:Int)+(1:Int))<s3 then ((s.size:Int)+(1:Int)) else s3)/\(if ((s.size:Int)+(1:Int))<s3 then ((s.size:Int)+(1:Int)) else s3)<=(if ((s.size:Int)+(1:Int))<s3 then ((s.size:Int)+(1:Int)) else s3)/\(if ((s.size:Int)+(1:Int))<s3 then ((s.size:Int)+(1:Int)) else s3)*((16:Nat):Int)<=140737488355328/\(if ((s.size:Int)+(1:Int))<s3 then ((s.size:Int)+(1:Int)) else s3)<=140737488355328) <|
   gd (TT .i64<|(if ((s.size:Int)+(1:Int))<s3 then ((s.size:Int)+(1:Int)) else s3)-(1:Int)) <|
   Xq (
    qF 60 (j3 s sep sepSave s3) ((Xy (if ((s.size:Int)+(1:Int))<s3 then ((s.size:Int)+(1:Int)) else s3).toNat (Uo:BA)),(0:Int),s)
   ) λs10=>
   gd (Uu<|0<=s10.2.1/\s10.2.1<(s10.1.length:Int)) <|
   gd (TT .i64<|s10.2.1+(1:Int)) <|
   gd (Uu<|0<=(0:Int)/\(0:Int)<=(s10.2.1+(1:Int))/\(s10.2.1+(1:Int))<=((s10.1.set s10.2.1.toNat s10.2.2).length:Int)) <|
   Us (((s10.1.set s10.2.1.toNat s10.2.2).drop (0:Int).toNat).take<|(s10.2.1+(1:Int)).toNat-(0:Int).toNat)
theorem yd (s:BA) (sep:BA) (sepSave:Int) (n:Int):Le (ou s sep sepSave n) (kx s sep sepSave n):=by
 unfold ou kx
 solve_by_elim (maxDepth:=9999) only [*,AA,uV,Le.gd,Le.bif,Le.bind,Le.sumK,Le.loop,Le.nilK,Le.ifc,Le.refl]
def tz (s:BA) (sep:BA):Option (List BA):=
 Xq (ou s sep (0:Int) (-1:Int)) λv1=>
 Us v1
theorem AB (s:BA) (sep:BA):Le (tz s sep) (nW s sep):=by
 unfold tz nW
 solve_by_elim (maxDepth:=9999) only [*,yd,Le.gd,Le.bif,Le.bind,Le.sumK,Le.loop,Le.nilK,Le.ifc,Le.refl]
def fQ (s:BA) (sep:BA):Option (ByteArray×ByteArray×Bool):=
 Xq (cH s sep) λv1=>
 bif Uu ((0:Int)<=v1) then
  gd (Uu<|0<=(0:Int)/\(0:Int)<=v1/\v1<=(s.size:Int)) <|
  gd (TT .i64<|v1+(sep.size:Int)) <|
  gd (Uu<|0<=(v1+(sep.size:Int))/\(v1+(sep.size:Int))<=(s.size:Int)/\(s.size:Int)<=(s.size:Int)) <|
  Us ((s.extract (0:Int).toNat v1.toNat),(s.extract (v1+(sep.size:Int)).toNat (s.size:Int).toNat),Uq)
 else
  Us (s,(⟨#[]⟩:BA),Ur)
theorem qY (s:BA) (sep:BA):Le (fQ s sep) (dC s sep):=by
 unfold fQ dC
 solve_by_elim (maxDepth:=9999) only [*,iM,Le.gd,Le.bif,Le.bind,Le.sumK,Le.loop,Le.nilK,Le.ifc,Le.refl]
def wG (s:BA) (sep:BA):Option (ByteArray×ByteArray×Bool):=
 Xq (fQ s sep) λv1=>
 Us (v1.1,v1.2.1,v1.2.2)
theorem CP (s:BA) (sep:BA):Le (wG s sep) (rS s sep):=by
 unfold wG rS
 solve_by_elim (maxDepth:=9999) only [*,qY,Le.gd,Le.bif,Le.bind,Le.sumK,Le.loop,Le.nilK,Le.ifc,Le.refl]
def dK (s:List BA) (v:BA):Int->Option (Int ⊕ (Unit ⊕ Int)):=λs4=>
 bif Uu (s4<(s.length:Int)) then
  gd (Uu<|0<=s4/\s4<(s.length:Int)) <|
  bif Uu (v=(s.getD s4.toNat Uo)) then
   Us (.inr<|.inr s4)
  else
   gd (TT .i64<|s4+(1:Int)) <|
   Us (.inl<|s4+(1:Int))
 else
  Us (.inr<|.inl ())
theorem ni (s:List BA) (v:BA) (sQ:_):Le (dK s v sQ) (dI s v sQ):=by
 unfold dK dI J
 solve_by_elim (maxDepth:=9999) only [*,Le.gd,Le.bif,Le.bind,Le.sumK,Le.loop,Le.nilK,Le.ifc,Le.refl]
def cJ (s:List BA) (v:BA):Option Int:=
 sumK (
  qF 60 (dK s v) (0:Int)
 ) λs1=>
 Us (-1:Int)
theorem iN (s:List BA) (v:BA):Le (cJ s v) (bN s v):=by
 unfold cJ bN
 solve_by_elim (maxDepth:=9999) only [*,ni,Le.gd,Le.bif,Le.bind,Le.sumK,Le.loop,Le.nilK,Le.ifc,Le.refl]
def bV (r_:aa) (c:Int):Option (aa×Bool):=
 Xq (bif r_.failed then
  Us Uq
 else
  Us (Uu<|r_.rest=(⟨#[]⟩:BA))
 ) λs1=>
 Xq (bif s1 then
  Us Uq
 else
  gd (Uu<|0<=(0:Int)/\(0:Int)<(r_.rest.size:Int)) <|
  Us (((r_.rest.data.getD (0:Int).toNat 0).toNat:Int) != c)
 ) λs3=>
 bif s3 then
  Us ((⟨r_.rest,r_.failed⟩:aa),Ur)
 else
  gd (Uu<|0<=(1:Int)/\(1:Int)<=(r_.rest.size:Int)/\(r_.rest.size:Int)<=(r_.rest.size:Int)) <|
  Us ((⟨(r_.rest.extract (1:Int).toNat (r_.rest.size:Int).toNat),r_.failed⟩:aa),Uq)
theorem m7 (r_:aa) (c:Int):Le (bV r_ c) (bB r_ c):=by
 unfold bV bB
 solve_by_elim (maxDepth:=9999) only [*,Le.gd,Le.bif,Le.bind,Le.sumK,Le.loop,Le.nilK,Le.ifc,Le.refl]
def iO (r_:aa):Int->Option (Int ⊕ Int):=λs4=>
 Xq (bif Uu (s4<(r_.rest.size:Int)) then
  gd (Uu<|0<=s4/\s4<(r_.rest.size:Int)) <|
  Us (Uu<|(97:Int)<=((r_.rest.data.getD s4.toNat 0).toNat:Int))
 else
  Us Ur
 ) λs6=>
 Xq (bif s6 then
  gd (Uu<|0<=s4/\s4<(r_.rest.size:Int)) <|
  Us (Uu<|((r_.rest.data.getD s4.toNat 0).toNat:Int)<=(122:Int))
 else
  Us Ur
 ) λs9=>
 bif s9 then
  gd (TT .i64<|s4+(1:Int)) <|
  Us (.inl<|s4+(1:Int))
 else
  Us (.inr s4)
theorem tC (r_:aa) (sQ:_):Le (iO r_ sQ) (iH r_ sQ):=by
 unfold iO iH
 solve_by_elim (maxDepth:=9999) only [*,Le.gd,Le.bif,Le.bind,Le.sumK,Le.loop,Le.nilK,Le.ifc,Le.refl]
def kO (r_:aa):Option (aa×BA):=
 Xq (
  qF 60 (iO r_) (0:Int)
 ) λs1=>
 gd (Uu<|0<=(0:Int)/\(0:Int)<=s1/\s1<=(r_.rest.size:Int)) <|
 gd (Uu<|0<=s1/\s1<=(r_.rest.size:Int)/\(r_.rest.size:Int)<=(r_.rest.size:Int)) <|
 Us ((⟨(r_.rest.extract s1.toNat (r_.rest.size:Int).toNat),r_.failed⟩:aa),(r_.rest.extract (0:Int).toNat s1.toNat))
theorem vH (r_:aa):Le (kO r_) (gD r_):=by
 unfold kO gD
 solve_by_elim (maxDepth:=9999) only [*,tC,Le.gd,Le.bif,Le.bind,Le.sumK,Le.loop,Le.nilK,Le.ifc,Le.refl]
def eO (lq:aa->Int->Option (aa×ae)) (rcf:aa->Option (aa×ae)) (r_:aa):Option (aa×ae):=
 Xq (bV (⟨r_.rest,r_.failed⟩:aa) (40:Int)) λv1=>
 bif v1.2 then
  Xq (lq (⟨v1.1.rest,v1.1.failed⟩:aa) (3:Int)) λv3=>
  Xq (
   Xq (bV (⟨v3.1.rest,v3.1.failed⟩:aa) (41:Int)) λv5=>
   bif !v5.2 then
    Us (v5.1.rest,Uq)
   else
    Us (v5.1.rest,v5.1.failed)
  ) λs4=>
  Us ((⟨s4.1,s4.2⟩:aa),(⟨v3.2.Op,v3.2.Name,v3.2.Kids⟩:ae))
 else
  Xq (bV (⟨v1.1.rest,v1.1.failed⟩:aa) (126:Int)) λv7=>
  bif v7.2 then
   Xq (rcf (⟨v7.1.rest,v7.1.failed⟩:aa)) λv9=>
   Us ((⟨v9.1.rest,v9.1.failed⟩:aa),(⟨(6:Int),(⟨#[]⟩:BA),([v9.2.inn]:List ZTE)⟩:ae))
  else
   Xq (bV (⟨v7.1.rest,v7.1.failed⟩:aa) (43:Int)) λv10=>
   bif v10.2 then
    Xq (rcf (⟨v10.1.rest,v10.1.failed⟩:aa)) λv12=>
    Us ((⟨v12.1.rest,v12.1.failed⟩:aa),(⟨(7:Int),(⟨#[]⟩:BA),([v12.2.inn]:List ZTE)⟩:ae))
   else
    Xq (kO (⟨v10.1.rest,v10.1.failed⟩:aa)) λv13=>
    Xq (
     bif Uu (v13.2=(⟨#[]⟩:BA)) then
      Us Uq
     else
      Us v13.1.failed
    ) λs14=>
    Us ((⟨v13.1.rest,s14⟩:aa),(⟨(1:Int),v13.2,([]:List ZTE)⟩:ae))
theorem pW (lq:aa->Int->Option (aa×ae)) (yF:aa->Int->Option (aa×ae)) (hrcf96:∀ x0 x1,Le (lq x0 x1)<|yF x0 x1) (rcf:aa->Option (aa×ae)) (rcf':aa->Option (aa×ae)) (hrcf:∀ x0,Le (rcf x0)<|rcf' x0) (r_:aa):Le (eO lq rcf r_) (cG yF rcf' r_):=by
 unfold eO cG
 solve_by_elim (maxDepth:=9999) only [*,m7,vH,hrcf96,hrcf,Le.gd,Le.bif,Le.bind,Le.sumK,Le.loop,Le.nilK,Le.ifc,Le.refl]
def eT (lq:aa->Int->Option (aa×ae)):Nat->aa->Option (aa×ae)
 | 0=>λ_=>Ut
 | n+1=>eO lq (eT lq n)
def lu (lq:aa->Int->Option (aa×ae)) (r_:aa):Option (aa×ae):=eT lq 40 r_
theorem iP (lq:aa->Int->Option (aa×ae)) (yF:aa->Int->Option (aa×ae)) (hrcf96:∀ x0 x1,Le (lq x0 x1)<|yF x0 x1):∀ (n m:Nat),n<=m->∀ x0,Le (eT lq n x0) (bP yF m x0)
 | 0,_,_=>λx0 v h=>by cases h
 | n+1,0,h=>absurd h (Xz _)
 | n+1,m+1,h=>λx0=>pW lq yF hrcf96 _ _ (iP lq yF hrcf96 n m<|XA h) x0
theorem qZ (lq:aa->Int->Option (aa×ae)) (yF:aa->Int->Option (aa×ae)) (hrcf96:∀ x0 x1,Le (lq x0 x1)<|yF x0 x1) (r_:aa):Le (lu lq r_) (fO yF r_):=λv h=>xL 40 λm hm=>iP lq yF hrcf96 40 m hm r_ v h
def kP (op:Int):Option (Int×ByteArray×Int):=
 bif (op==(1:Int)) then
  Us ((0:Int),(⟨#[]⟩:BA),(0:Int))
 else
  bif (op==(2:Int)) then
   Us ((3:Int),(⟨#[124]⟩:BA),(2:Int))
  else
   bif (op==(3:Int)) then
    Us ((2:Int),(⟨#[38]⟩:BA),(2:Int))
   else
    bif (op==(4:Int)) then
     Us ((2:Int),(⟨#[45]⟩:BA),(2:Int))
    else
     bif (op==(5:Int)) then
      Us ((1:Int),(⟨#[59]⟩:BA),(2:Int))
     else
      bif (op==(6:Int)) then
       Us ((0:Int),(⟨#[126]⟩:BA),(1:Int))
      else
       bif (op==(7:Int)) then
        Us ((0:Int),(⟨#[43]⟩:BA),(1:Int))
       else
        Us ((0:Int),(⟨#[]⟩:BA),(-1:Int))
theorem oz (op:Int):Le (kP op) (iI op):=by
 unfold kP iI
 solve_by_elim (maxDepth:=9999) only [*,Le.gd,Le.bif,Le.bind,Le.sumK,Le.loop,Le.nilK,Le.ifc,Le.refl]
def fS (level:Int):(ByteArray×Bool×Int×Int)->Option ((ByteArray×Bool×Int×Int) ⊕ (ByteArray×Bool×Int)):=λs12=>
 bif Uu (s12.2.2.1<(([(2:Int),(3:Int),(4:Int),(5:Int)]:LI).length:Int)) then
  Xq (
   gd (Uu<|0<=s12.2.2.1/\s12.2.2.1<(([(2:Int),(3:Int),(4:Int),(5:Int)]:LI).length:Int)) <|
   Xq (kP<|([(2:Int),(3:Int),(4:Int),(5:Int)]:LI).getD s12.2.2.1.toNat Uo) λv17=>
   Xq (bif (s12.2.2.2==(0:Int)) then
    Us (v17.1==level)
   else
    Us Ur
   ) λs18=>
   bif s18 then
    gd (Uu<|0<=(0:Int)/\(0:Int)<(v17.2.1.size:Int)) <|
    Xq (bV (⟨s12.1,s12.2.1⟩:aa) ((v17.2.1.data.getD (0:Int).toNat 0).toNat:Int)) λv22=>
    bif v22.2 then
     Us (v22.1.rest,v22.1.failed,(([(2:Int),(3:Int),(4:Int),(5:Int)]:LI).getD s12.2.2.1.toNat Uo))
    else
     Us (v22.1.rest,v22.1.failed,s12.2.2.2)
   else
    Us (s12.1,s12.2.1,s12.2.2.2)
  ) λs15=>
  gd (TT .i64<|s12.2.2.1+(1:Int)) <|
  Us (.inl (s15.1,s15.2.1,(s12.2.2.1+(1:Int)),s15.2.2))
 else
  Us (.inr (s12.1,s12.2.1,s12.2.2.2))
theorem rf (level:Int) (sQ:_):Le (fS level sQ) (fP level sQ):=by
 unfold fS fP J
 solve_by_elim (maxDepth:=9999) only [*,oz,m7,Le.gd,Le.bif,Le.bind,Le.sumK,Le.loop,Le.nilK,Le.ifc,Le.refl]
def gZ (rcf:aa->Int->Option (aa×ae)) (level:Int):(ByteArray×Bool×Int×ByteArray×(List ZTE))->Option ((ByteArray×Bool×Int×ByteArray×(List ZTE)) ⊕ (aa×ae)):=λs7=>
 Xq (
  qF 60 (fS level) (s7.1,s7.2.1,(0:Int),(0:Int))
 ) λs9=>
 bif (s9.2.2==(0:Int)) then
  Us (.inr ((⟨s9.1,s9.2.1⟩:aa),(⟨s7.2.2.1,s7.2.2.2.1,s7.2.2.2.2⟩:ae)))
 else
  Xq (rcf (⟨s9.1,s9.2.1⟩:aa)<|level-(1:Int)) λv26=>
  Us (.inl (v26.1.rest,v26.1.failed,s9.2.2,(⟨#[]⟩:BA),([(⟨s7.2.2.1,s7.2.2.2.1,s7.2.2.2.2⟩:ae).inn,v26.2.inn]:List ZTE)))
theorem rU (rcf:aa->Int->Option (aa×ae)) (rcf':aa->Int->Option (aa×ae)) (hrcf:∀ x0 x1,Le (rcf x0 x1)<|rcf' x0 x1) (level:Int) (sQ:_):Le (gZ rcf level sQ) (gX rcf' level sQ):=by
 unfold gZ gX
 solve_by_elim (maxDepth:=9999) only [*,rf,hrcf,Le.gd,Le.bif,Le.bind,Le.sumK,Le.loop,Le.nilK,Le.ifc,Le.refl]
def iQ (rcf:aa->Int->Option (aa×ae)) (r_:aa) (level:Int):Option (aa×ae):=
 bif (level==(0:Int)) then
  Xq (lu rcf (⟨r_.rest,r_.failed⟩:aa)) λv2=>
  Us ((⟨v2.1.rest,v2.1.failed⟩:aa),(⟨v2.2.Op,v2.2.Name,v2.2.Kids⟩:ae))
 else
  gd (TT .i64<|level-(1:Int)) <|
  Xq (rcf (⟨r_.rest,r_.failed⟩:aa)<|level-(1:Int)) λv4=>
  qF 60 (gZ rcf level) (v4.1.rest,v4.1.failed,v4.2.Op,v4.2.Name,v4.2.Kids)
theorem tE (rcf:aa->Int->Option (aa×ae)) (rcf':aa->Int->Option (aa×ae)) (hrcf:∀ x0 x1,Le (rcf x0 x1)<|rcf' x0 x1) (r_:aa) (level:Int):Le (iQ rcf r_ level) (dX rcf' r_ level):=by
 unfold iQ dX
 solve_by_elim (maxDepth:=9999) only [*,qZ,rU,hrcf,Le.gd,Le.bif,Le.bind,Le.sumK,Le.loop,Le.nilK,Le.ifc,Le.refl]
def iR:Nat->aa->Int->Option (aa×ae)
 | 0=>λ_ _=>Ut
 | n+1=>iQ (iR n)
def pg (r_:aa) (level:Int):Option (aa×ae):=iR 40 r_ level
theorem kQ:∀ (n m:Nat),n<=m->∀ x0 x1,Le (iR n x0 x1) (bQ m x0 x1)
 | 0,_,_=>λx0 x1 v h=>by cases h
 | n+1,0,h=>absurd h (Xz _)
 | n+1,m+1,h=>λx0 x1=>tE _ _ (kQ n m<|XA h) x0 x1
theorem uW (r_:aa) (level:Int):Le (pg r_ level) (jZ r_ level):=λv h=>xL 40 λm hm=>kQ 40 m hm r_ level v h
def dL (s:List BA) (v:BA):Option Bool:=
 Xq (cJ s v) λv1=>
 Us (Uu<|(0:Int)<=v1)
theorem nu (s:List BA) (v:BA):Le (dL s v) (bZ s v):=by
 unfold dL bZ
 solve_by_elim (maxDepth:=9999) only [*,iN,Le.gd,Le.bif,Le.bind,Le.sumK,Le.loop,Le.nilK,Le.ifc,Le.refl]
def rq (name:BA):Option Bool:=
 Xq (dL He name) λv1=>
 Us v1
theorem zH (name:BA):Le (rq name) (mo name):=by
 unfold rq mo
 solve_by_elim (maxDepth:=9999) only [*,nu,Le.gd,Le.bif,Le.bind,Le.sumK,Le.loop,Le.nilK,Le.ifc,Le.refl]
def oD (rcf:ae->Int->Option Int) (e_:ae) (most:Int):(Int×Int)->Option ((Int×Int) ⊕ Int):=λs13=>
 bif Uu (s13.1<(e_.Kids.length:Int)) then
  gd (Uu<|0<=s13.1/\s13.1<(e_.Kids.length:Int)) <|
  gd (TT .i64<|most-(1:Int)) <|
  Xq (rcf (⟨((e_.Kids.getD s13.1.toNat Uo).out).Op,((e_.Kids.getD s13.1.toNat Uo).out).Name,((e_.Kids.getD s13.1.toNat Uo).out).Kids⟩:ae)<|most-(1:Int)) λv18=>
  gd (TT .i64<|s13.2+v18) <|
  bif Uu ((40:Int)<(s13.2+v18)) then
   Us (.inr<|s13.2+v18)
  else
   gd (TT .i64<|s13.1+(1:Int)) <|
   Us (.inl ((s13.1+(1:Int)),(s13.2+v18)))
 else
  Us (.inr s13.2)
theorem yf (rcf:ae->Int->Option Int) (rcf':ae->Int->Option Int) (hrcf:∀ x0 x1,Le (rcf x0 x1)<|rcf' x0 x1) (e_:ae) (most:Int) (sQ:_):Le (oD rcf e_ most sQ) (nX rcf' e_ most sQ):=by
 unfold oD nX J
 solve_by_elim (maxDepth:=9999) only [*,hrcf,Le.gd,Le.bif,Le.bind,Le.sumK,Le.loop,Le.nilK,Le.ifc,Le.refl]
def ru (rcf:ae->Int->Option Int) (e_:ae) (most:Int):Option Int:=
 Xq (kP e_.Op) λv1=>
 sumK (
  Xq (
   bif (most==(0:Int)) then
    Us Uq
   else
    bif ((e_.Kids.length:Int) != v1.2.2) then
     Us Uq
    else
     Xq (rq e_.Name) λv6=>
     bif (!((e_.Op==(1:Int))==v6)) then
      Us Uq
     else
      bif (e_.Op != (1:Int)) then
       Us (!decide (e_.Name=(⟨#[]⟩:BA)))
      else
       Us Ur
  ) λs3=>
  bif s3 then
   Us (.inr (41:Int))
  else
   Us (.inl ())
 ) λs2=>
 Xq (
  qF 60 (oD rcf e_ most) ((0:Int),(1:Int))
 ) λs10=>
 Us s10
theorem zI (rcf:ae->Int->Option Int) (rcf':ae->Int->Option Int) (hrcf:∀ x0 x1,Le (rcf x0 x1)<|rcf' x0 x1) (e_:ae) (most:Int):Le (ru rcf e_ most) (mq rcf' e_ most):=by
 unfold ru mq
 solve_by_elim (maxDepth:=9999) only [*,oz,zH,yf,hrcf,Le.gd,Le.bif,Le.bind,Le.sumK,Le.loop,Le.nilK,Le.ifc,Le.refl]
def ry:Nat->ae->Int->Option Int
 | 0=>λ_ _=>Ut
 | n+1=>ru (ry n)
def zo (e_:ae) (most:Int):Option Int:=ry 40 e_ most
theorem tF:∀ (n m:Nat),n<=m->∀ x0 x1,Le (ry n x0 x1) (jv m x0 x1)
 | 0,_,_=>λx0 x1 v h=>by cases h
 | n+1,0,h=>absurd h (Xz _)
 | n+1,m+1,h=>λx0 x1=>zI _ _ (tF n m<|XA h) x0 x1
theorem BJ (e_:ae) (most:Int):Le (zo e_ most) (uR e_ most):=λv h=>xL 40 λm hm=>tF 40 m hm e_ most v h
def jh (e_:ae):Option Bool:=
 Xq (zo e_ (12:Int)) λv1=>
 Us (Uu<|v1<=(40:Int))
theorem pq (e_:ae):Le (jh e_) (fE e_):=by
 unfold jh fE
 solve_by_elim (maxDepth:=9999) only [*,BJ,Le.gd,Le.bif,Le.bind,Le.sumK,Le.loop,Le.nilK,Le.ifc,Le.refl]
def rz (rcf:ae->Int->Option BA) (e_:ae) (most:Int):Option BA:=
 Xq (kP e_.Op) λv1=>
 Xq (
  bif (v1.2.2==(1:Int)) then
   gd (Uu<|0<=(0:Int)/\(0:Int)<(e_.Kids.length:Int)) <|
   Xq (rcf ((e_.Kids.getD (0:Int).toNat Uo).out) (0:Int)) λv5=>
   gd (Uu<|v1.2.1.size+v5.size<=9223372036854775807) <|
   Us (v1.2.1++v5)
  else
   bif (v1.2.2==(2:Int)) then
    gd (Uu<|0<=(0:Int)/\(0:Int)<(e_.Kids.length:Int)) <|
    Xq (rcf ((e_.Kids.getD (0:Int).toNat Uo).out) v1.1) λv9=>
    gd (Uu<|v9.size+v1.2.1.size<=9223372036854775807) <|
    gd (Uu<|0<=(1:Int)/\(1:Int)<(e_.Kids.length:Int)) <|
    gd (TT .i64<|v1.1-(1:Int)) <|
    Xq (rcf ((e_.Kids.getD (1:Int).toNat Uo).out)<|v1.1-(1:Int)) λv13=>
    gd (Uu<|(v9++v1.2.1).size+v13.size<=9223372036854775807) <|
    Us ((v9++v1.2.1)++v13)
   else
    Us e_.Name
 ) λs2=>
 bif Uu (most<v1.1) then
  gd (Uu<|(⟨#[40]⟩:BA).size+s2.size<=9223372036854775807) <|
  gd (Uu<|((⟨#[40]⟩:BA)++s2).size+(⟨#[41]⟩:BA).size<=9223372036854775807) <|
  Us (((⟨#[40]⟩:BA)++s2)++(⟨#[41]⟩:BA))
 else
  Us s2
theorem zJ (rcf:ae->Int->Option BA) (rcf':ae->Int->Option BA) (hrcf:∀ x0 x1,Le (rcf x0 x1)<|rcf' x0 x1) (e_:ae) (most:Int):Le (rz rcf e_ most) (mr rcf' e_ most):=by
 unfold rz mr J
 solve_by_elim (maxDepth:=9999) only [*,oz,hrcf,Le.gd,Le.bif,Le.bind,Le.sumK,Le.loop,Le.nilK,Le.ifc,Le.refl]
def rA:Nat->ae->Int->Option BA
 | 0=>λ_ _=>Ut
 | n+1=>rz (rA n)
def zq (e_:ae) (most:Int):Option BA:=rA 40 e_ most
theorem tG:∀ (n m:Nat),n<=m->∀ x0 x1,Le (rA n x0 x1) (jw m x0 x1)
 | 0,_,_=>λx0 x1 v h=>by cases h
 | n+1,0,h=>absurd h (Xz _)
 | n+1,m+1,h=>λx0 x1=>zJ _ _ (tG n m<|XA h) x0 x1
theorem BK (e_:ae) (most:Int):Le (zq e_ most) (uS e_ most):=λv h=>xL 40 λm hm=>tG 40 m hm e_ most v h
def il (e_:ae):Option BA:=
 Xq (jh e_) λv1=>
 bif !v1 then
  Us (⟨#[]⟩:BA)
 else
  Xq (zq e_ (3:Int)) λv3=>
  Us v3
theorem oF (e_:ae):Le (il e_) (eu e_):=by
 unfold il eu
 solve_by_elim (maxDepth:=9999) only [*,pq,BK,Le.gd,Le.bif,Le.bind,Le.sumK,Le.loop,Le.nilK,Le.ifc,Le.refl]
def mU (text:BA):Option (ae×Bool):=
 bif Uu ((300:Int)<(text.size:Int)) then
  Us ((⟨(0:Int),(⟨#[]⟩:BA),([]:List ZTE)⟩:ae),Ur)
 else
  Xq (pg (⟨text,Ur⟩:aa) (3:Int)) λv2=>
  Xq (bif v2.1.failed then
   Us Uq
  else
   Us (!decide (v2.1.rest=(⟨#[]⟩:BA)))
  ) λs3=>
  Xq (bif s3 then
   Us Uq
  else
   Us (Uu<|text=(⟨#[]⟩:BA))
  ) λs5=>
  Xq (bif s5 then
   Us Uq
  else
   Xq (il (⟨v2.2.Op,v2.2.Name,v2.2.Kids⟩:ae)) λv9=>
   Us (!decide (v9=text))
  ) λs7=>
  bif s7 then
   Us ((⟨(0:Int),(⟨#[]⟩:BA),([]:List ZTE)⟩:ae),Ur)
  else
   Us ((⟨v2.2.Op,v2.2.Name,v2.2.Kids⟩:ae),Uq)
theorem xq (text:BA):Le (mU text) (jf text):=by
 unfold mU jf
 solve_by_elim (maxDepth:=9999) only [*,uW,oF,Le.gd,Le.bif,Le.bind,Le.sumK,Le.loop,Le.nilK,Le.ifc,Le.refl]
def lG (v2:(List BA)):((List aj)×Int)->Option (((List aj)×Int) ⊕ ((List aj) ⊕ ((List aj)×Bool))):=λs8=>
 bif Uu (s8.2<(v2.length:Int)) then
  gd (Uu<|0<=s8.2/\s8.2<(v2.length:Int)) <|
  Xq (wG (v2.getD s8.2.toNat Uo) (⟨#[32]⟩:BA)) λv15=>
  Xq (cJ ER v15.1) λv16=>
  Xq (mU v15.2.1) λv17=>
  Xq (bif Uu (v16<(1:Int)) then
   Us Uq
  else
   Us (!v17.2)
  ) λs18=>
  bif s18 then
   Us (.inr<|.inr (([]:List aj),Ur))
  else
   gd (bw (s8.1.length+1) 56) <|
   gd (TT .i64<|s8.2+(1:Int)) <|
   Us (.inl ((s8.1++[(⟨v16,(⟨v17.1.Op,v17.1.Name,v17.1.Kids⟩:ae)⟩:aj)]),(s8.2+(1:Int))))
 else
  Us (.inr<|.inl s8.1)
theorem wH (v2:(List BA)) (sQ:_):Le (lG v2 sQ) (lD v2 sQ):=by
 unfold lG lD J
 solve_by_elim (maxDepth:=9999) only [*,CP,iN,xq,Le.gd,Le.bif,Le.bind,Le.sumK,Le.loop,Le.nilK,Le.ifc,Le.refl]
def rV (x:Int) (low:Int) (high:Int):Option Bool:=
 Xq (bif Uu (low<=x) then
  Us (Uu<|x<=high)
 else
  Us Ur
 ) λs1=>
 Us s1
theorem xc (x:Int) (low:Int) (high:Int):Le (rV x low high) (nY x low high):=by
 unfold rV nY
 solve_by_elim (maxDepth:=9999) only [*,Le.gd,Le.bif,Le.bind,Le.sumK,Le.loop,Le.nilK,Le.ifc,Le.refl]
def mV (r_:aj):Option Bool:=
 Xq (rV r_.Kind (1:Int) (3:Int)) λv1=>
 Xq (bif !v1 then
  Us Uq
 else
  Xq (jh r_.Expr) λv4=>
  Us (!v4)
 ) λs2=>
 Us s2
theorem xu (r_:aj):Le (mV r_) (jg r_):=by
 unfold mV jg
 solve_by_elim (maxDepth:=9999) only [*,xc,pq,Le.gd,Le.bif,Le.bind,Le.sumK,Le.loop,Le.nilK,Le.ifc,Le.refl]
def aN (s:List aj):Int->Option (Int ⊕ (Unit ⊕ Int)):=λs4=>
 bif Uu (s4<(s.length:Int)) then
  gd (Uu<|0<=s4/\s4<(s.length:Int)) <|
  Xq (mV<|s.getD s4.toNat Uo) λv8=>
  bif v8 then
   Us (.inr<|.inr s4)
  else
   gd (TT .i64<|s4+(1:Int)) <|
   Us (.inl<|s4+(1:Int))
 else
  Us (.inr<|.inl ())
theorem cW (s:List aj) (sQ:_):Le (aN s sQ) (aL s sQ):=by
 unfold aN aL J
 solve_by_elim (maxDepth:=9999) only [*,xu,Le.gd,Le.bif,Le.bind,Le.sumK,Le.loop,Le.nilK,Le.ifc,Le.refl]
def aS (s:List aj):Option Int:=
 sumK (
  qF 60 (aN s) (0:Int)
 ) λs1=>
 Us (-1:Int)
theorem dD (s:List aj):Le (aS s) (aF s):=by
 unfold aS aF
 solve_by_elim (maxDepth:=9999) only [*,cW,Le.gd,Le.bif,Le.bind,Le.sumK,Le.loop,Le.nilK,Le.ifc,Le.refl]
def aO (s:List aj):Option Bool:=
 Xq (aS s) λv1=>
 Us (Uu<|(0:Int)<=v1)
theorem cZ (s:List aj):Le (aO s) (az s):=by
 unfold aO az
 solve_by_elim (maxDepth:=9999) only [*,dD,Le.gd,Le.bif,Le.bind,Le.sumK,Le.loop,Le.nilK,Le.ifc,Le.refl]
def pX (m:List aj):Option Bool:=
 Xq (rV (m.length:Int) (1:Int) (5:Int)) λv1=>
 Xq (bif v1 then
  Xq (aO m) λv4=>
  Us (!v4)
 else
  Us Ur
 ) λs2=>
 Us s2
theorem rM (m:List aj):Le (pX m) (fg m):=by
 unfold pX fg
 solve_by_elim (maxDepth:=9999) only [*,xc,cZ,Le.gd,Le.bif,Le.bind,Le.sumK,Le.loop,Le.nilK,Le.ifc,Le.refl]
def kR (m:List aj):((List BA)×Int)->Option (((List BA)×Int) ⊕ (List BA)):=λs8=>
 bif Uu (s8.2<(m.length:Int)) then
  gd (Uu<|0<=s8.2/\s8.2<(m.length:Int)) <|
  gd (Uu<|0<=(m.getD s8.2.toNat Uo).Kind/\(m.getD s8.2.toNat Uo).Kind<4) <|
  gd (Uu<|(ER.getD ((m.getD s8.2.toNat Uo).Kind).toNat Uo).size+(⟨#[32]⟩:BA).size<=9223372036854775807) <|
  Xq (il (⟨((m.getD s8.2.toNat Uo).Expr).Op,((m.getD s8.2.toNat Uo).Expr).Name,((m.getD s8.2.toNat Uo).Expr).Kids⟩:ae)) λv15=>
  gd (Uu<|((ER.getD ((m.getD s8.2.toNat Uo).Kind).toNat Uo)++(⟨#[32]⟩:BA)).size+v15.size<=9223372036854775807) <|
  gd (Uu<|0<=s8.2/\s8.2<(s8.1.length:Int)) <|
  gd (TT .i64<|s8.2+(1:Int)) <|
  Us (.inl ((s8.1.set s8.2.toNat<|((ER.getD ((m.getD s8.2.toNat Uo).Kind).toNat Uo)++(⟨#[32]⟩:BA))++v15),(s8.2+(1:Int))))
 else
  Us (.inr s8.1)
theorem vI (m:List aj) (sQ:_):Le (kR m sQ) (kM m sQ):=by
 unfold kR kM J
 solve_by_elim (maxDepth:=9999) only [*,oF,Le.gd,Le.bif,Le.bind,Le.sumK,Le.loop,Le.nilK,Le.ifc,Le.refl]
def uX (elems:List BA) (sep:BA):Option BA:=
 bif ((elems.length:Int)==(0:Int)) then
  Us (⟨#[]⟩:BA)
 else
  bif ((elems.length:Int)==(1:Int)) then
   gd (Uu<|0<=(0:Int)/\(0:Int)<(elems.length:Int)) <|
   Us (elems.getD (0:Int).toNat Uo)
  else
   Ut
theorem BL (elems:List BA) (sep:BA):Le (uX elems sep) (qd elems sep):=by
 unfold uX qd J
 solve_by_elim (maxDepth:=9999) only [*,Le.gd,Le.bif,Le.bind,Le.sumK,Le.loop,Le.nilK,Le.ifc,Le.refl]
def oH (m:List aj):Option BA:=
 Xq (pX m) λv1=>
 bif !v1 then
  Us (⟨#[]⟩:BA)
 else
  gd (Uu<|0<=(m.length:Int)/\(m.length:Int)<=(m.length:Int)/\(m.length:Int)*((16:Nat):Int)<=140737488355328/\(m.length:Int)<=140737488355328) <|
  Xq (
   qF 60 (kR m) ((Xy (m.length:Int).toNat (Uo:BA)),(0:Int))
  ) λs4=>
  Xq (uX s4 (⟨#[47]⟩:BA)) λv20=>
  Us v20
theorem yg (m:List aj):Le (oH m) (ky m):=by
 unfold oH ky
 solve_by_elim (maxDepth:=9999) only [*,rM,vI,BL,Le.gd,Le.bif,Le.bind,Le.sumK,Le.loop,Le.nilK,Le.ifc,Le.refl]
def pY (text:BA):Option ((List aj)×Bool):=
 sumK (
  Xq (tz text (⟨#[47]⟩:BA)) λv2=>
  qF 60 (lG v2) (([]:List aj),(0:Int))
 ) λs1=>
 Xq (oH s1) λv26=>
 bif (!decide (v26=text)) then
  Us (([]:List aj),Ur)
 else
  Us (s1,Uq)
theorem yU (text:BA):Le (pY text) (li text):=by
 unfold pY li
 solve_by_elim (maxDepth:=9999) only [*,AB,wH,yg,Le.gd,Le.bif,Le.bind,Le.sumK,Le.loop,Le.nilK,Le.ifc,Le.refl]
def zt (name:BA):Option ((List aj)×Bool):=
 Xq (qX name) λv1=>
 Xq (pY v1) λv2=>
 Us (v2.1,v2.2)
theorem BM (name:BA):Le (zt name) (lV name):=by
 unfold zt lV
 solve_by_elim (maxDepth:=9999) only [*,zG,yU,Le.gd,Le.bif,Le.bind,Le.sumK,Le.loop,Le.nilK,Le.ifc,Le.refl]
structure ZSt where
 at_:LI
 regs:LI
 mem:LI
 buf:LL
instance:Inhabited ZSt:=⟨⟨Uo,Uo,Uo,Uo⟩⟩
def Uc {α:Type} (x:Option α) (P:α->Prop):Prop:=∃ v,x=Us v/\P v
section
variable {α β S E:Type} {P:α->Prop} {Q:β->Prop} {x y:Option α}
theorem Uc.pure {v:α} (h:P v):Uc (Us v) P:=⟨v,rfl,h⟩
theorem Uc.mono {P':α->Prop} (h:Uc x P) (k:∀ v,P v->P' v):Uc x P':=by
 obtain ⟨v,e,p⟩:=h;exact ⟨v,e,k v p⟩
theorem Uc.bind {o:Option α} {f:α->Option β} (h:Uc o P) (k:∀ v,P v->Uc (f v) Q):Uc (o.bind f) Q:=by
 obtain ⟨v,rfl,p⟩:=h;exact k v p
theorem Uc.gd {b:Bool} (hb:b=Uq) (h:Uc x P):Uc (gd b x) P:=by rw [qO hb];exact h
theorem Uc.gdD {A:Prop} [Decidable A] (hb:A) (h:Uc x P):Uc (Go.Proofs.YtdmahcaohkplcaaGreatDoor.gd (decide A) x) P:=Uc.gd (decide_eq_true hb) h
theorem Uc.gdI {n:Int} (hb : -9223372036854775808<=n/\n<=9223372036854775807) (h:Uc x P):Uc (Go.Proofs.YtdmahcaohkplcaaGreatDoor.gd (TT .i64 n) x) P:=Uc.gd (Pg hb) h
theorem Uc.gdY {n:Int} (hb:0<=n/\n<=255) (h:Uc x P):Uc (Go.Proofs.YtdmahcaohkplcaaGreatDoor.gd (TT .u8 n) x) P:=Uc.gd (Rm hb) h
theorem Oi {n m:Nat} (hn:n<=1048576) (hm:Nat.ble m 1000=Uq):bw n m=Uq:=by
 have h1:=nlb hm;have h2:n*m<=1048576*1000:=Nat.mul_le_mul hn h1;exact decide_eq_true ⟨by omega,by omega⟩
theorem Uc.gdC {n m:Nat} (hn:n<=1048576) (hm:Nat.ble m 1000=Uq) (h:Uc x P):Uc (Go.Proofs.YtdmahcaohkplcaaGreatDoor.gd (bw n m) x) P:=Uc.gd (Oi hn hm) h
theorem Uc.bif {b:Bool} (h1:b=Uq->Uc x P) (h2:b=Ur->Uc y P):Uc (bif b then x else y) P:=by
 cases b with
 | true=>exact h1 rfl
 | false=>exact h2 rfl
theorem Uc.bifD {A:Prop} [Decidable A] (h1:A->Uc x P) (h2 : ¬ A->Uc y P):Uc (_root_.cond (decide A) x y) P:=
 Uc.bif (λh=>h1<|of_decide_eq_true h) (λh=>h2<|of_decide_eq_false h)
theorem Uc.sum {W:Type} {PS:S->Prop} {PW:W->Prop} {a:Option (S ⊕ W)} {f:S->Option W} (h:Uc a λz=>match z with
  | .inl s=>PS s
  | .inr w=>PW w) (k:∀ s,PS s->Uc (f s) PW):Uc (sumK a f) PW:=by
 obtain ⟨v,rfl,p⟩:=h
 match v,p with
 | .inl s,p=>exact k s p
 | .inr w,p=>exact ⟨w,rfl,p⟩
theorem Uc.loop {step:S->Option (S ⊕ E)} {R:E->Prop} (J:S->Prop) (mu:S->Nat) {s0:S} (h0:J s0) (h:∀ s,J s->Uc (step s) λz=>match z with
  | .inl s'=>J s'/\mu s'<mu s
  | .inr x=>R x):Uc (loopO step s0) R:=by
 have key:∀ (n:Nat) (s:S),mu s=n->J s->Uc (loopO step s) R:=by
  intro n
  induction n using Nat.strongRecOn with
  | _ n ih=>
   intro s hs hj;obtain ⟨z,e,hz⟩:=h s hj;rw [ul,e]
   match z,hz with
   | .inl s',hz=>exact ih (mu s') (by omega) s' rfl hz.1
   | .inr x,hz=>exact ⟨x,rfl,hz⟩
 exact key _ s0 rfl h0
theorem Uc.eq {v:α} (h:Uc x (· = v)):x=Us v:=by
 obtain ⟨u,e,rfl⟩:=h;exact e
theorem Uc.of {v:α} (h:x=Us v) (p:P v):Uc x P:=⟨v,h,p⟩
end

def rdX (x:TW):Bool:=x.Op==1||x.Op==5
def wrX (x:TW):Bool:=x.Op==2||x.Op==3||x.Op==5
theorem JO (x:TW):Uc (cQ x) (· = rdX x):=by
 unfold cQ rdX;exact Uc.bind (P:=(· = (x.Op==1||x.Op==5))) (.bif (λh => .pure<|by rw [h];rfl) λh => .pure<|by rw [h];rfl) λv hv => .pure hv
theorem Ef (x:TW):Uc (bD x) (· = wrX x):=by
 unfold bD wrX;exact Uc.bind (P:=(· = (x.Op==2||x.Op==3))) (.bif (λh => .pure<|by rw [h];rfl) λh => .pure<|by rw [h];rfl) λv hv=>Uc.bind (P:=(· = (x.Op==2||x.Op==3||x.Op==5))) (.bif (λh => .pure<|by rw [<- hv,h];rfl) λh => .pure<|by rw [<- hv,h];rfl) λv hv => .pure hv
def Vs (p:List<|List TW):Prop:=p.length<=3/\∀ n,(p.getD n Uo).length<=7
theorem Vs.of {p:List (List TW)} (h:bS (p.map λr=>r.map qw)=Uq):Vs p/\∀ t k:Nat,t<p.length->k<(p.getD t Uo).length->nJ (qw<|(p.getD t Uo).getD k Uo)=Uq:=by
 simp only [bS,vB,bae,dte,List.all_eq_true,rowOk] at h;have hl:p.length<=3:=by simpa using h.1.1.1.1
 have hr:=h.1.1.1.2;refine ⟨⟨hl,λn=>?_⟩,λt k ht hk=>?_⟩
 ·by_cases hn:n<p.length
  ·have e:p.getD n Uo=p[n]:=by simp [hn]
   rw [e];have := (hr (p[n].map qw)<|XE.2 ⟨p[n],Xv hn,rfl⟩).1;simpa using this
  rw [gdq,gen (by omega)];exact Nat.zero_le _
 have e:p.getD t Uo=p[t]:=by simp [ht]
 rw [e] at hk ⊢;have h1:=(hr (p[t].map qw)<|XE.2 ⟨p[t],Xv ht,rfl⟩).2;have e2:p[t].getD k Uo=p[t][k]:=by simp [hk]
 rw [e2];exact h1 _<|XE.2 ⟨_,Xv hk,rfl⟩
def InR (x:TW):Prop:=0<=x.Loc/\x.Loc<=2/\0<=x.Reg/\x.Reg<=2/\0<=x.Val/\x.Val<=3
theorem Mf {x:TW} (h:nJ (qw x)=Uq):InR x:=by
 obtain ⟨o,l,r,v⟩:=x;unfold InR;simp only;unfold nJ qw at h;simp only [inB] at h
 split at h
 ·simp only [bae,dte,beq_iff_eq] at h;omega
 split at h
 ·simp only [bae,dte,beq_iff_eq] at h;omega
 split at h
 ·simp only [bae,dte,beq_iff_eq] at h;omega
 split at h
 ·simp only [bae,dte] at h;omega
 cases h
structure PV (p:List (List TW)):Prop where
 vs:Vs p
 pos:0<p.length
 ins:∀ t k:Nat,t<p.length->k<(p.getD t Uo).length->InR ((p.getD t Uo).getD k Uo)
theorem PV.of {p:List (List TW)} (h:bS (p.map λr=>r.map qw)=Uq):PV p:=by
 have h1:=Vs.of h;refine ⟨h1.1,?_,λt k ht hk=>Mf<|h1.2 t k ht hk⟩;simp only [bS,bae,dte,llm] at h;exact h.1.2
theorem aT {n m:Nat} (hn:n<=4000000) (hm:Nat.ble m 1000=Uq):bw n m=Uq:=by
 have h1:=nlb hm;have h2:n*m<=4000000*1000:=Nat.mul_le_mul hn h1;exact decide_eq_true ⟨by omega,by omega⟩
theorem Gd (a:Z3b) (q i v:Int) (hq:0<=q/\q<=2) (hi:0<=i/\i<=2):Z3b.get (Z3b.set a q v) i=if i=q then v else Z3b.get a i:=by
 obtain ⟨x,y,z⟩:=a;have h1:q=0\/q=1\/q=2:=by omega
 have h2:i=0\/i=1\/i=2:=by omega
 rcases h1 with rfl | rfl | rfl <;> rcases h2 with rfl | rfl | rfl <;> rfl
theorem Mg (a:Z33) (q i:Int) (v:Z3b) (hq:0<=q/\q<=2) (hi:0<=i/\i<=2):Z33.get (Z33.set a q v) i=if i=q then v else Z33.get a i:=by
 obtain ⟨x,y,z⟩:=a;have h1:q=0\/q=1\/q=2:=by omega
 have h2:i=0\/i=1\/i=2:=by omega
 rcases h1 with rfl | rfl | rfl <;> rcases h2 with rfl | rfl | rfl <;> rfl
theorem Uc.sumR {S W:Type} {a:Option (S ⊕ W)} {f:S->Option W} {w:W} (h:Uc a (· = .inr w)):Uc (sumK a f) (· = w):=by
 obtain ⟨v,rfl,rfl⟩:=h;exact ⟨w,rfl,rfl⟩
theorem Uc.sumL {S W:Type} {a:Option (S ⊕ W)} {f:S->Option W} {w:W} {s:S} (h:Uc a (· = .inl s)) (k:Uc (f s) (· = w)):Uc (sumK a f) (· = w):=by
 obtain ⟨v,rfl,rfl⟩:=h;exact k
def Qg (u:T9) (t:Int) (x:TW):Int:=if x.Op=3 then Z3b.get (Z33.get u.reg t) x.Reg else x.Val
def Sk (u:T9) (t:Int) (x:TW):T9:=
 ⟨u.p,Z3b.set u.pc t<|Z3b.get u.pc t+1,if rdX x=Uq then Z33.set u.reg t (Z3b.set (Z33.get u.reg t) x.Reg<|Z3b.get u.mem x.Loc) else u.reg,if wrX x=Uq then Z3b.set u.mem x.Loc (Qg u t x) else u.mem⟩
def ltL (x y:LI):Prop:=cmpL x y<0
theorem IY {x y:LI}:leL x y=Uq↔ltL x y\/x=y:=by
 unfold leL ltL;rw [dte];rcases wC x y with h | h | h
 ·exact ⟨λ_ => .inl h,λ_=>by have := yM x y;omega⟩
 ·exact ⟨λ_ => .inr h,λ_=>by rw [h,sM];decide⟩
 refine ⟨λg=>absurd h g,λg=>?_⟩;rcases g with g | g
 ·have := yM x y;omega
 rw [g,sM] at h;exact absurd h (by decide)
theorem Mh {x y:LI} (h:ltL x y):x≠y:=by
 rintro rfl;unfold ltL at h;rw [sM] at h;exact absurd h (by decide)
structure Sor (l q:List (List Int)):Prop where
 lt:q.Pairwise ltL
 mem:∀ o,o∈q↔o∈l
 len:q.length<=l.length
theorem JP {l c:LL} {n:Nat} (hs:l.Pairwise λx y=>leL x y=Uq) (h:c.Pairwise ltL) (hm:∀ o,o∈c↔o∈l.take n) (h0:0<n) (hn:n<l.length) (hne:l.getD n Uo≠l.getD (n-1) Uo) :
  (c++[l.getD n Uo]).Pairwise ltL/\∀ o,o∈c++[l.getD n Uo]↔o∈l.take (n+1):=by
 have e1:l.getD n Uo=l[n]:=by simp [hn]
 have e2:l.getD (n-1) Uo=l[n-1]:=by simp [List.getD,show n-1<l.length by omega]
 rw [e1] at hne ⊢;rw [e2] at hne;have hp:=List.pairwise_iff_getElem.1 hs;refine ⟨List.pairwise_append.2 ⟨h,by simp,λy hy x hx=>?_⟩,λo=>?_⟩
 ·rw [XF.1 hx];obtain ⟨j,hj,rfl⟩:=XJ<|(hm y).1 hy;have hjn:j<n:=Nat.lt_of_lt_of_le (show j<min n l.length by simpa using hj)<|Nat.min_le_left _ _;rw [List.getElem_take];rcases IY.1 (hp j n (by omega) hn hjn) with g | g
  ·exact g
  exfalso;apply hne
  by_cases hj1:j=n-1
  ·subst hj1;exact g.symm
  exact JN _ _ (g ▸ hp j (n-1) (by omega) (by omega) (by omega))<|hp (n-1) n (by omega) hn (by omega)
 rw [Xw,hm,XB,Xw,geq hn];simp
theorem JQ {l:LL} {n:Nat} (h0:0<n) (hn:n<l.length) (he:l.getD n Uo=l.getD (n-1) Uo) (o:LI):o∈l.take (n+1)↔o∈l.take n:=by
 have e1:l.getD n Uo=l[n]:=by simp [hn]
 have e2:l.getD (n-1) Uo=l[n-1]:=by simp [List.getD,show n-1<l.length by omega]
 rw [e1,e2] at he;rw [XB,Xw,geq hn];refine ⟨λh=>h.elim id λh=>?_,.inl⟩;have : o=l[n-1]:=by simpa [he] using h
 rw [this];exact List.mem_iff_getElem.2 ⟨n-1,by simp;omega,by simp⟩
theorem Mi (a b:LI) (ha:a.length<=1048576):Uc (fI a b) (· = Uu (a=b)):=by
 unfold fI;refine .bif (λh => .pure ?_) λh=>?_
 ·have h:a.length≠b.length:=by
   intro e;rw [e] at h;simp at h
  rw [decide_eq_false (λe=>h<|by rw [e])]
 have h:a.length=b.length:=by
  have : (a.length:Int)=(b.length:Int):=by simpa using h
  omega
 refine Uc.sum (PS:=λ_=>a=b) (PW:=λv=>v=Uu (a=b)) ?_ λ_ he => .pure (by rw [decide_eq_true he]);refine Uc.loop (λi=>0<=i/\i<=(a.length:Int)/\∀ j:Nat,(j:Int)<i->a[j]? = b[j]?) (λi=>((a.length:Int)-i).toNat) ⟨Xt _,by omega,λj hj=>absurd hj<|by omega⟩ λi ⟨h1,h2,h3⟩ => ?_;unfold lN J;refine .bifD (λhlt => .gdD ⟨h1,hlt⟩<|.gdD ⟨h1,by omega⟩ ?_) λhge => .pure ?_
 ·have hi:i.toNat<a.length:=by omega
  have hib:i.toNat<b.length:=by omega
  have ea:a.getD i.toNat Uo=a[i.toNat]:=by simp [hi]
  have eb:b.getD i.toNat Uo=b[i.toNat]:=by simp [hib]
  rw [ea,eb];refine .bif (λhb => .pure ?_) λhb => .gdI (by omega)<|.pure ⟨⟨by omega,by omega,λj hj=>?_⟩,by omega⟩
  ·simp only [bne_iff_ne] at hb;have : a≠b:=λe=>hb (by simp [e]);simp only [];rw [decide_eq_false this]
  by_cases ej:j=i.toNat
  ·subst ej;rw [geq hi,geq hib];have : a[i.toNat]=b[i.toNat]:=by simpa using hb
   rw [this]
  exact h3 j (by omega)
 simp only [];apply List.ext_getElem?;intro j;rcases Nat.lt_or_ge j a.length with g | g
 ·exact h3 j (by omega)
 rw [gen g,gen (by omega)]
theorem Mj (a b:LI) (ha:a.length<=1048576):Uc (cT a b) (· = Uu (a=b)):=by
 unfold cT;exact (Mi a b ha).bind λv hv => .pure hv
theorem IZ {l:LL} (hs:l.Pairwise λx y=>leL x y=Uq) (hl:l.length<=1099511627776) (hr:∀ r∈l,r.length<=1048576):Uc (aH l) (Sor l):=by
 have hrD:∀ n,(l.getD n Uo).length<=1048576:=λn=>by
  by_cases hn:n<l.length
  ·have : l.getD n Uo=l[n]:=by simp [hn]
   rw [this];exact hr _<|Xv hn
  rw [gdq,gen (by omega)];exact Nat.zero_le _
 unfold aH;refine .bifD (λh => .pure ⟨?_,λ_=>Iff.rfl,Xr _⟩) λh=>?_
 ·match l,h with
  | [],_=>exact .nil
  | [x],_=>simp
  | _::_::_,h=>simp at h;omega
 have h2:2<=l.length:=by omega
 refine Uc.sum (PS:=λq=>Sor l q) (PW:=λq=>Sor l q) ?_ λq hq => .pure hq;refine Uc.loop (λs=>s.1=l/\1<=s.2/\s.2<=(l.length:Int)/\(l.take s.2.toNat).Pairwise ltL) (λs=>((l.length:Int)-s.2).toNat) ⟨rfl,Xt _,by simp only [];omega,?_⟩ λs ⟨e,h1,h3,h4⟩ => ?_
 ·match l,h2 with
  | x::_,_=>simp
 obtain ⟨c,k⟩:=s;simp only at e h1 h3 h4;subst e;unfold bJ;simp only [];refine .bifD (λhlt=>?_) λhge => .pure ?_
 rotate_left
 ·have : k.toNat=c.length:=by omega
  rw [this,List.take_length] at h4;exact ⟨h4,λ_=>Iff.rfl,Xr _⟩
 have hk1:(k-1).toNat=k.toNat-1:=by omega
 refine Uc.sum (PS:=λ_=>c.getD k.toNat Uo≠c.getD (k.toNat-1) Uo) ?_ λ_ hne => .gdI (by omega)<|.pure ⟨⟨rfl,by simp only [];omega,by simp only [];omega,?_⟩,by simp only [];omega⟩
 rotate_left
 ·have := (JP hs h4 (λ_=>Iff.rfl) (by omega) (by omega) hne).1;simp only [];rw [show (k+1).toNat=k.toNat+1 by omega,XB,geq (by omega)];rw [show c.getD k.toNat Uo=c[k.toNat]'(by omega) by simp [show k.toNat<c.length by omega]] at this;simpa using this
 refine .gdD ⟨by omega,hlt⟩<|.gdI (by omega)<|.gdD ⟨by omega,by omega⟩<|(Mj _ _<|hrD _).bind λv hv=>?_;subst hv;rw [hk1];refine .bifD (λhe=>?_) λhne => .pure hne;refine .gdD ⟨by omega,by omega,Xt _⟩ ?_;refine Uc.bind (P:=λz=>(k<=z.2/\z.2<=(c.length:Int))/\z.1.length=c.length/\(z.1.take z.2.toNat).Pairwise ltL/\∀ o,o∈z.1.take z.2.toNat↔o∈c) ?_ λz ⟨⟨z1,z2⟩,z3,z4,z5⟩ => .gdD ⟨by omega,by omega,Xt _⟩<|.gdD ⟨Xt _,by omega,by omega⟩<|.pure ?_
 rotate_left
 ·have e1:(((cpy z.1 (0+z.2.toNat) (Xy ((z.1.length:Int).toNat-z.2.toNat) (Uo:LI))<|(z.1.length:Int).toNat-z.2.toNat).drop (0:Int).toNat).take<|z.2.toNat-(0:Int).toNat)=z.1.take z.2.toNat:=by
   simp only [cpy,Nat.zero_add,show (0:Int).toNat=0 from rfl,List.drop_zero,Nat.sub_zero];rw [if_pos (by omega),Xx,List.take_append_of_le_length (by rw [XC];omega),List.take_take,Nat.min_self]
  simp only [];rw [e1];exact ⟨z4,z5,by simp;omega⟩
 refine Uc.loop (λs=>(1<=s.2.1/\k+s.2.1<=(c.length:Int))/\(k<=s.2.2/\s.2.2<=k+s.2.1-1)/\s.1.length=c.length/\(∀ j:Nat,k+s.2.1-1<=(j:Int)->s.1[j]? = c[j]?)/\(s.1.take s.2.2.toNat).Pairwise ltL/\∀ o,o∈s.1.take s.2.2.toNat↔o∈c.take (k+s.2.1).toNat) (λs=>((c.length:Int)-k-s.2.1).toNat) ⟨⟨Xt _,by simp only [];omega⟩,⟨Xt _,by simp only [];omega⟩,rfl,λ_ _=>rfl,h4,λo=>?_⟩ λs ⟨⟨a1,a2⟩,⟨a3,a4⟩,a5,a6,a7,a8⟩ => ?_
 ·simp only [];rw [show (k+1).toNat=k.toNat+1 by omega];exact (JQ (by omega) (by omega) he o).symm
 obtain ⟨d,k2,kk⟩:=s;simp only at a1 a2 a3 a4 a5 a6 a7 a8;unfold bI;simp only [];have hz:((((c.length:Int).toNat-k.toNat:Nat)):Int)=(c.length:Int)-k:=by omega
 rw [hz];refine .bifD (λhlt2=>?_) λhge => .pure ⟨⟨a3,by simp only [];omega⟩,a5,a7,λo=>?_⟩
 rotate_left
 ·rw [a8,show (k+k2).toNat=c.length by omega,List.take_length]
 have g1:d.getD (0+k.toNat+k2.toNat) Uo=c.getD (k+k2).toNat Uo:=by
  rw [gdq,gdq,a6 _ (by omega),show 0+k.toNat+k2.toNat=(k+k2).toNat by omega]
 have g2:d.getD (0+k.toNat+(k2-1).toNat) Uo=c.getD ((k+k2).toNat-1) Uo:=by
  rw [gdq,gdq,a6 _ (by omega),show 0+k.toNat+(k2-1).toNat=(k+k2).toNat-1 by omega]
 have hn1:(k+(k2+1)).toNat=(k+k2).toNat+1:=by omega
 refine Uc.bind (P:=λz=>(k<=z.2/\z.2<=k+k2)/\z.1.length=c.length/\(∀ j:Nat,k+k2<=(j:Int)->z.1[j]? = c[j]?)/\(z.1.take z.2.toNat).Pairwise ltL/\∀ o,o∈z.1.take z.2.toNat↔o∈c.take ((k+k2).toNat+1)) ?_ λz ⟨⟨z1,z2⟩,z3,z4,z5,z6⟩ => .gdI (by omega)<|.pure ⟨⟨⟨by simp only [];omega,by simp only [];omega⟩,⟨z1,by simp only [];omega⟩,z3,λj hj=>z4 j (by simp only [] at hj;omega),z5,by simp only [hn1];exact z6⟩,by simp only [];omega⟩;refine .gdD ⟨⟨by omega,by omega⟩,by omega⟩<|.gdI (by omega)<|.gdD ⟨⟨by omega,by omega⟩,by omega⟩ ?_;rw [g1,g2];refine (Mj _ _<|hrD _).bind λv hv=>?_;subst hv;rw [<- decide_not];refine .bifD (λhne=>?_) λhe2 => .pure ⟨⟨a3,by simp only [];omega⟩,a5,λj hj=>a6 j (by omega),a7,λo=>?_⟩
 ·have hkl:kk.toNat<d.length:=by omega
  refine .gdD ⟨by omega,by omega⟩<|.gdI (by omega)<|.pure ⟨⟨by simp only [];omega,by simp only [];omega⟩,by simp [a5],λj hj=>?_,?_⟩
  ·simp only [];rw [List.getElem?_set_ne (by omega)];exact a6 j (by omega)
  have e:(d.set kk.toNat<|c.getD (k+k2).toNat Uo).take (kk+1).toNat=d.take kk.toNat++[c.getD (k+k2).toNat Uo]:=by
   rw [show (kk+1).toNat=kk.toNat+1 by omega,XB,List.getElem?_set_self hkl,List.take_set_of_le (Xr _)]
   rfl
  simp only [];rw [e];exact JP hs a7 a8 (by omega) (by omega) hne
 simp only [];rw [a8];exact (JQ (by omega) (by omega) (Decidable.not_not.1 he2) o).symm
theorem KH {l:LL} (hl:l.length<=1099511627776) (hr:∀ r∈l,r.length<=1048576):Uc (gu l) (Sor l):=by
 unfold gu;refine Uc.bind (P:=(· = Hm l)) ?_ λv hv=>?_
 ·unfold iB;exact .gdD (by omega)<|.pure rfl
 subst hv;have hp:=sN l;refine (IZ (Ee l) (by rw [hp.length_eq];exact hl) λr h=>hr r<|hp.mem_iff.1 h).bind λv ⟨v1,v2,v3⟩ => .pure ⟨v1,λo=>(v2 o).trans hp.mem_iff,by rw [<- hp.length_eq];exact v3⟩
def evX (t k:Nat) (x:TW):List TZ:=if x.Op=4 then [] else [⟨t,k,x.Loc,rdX x,wrX x⟩]
def evR (t:Nat) (row:List TW):Nat->List TZ
 | 0=>[]
 | n+1=>evR t row n++evX t n (row.getD n Uo)
def ev0:List TZ:=[⟨-1,0,0,Ur,Uq⟩,⟨-1,1,1,Ur,Uq⟩,⟨-1,2,2,Ur,Uq⟩]
def evP (p:List<|List TW):Nat->List TZ
 | 0=>ev0
 | n+1=>evP p n++evR n (p.getD n Uo) (p.getD n Uo).length
def evs (p:List<|List TW):List TZ:=evP p p.length
theorem Mk (t k:Nat) (x:TW):(evX t k x).length<=1:=by unfold evX;grind
theorem Gf (t:Nat) (row:List TW) (n:Nat):(evR t row n).length<=n:=by
 induction n with
 | zero=>exact Xr _
 | succ n ih=>
  have := Mk t n<|row.getD n Uo;simp only [evR,lla];omega
theorem Gg {p:List (List TW)} (h:Vs p) (n:Nat):(evP p n).length<=3+7*n:=by
 induction n with
 | zero=>exact Xr _
 | succ n ih=>
  have h1:=Gf n (p.getD n Uo) (p.getD n Uo).length;have h2:=h.2 n;simp only [evP,lla];omega
theorem Rw (x:TW):Uc (gQ x) (· = rdX x):=by
 unfold gQ rdX;exact Uc.bind (P:=(· = (x.Op==1||x.Op==5))) (.bif (λh => .pure<|by simp_all) λh => .pure<|by simp_all) λv hv => .pure hv
theorem Qh (x:TW):Uc (fB x) (· = wrX x):=by
 unfold fB wrX;exact Uc.bind (P:=(· = (x.Op==2||x.Op==3))) (.bif (λh => .pure<|by simp_all) λh => .pure<|by simp_all) λv hv=>Uc.bind (P:=(· = (x.Op==2||x.Op==3||x.Op==5))) (.bif (λh => .pure<|by simp_all) λh => .pure<|by simp_all) λv hv => .pure hv
theorem Gh {p:List (List TW)} (hp:Vs p):Uc (i9 p) (· = evs p):=by
 have hpl:=hp.1;unfold i9;refine Uc.bind (P:=(· = ev0)) ?_ λl hl=>Uc.bind (P:=(· = evs p)) ?_ λv hv => .pure hv
 ·refine Uc.loop (λs=>∃ n:Nat,n<=3/\s=(ev0.take n,(n:Int))) (λs=>(3-s.2).toNat) ⟨0,by omega,rfl⟩ λs ⟨n,h1,h2⟩ => ?_;subst h2;unfold w9;refine .bifD (λh=>?_) λh => .pure ?_
  ·match n,h1,h with
   | 0,_,_=>exact .gdC (by decide) rfl (.gdI (by decide)<|.pure ⟨⟨1,by omega,rfl⟩,by decide⟩)
   | 1,_,_=>exact .gdC (by decide) rfl (.gdI (by decide)<|.pure ⟨⟨2,by omega,rfl⟩,by decide⟩)
   | 2,_,_=>exact .gdC (by decide) rfl (.gdI (by decide)<|.pure ⟨⟨3,by omega,rfl⟩,by decide⟩)
   | 3,_,h=>omega
  have : n=3:=by simp only [] at h;omega
  subst this
  rfl
 subst hl;refine Uc.loop (λs=>∃ n:Nat,n<=p.length/\s=(evP p n,(n:Int))) (λs=>((p.length:Int)-s.2).toNat) ⟨0,by omega,rfl⟩ λs ⟨n,h1,h2⟩ => ?_;subst h2;unfold vD;refine .bifD (λh=>?_) λh => .pure ?_
 ·have hlen:=Gg hp n;have hrow:=hp.2 n;simp only [] at h;refine Uc.bind (P:=(· = evP p (n+1))) (.gdD ⟨by omega,h⟩ ?_) λv hv => .gdI (by omega)<|.pure ⟨⟨n+1,by omega,by simp_all⟩,by omega⟩;refine Uc.loop (λt=>∃ k:Nat,k<=(p.getD n Uo).length/\t=(evP p n++evR n (p.getD n Uo) k,(k:Int))) (λt=>(((p.getD n Uo).length:Int)-t.2).toNat) ⟨0,by omega,by simp [evR]⟩ λt ⟨k,k1,k2⟩ => ?_;subst k2;unfold vC J;simp only [tnn];refine .bifD (λhk=>?_) λhk => .pure ?_
  ·have hl2:=Gf n (p.getD n Uo) k;refine Uc.bind (P:=(· = evP p n++evR n (p.getD n Uo) (k+1))) (.gdD ⟨by omega,hk⟩ ?_) λv hv => .gdI (by omega)<|.pure ⟨⟨k+1,by omega,by simp_all⟩,by omega⟩;refine .bif (λho=>?_) λho => .pure ?_
   ·refine (JO _).bind λa ha=>(Ef _).bind λb hb => .gdC (by grind) rfl<|.pure ?_;have h4 : ¬ ((p.getD n Uo).getD k Uo).Op=4:=by simpa using ho
    subst ha hb;simp only [evR,evX,if_neg h4,Xx]
   have h4:((p.getD n Uo).getD k Uo).Op=4:=by simpa using ho
   simp only [evR,evX,if_pos h4,XD]
  have : k=(p.getD n Uo).length:=by omega
  subst this
  rfl
 have : n=p.length:=by simp only [] at h;omega
 subst this
 rfl
theorem I0 {p:List (List TW)} (hp:Vs p):Uc (iF p) (· = evs p):=by
 have hpl:=hp.1;unfold iF;refine Uc.bind (P:=(· = ev0)) ?_ λl hl=>Uc.bind (P:=(· = evs p)) ?_ λv hv => .pure hv
 ·refine Uc.loop (λs=>∃ n:Nat,n<=3/\s=(ev0.take n,(n:Int))) (λs=>(3-s.2).toNat) ⟨0,by omega,rfl⟩ λs ⟨n,h1,h2⟩ => ?_;subst h2;unfold ut;refine .bifD (λh=>?_) λh => .pure ?_
  ·match n,h1,h with
   | 0,_,_=>exact .gdC (by decide) rfl (.gdI (by decide)<|.pure ⟨⟨1,by omega,rfl⟩,by decide⟩)
   | 1,_,_=>exact .gdC (by decide) rfl (.gdI (by decide)<|.pure ⟨⟨2,by omega,rfl⟩,by decide⟩)
   | 2,_,_=>exact .gdC (by decide) rfl (.gdI (by decide)<|.pure ⟨⟨3,by omega,rfl⟩,by decide⟩)
   | 3,_,h=>omega
  have : n=3:=by simp only [] at h;omega
  subst this
  rfl
 subst hl;refine Uc.loop (λs=>∃ n:Nat,n<=p.length/\s=(evP p n,(n:Int))) (λs=>((p.length:Int)-s.2).toNat) ⟨0,by omega,rfl⟩ λs ⟨n,h1,h2⟩ => ?_;subst h2;unfold sU;refine .bifD (λh=>?_) λh => .pure ?_
 ·have hlen:=Gg hp n;have hrow:=hp.2 n;simp only [] at h;refine Uc.bind (P:=(· = evP p (n+1))) ?_ λv hv => .gdI (by omega)<|.pure ⟨⟨n+1,by omega,by simp_all⟩,by omega⟩;refine Uc.loop (λt=>∃ k:Nat,k<=(p.getD n Uo).length/\t=(evP p n++evR n (p.getD n Uo) k,(k:Int))) (λt=>(((p.getD n Uo).length:Int)-t.2).toNat) ⟨0,by omega,by simp [evR]⟩ λt ⟨k,k1,k2⟩ => ?_;subst k2;unfold sS J;simp only [tnn];refine .gdD ⟨by omega,h⟩<|.bifD (λhk=>?_) λhk => .pure ?_
  ·have hl2:=Gf n (p.getD n Uo) k;refine Uc.bind (P:=(· = evP p n++evR n (p.getD n Uo) (k+1))) (.gdD ⟨by omega,hk⟩ ?_) λv hv => .gdI (by omega)<|.pure ⟨⟨k+1,by omega,by simp_all⟩,by omega⟩;refine .bif (λho=>?_) λho => .pure ?_
   ·refine (Rw _).bind λa ha=>(Qh _).bind λb hb => .gdC (by grind) rfl<|.pure ?_;have h4 : ¬ ((p.getD n Uo).getD k Uo).Op=4:=by simpa using ho
    subst ha hb;simp only [evR,evX,if_neg h4,Xx]
   have h4:((p.getD n Uo).getD k Uo).Op=4:=by simpa using ho
   simp only [evR,evX,if_pos h4,XD]
  have : k=(p.getD n Uo).length:=by omega
  subst this
  rfl
 have : n=p.length:=by simp only [] at h;omega
 subst this
 rfl
theorem kS {l:LI} {i j:Nat} {v:Int} (hj:i<l.length):(l.set i v).getD j Uo=if j=i then v else l.getD j Uo:=by
 grind
theorem AC {l:LI} {i:Nat} (h:i<l.length):l.getD i Uo∈l:=by
 simp_all
theorem JR {l:LI} {P:Int->Prop} (h:∀ v∈l,P v) {i:Nat} {x:Int} (hx:P x):∀ v∈l.set i x,P v:=by grind
structure Rel (p:List (List TW)) (u:T9) (z:ZSt):Prop where
 up:u.p=p
 al:z.at_.length=p.length
 a:∀ i:Nat,i<p.length->z.at_.getD i Uo=Z3b.get u.pc i
 al1:∀ i:Nat,i<p.length->0<=z.at_.getD i Uo/\z.at_.getD i Uo<=((p.getD i Uo).length:Int)
 rl:z.regs.length=3*p.length
 r:∀ t g:Nat,t<p.length->g<3->z.regs.getD (3*t+g) Uo=Z3b.get (Z33.get u.reg t) g
 rv:∀ v∈z.regs,0<=v/\v<=3
 ml:z.mem.length=3
 m:∀ l:Nat,l<3->z.mem.getD l Uo=Z3b.get u.mem l
 mv:∀ v∈z.mem,0<=v/\v<=3
 b:z.buf=[]
section
variable {p:List (List TW)} {u:T9} {z:ZSt}
theorem Rel.regv (h:Rel p u z) {t g:Nat} (ht:t<p.length) (hg:g<3):0<=Z3b.get (Z33.get u.reg t) g/\Z3b.get (Z33.get u.reg t) g<=3:=by
 rw [<- h.r t g ht hg];exact h.rv _<|AC (by rw [h.rl];omega)
theorem Rel.memv (h:Rel p u z) {l:Nat} (hl:l<3):0<=Z3b.get u.mem l/\Z3b.get u.mem l<=3:=by
 rw [<- h.m l hl];exact h.mv _<|AC (by rw [h.ml];omega)
theorem Gi (hp:PV p) (h:Rel p u z) {t:Int} (ht:0<=t/\t<(p.length:Int)):Uc (dW u t) λv=>v.2=Uu (z.at_.getD t.toNat Uo<((p.getD t.toNat Uo).length:Int))/\(v.2=Uq->v.1=(p.getD t.toNat Uo).getD (z.at_.getD t.toNat Uo).toNat Uo):=by
 have hl:=hp.vs.1;have hr:=hp.vs.2 t.toNat;have h1:=h.al1 t.toNat (by omega);have h2:=h.a t.toNat (by omega);rw [XG ht.1] at h2;unfold dW J;rw [h.up,<- h2];refine .gdD ⟨ht.1,by omega⟩<|.gdI (by omega)<|.gdD ht<|.bifD (λhle => .pure ⟨?_,nofun⟩) λhle => .gdD ⟨h1.1,by omega⟩<|.pure ⟨?_,λ_=>rfl⟩
 ·simp only [];rw [decide_eq_false (by omega)]
 simp only [];rw [decide_eq_true (by omega)]
theorem Ml (hp:PV p) (h:Rel p u z):Uc (mf ⟨u⟩) λl=>l.length<=3/\∀ m:Int,m∈l↔(0<=m/\m<(p.length:Int))/\z.at_.getD m.toNat Uo<((p.getD m.toNat Uo).length:Int):=by
 have hl:=hp.vs.1;unfold mf;refine Uc.bind (P:=λl=>l.length<=3/\∀ m:Int,m∈l↔(0<=m/\m<(p.length:Int))/\z.at_.getD m.toNat Uo<((p.getD m.toNat Uo).length:Int)) ?_ λv hv => .pure hv;refine Uc.loop (λs=>0<=s.2/\s.2<=(p.length:Int)/\(s.1.length:Int)<=s.2/\∀ m:Int,m∈s.1↔(0<=m/\m<s.2)/\z.at_.getD m.toNat Uo<((p.getD m.toNat Uo).length:Int)) (λs=>((p.length:Int)-s.2).toNat) ⟨Xt _,by simp only [];omega,by simp,λm=>⟨nofun,λ⟨⟨h1,h2⟩,_⟩=>absurd h2<|by simp only [];omega⟩⟩ λs ⟨h1,h2,h3,h4⟩ => ?_;unfold sZ;simp only [h.up];refine .bifD (λhlt=>?_) λhge => .pure ?_
 ·refine Uc.bind (P:=λl:LI=>(l.length:Int)<=s.2+1/\∀ m:Int,m∈l↔(0<=m/\m<s.2+1)/\z.at_.getD m.toNat Uo<((p.getD m.toNat Uo).length:Int)) ?_ λv ⟨v1,v2⟩ => .gdI (by omega)<|.pure ⟨⟨by simp only [];omega,by simp only [];omega,v1,v2⟩,by simp only [];omega⟩;refine (Gi hp h ⟨h1,hlt⟩).bind λv ⟨e1,_⟩ => .bif (λhb => .gd (aT (by omega) rfl)<|.pure ⟨by rw [lla];simp;omega,λm=>?_⟩) λhb => .pure ⟨by omega,λm=>?_⟩
  ·rw [hb] at e1;have e1:=of_decide_eq_true e1.symm;rw [Xw,h4,XF]
   constructor
   ·rintro (⟨⟨g1,g2⟩,g3⟩ | rfl)
    ·exact ⟨⟨g1,by omega⟩,g3⟩
    exact ⟨⟨h1,by omega⟩,e1⟩
   rintro ⟨⟨g1,g2⟩,g3⟩
   by_cases e:m=s.2
   ·exact .inr e
   exact .inl ⟨⟨g1,by omega⟩,g3⟩
  rw [hb] at e1;have e1:=of_decide_eq_false e1.symm;rw [h4]
  constructor
  ·rintro ⟨⟨g1,g2⟩,g3⟩;exact ⟨⟨g1,by omega⟩,g3⟩
  rintro ⟨⟨g1,g2⟩,g3⟩;refine ⟨⟨g1,?_⟩,g3⟩
  by_cases e:m=s.2
  ·subst e;exact absurd g3 e1
  omega
 have : s.2=(p.length:Int):=by omega
 rw [<- this];exact ⟨by omega,h4⟩
theorem Hn (s:LI) (v:Int) (hs:s.length<=1048576):Uc (dN s v) (· = Uu (v∈s)):=by
 unfold dN;refine Uc.bind (P:=λr:Int=>0<=r↔v∈s) ?_ λr hr => .pure<|decide_eq_decide.2 hr;unfold bK;refine Uc.sum (PS:=λ_=>v∉s) (PW:=λr:Int=>0<=r↔v∈s) ?_ λ_ hn => .pure ⟨λh=>absurd h (by decide),λh=>absurd h hn⟩;refine Uc.loop (λi=>0<=i/\i<=(s.length:Int)/\∀ j:Nat,(j:Int)<i->s[j]? ≠ Us v) (λi=>((s.length:Int)-i).toNat) ⟨Xt _,by omega,λj hj=>absurd hj<|by omega⟩ λi ⟨h1,h2,h3⟩ => ?_;unfold gV J;refine .bifD (λhlt => .gdD ⟨h1,hlt⟩ ?_) λhge => .pure λhm=>?_
 ·have hi:i.toNat<s.length:=by omega
  have e:s.getD i.toNat Uo=s[i.toNat]:=by rw [gdq,geq hi];rfl
  rw [e];refine .bif (λhb => .pure ⟨λ_=>?_,λ_=>h1⟩) λhb => .gdI (by omega)<|.pure ⟨⟨by omega,by omega,λj hj=>?_⟩,by omega⟩
  ·have : v=s[i.toNat]:=by simpa using hb
   rw [this];exact Xv _
  grind
 obtain ⟨j,hj,rfl⟩:=XJ hm
 grind
def Rx (z:ZSt) (t:Int) (x:TW):Int:=if x.Op=3 then z.regs.getD (t*3+x.Reg).toNat Uo else x.Val
def Tk (z:ZSt) (t:Int) (x:TW):ZSt:=
 ⟨z.at_.set t.toNat<|z.at_.getD t.toNat Uo+1,if rdX x=Uq then z.regs.set (t*3+x.Reg).toNat (z.mem.getD x.Loc.toNat Uo) else z.regs,if wrX x=Uq then z.mem.set x.Loc.toNat (Rx z t x) else z.mem,[]⟩
theorem Mm (hp:PV p) (h:Rel p u z) {t:Int} (ht:0<=t/\t<(p.length:Int)) (hlt:z.at_.getD t.toNat Uo<((p.getD t.toNat Uo).length:Int)) :
  Uc (mg ⟨u⟩ t) (· = ⟨Sk u t<|(p.getD t.toNat Uo).getD (z.at_.getD t.toNat Uo).toNat Uo⟩):=by
 have hl:=hp.vs.1;have h1:=h.al1 t.toNat (by omega);have h2:=h.a t.toNat (by omega);have hr7:=hp.vs.2 t.toNat;rw [XG ht.1] at h2;have hx:=hp.ins t.toNat (z.at_.getD t.toNat Uo).toNat (by omega) (by omega);unfold mg;refine (Gi hp h ht).bind λv ⟨e1,e2⟩ => ?_;have e3:=e2<|e1.trans<|decide_eq_true hlt;rw [<- e3] at hx ⊢;generalize v.1=x at hx ⊢;obtain ⟨x1,x2,x3,x4,x5,x6⟩:=hx;refine .gdD ⟨ht.1,by omega⟩<|.gdY (by simp only [];omega) ?_;have hrg:=λg hg=>h.regv (t:=t.toNat) (g:=g) (by omega) hg;rw [XG ht.1] at hrg;refine Uc.bind (P:=(· = Qg u t x)) ?_ λv4 hv4=>?_
 ·unfold lC Qg;refine .bif (λho => .gdD ⟨ht.1,by omega⟩<|.gdD ⟨x3,by simp only [];omega⟩<|.pure ?_) λho => .gdY (by simp only [];omega) (.pure ?_)
  ·rw [if_pos (by simpa using ho)]
  rw [if_neg (by simpa using ho)]
 subst hv4;have hr:Uc (bif rdX x then
   gd (Uu<|0<=x.Loc/\x.Loc<3) <|
   gd (Uu<|0<=x.Reg/\x.Reg<3) <|
   Us (Z33.set u.reg t<|Z3b.set (Z33.get u.reg t) x.Reg<|Z3b.get u.mem x.Loc)
  else Us u.reg) (· = if rdX x=Uq then Z33.set u.reg t (Z3b.set (Z33.get u.reg t) x.Reg (Z3b.get u.mem x.Loc)) else u.reg):=
  .bif (λhb => .gdD ⟨x1,by omega⟩<|.gdD ⟨x3,by omega⟩<|.pure<|by rw [if_pos hb]) λhb => .pure (by rw [if_neg (by simp [hb])])
 refine Uc.bind (P:=λw=>(⟨⟨w.1,w.2.1,w.2.2.1⟩,⟨w.2.2.2.1,w.2.2.2.2.1,w.2.2.2.2.2.1⟩,⟨w.2.2.2.2.2.2.1,w.2.2.2.2.2.2.2.1,w.2.2.2.2.2.2.2.2⟩⟩:Z33)=if rdX x=Uq then Z33.set u.reg t (Z3b.set (Z33.get u.reg t) x.Reg<|Z3b.get u.mem x.Loc) else u.reg) ?_ λw5 hw5=>?_
 ·refine (JO _).bind λb hb=>?_;have hb':b=rdX x:=hb;refine .bif (λhc => .gdD ⟨x1,by omega⟩<|.gdD ⟨x3,by omega⟩<|.pure ?_) λhc => .pure ?_
  ·rw [if_pos (by rw [<- hb'];exact hc)]
  rw [if_neg (by rw [<- hb',hc];decide)]
 refine Uc.bind (P:=λw=>(⟨w.1,w.2.1,w.2.2⟩:Z3b)=if wrX x=Uq then Z3b.set u.mem x.Loc (Qg u t x) else u.mem) ?_ λw10 hw10 => .pure ?_
 ·refine (Ef _).bind λb hb=>?_;have hb':b=wrX x:=hb;refine .bif (λhc => .gdD ⟨x1,by omega⟩<|.pure ?_) λhc => .pure ?_
  ·rw [if_pos (by rw [<- hb'];exact hc)]
  rw [if_neg (by rw [<- hb',hc];decide)]
 unfold Sk;rw [hw5,hw10]
theorem Rel.after (hp:PV p) (h:Rel p u z) {t:Int} (ht:0<=t/\t<(p.length:Int)) (hlt:z.at_.getD t.toNat Uo<((p.getD t.toNat Uo).length:Int)) {x:TW} (hx:InR x):Rel p (Sk u t x) (Tk z t x):=by
 have hl:=hp.vs.1;obtain ⟨n,rfl⟩:∃ n:Nat,t=n:=⟨t.toNat,by omega⟩;simp only [tnn] at hlt;have hn:n<p.length:=by omega
 obtain ⟨x1,x2,x3,x4,x5,x6⟩:=hx;obtain ⟨l,hlx⟩:∃ l:Nat,x.Loc=l:=⟨x.Loc.toNat,by omega⟩;obtain ⟨g,hgx⟩:∃ g:Nat,x.Reg=g:=⟨x.Reg.toNat,by omega⟩;have e3:((n:Int)*3+(g:Int)).toNat=3*n+g:=by omega
 have hval:Qg u n x=Rx z n x:=by
  unfold Qg Rx
  split
  ·rw [hgx,e3,h.r n g hn (by omega)]
  rfl
 have hvv:0<=Rx z n x/\Rx z n x<=3:=by
  rw [<- hval];unfold Qg
  split
  ·rw [hgx];exact h.regv hn (by omega)
  omega
 unfold Sk Tk;simp only [tnn];refine ⟨h.up,by simp only [Xu];exact h.al,λi hi=>?_,λi hi=>?_,?_,λt' g' ht' hg' => ?_,?_,?_,λl' hl' => ?_,?_,rfl⟩
 ·simp only [];rw [kS (by rw [h.al];exact hn),Gd _ _ _ _ (by omega) (by omega),h.a i hi,h.a n hn]
  by_cases e:i=n
  ·rw [if_pos e,if_pos (by omega)]
  rw [if_neg e,if_neg (by omega)]
 ·simp only [];rw [kS (by rw [h.al];exact hn)]
  by_cases e:i=n
  ·subst e;have := h.al1 i hi;rw [if_pos rfl];omega
  rw [if_neg e];exact h.al1 i hi
 ·simp only []
  split
  ·rw [Xu];exact h.rl
  exact h.rl
 ·simp only []
  split
  ·rw [hlx,hgx,e3,tnn,kS (by rw [h.rl];omega),Mg _ _ _ _ (by omega) (by omega)]
   by_cases e:t'=n
   ·subst e;rw [if_pos rfl,Gd _ _ _ _ (by omega) (by omega)]
    by_cases e2:g'=g
    ·subst e2;rw [if_pos rfl,if_pos rfl,h.m l (by omega)]
    rw [if_neg (by omega),if_neg (by omega)];exact h.r t' g' ht' hg'
   rw [if_neg (by omega),if_neg (by omega)];exact h.r t' g' ht' hg'
  exact h.r t' g' ht' hg'
 ·simp only []
  split
  ·refine JR h.rv ?_;rw [hlx,tnn,h.m l (by omega)];exact h.memv (by omega)
  exact h.rv
 ·simp only []
  split
  ·rw [Xu];exact h.ml
  exact h.ml
 ·simp only []
  split
  ·rw [hlx,tnn,kS (by rw [h.ml];omega),Gd _ _ _ _ (by omega) (by omega),hval]
   by_cases e:l'=l
   ·rw [if_pos e,if_pos (by omega)]
   rw [if_neg e,if_neg (by omega)];exact h.m l' hl'
  exact h.m l' hl'
 simp only []
 split
 ·exact JR h.mv hvv
 exact h.mv
def Good (p:List<|List TW) (s:LI) (n:Nat):Prop:=∀ j,j<n->(0<=s.getD j Uo/\s.getD j Uo<(p.length:Int))/\(s.take j).count (s.getD j Uo)<(p.getD (s.getD j Uo).toNat Uo).length
theorem BN {s:LI} {i:Nat} (h:i<s.length) (v:Int):(s.take<|i+1).count v=(s.take i).count v+if s.getD i Uo=v then 1 else 0:=by
 have e:s.getD i Uo=s[i]:=by rw [gdq,geq h];rfl
 rw [<- XH h,List.count_append,List.count_singleton,e]
 simp_all
end
section
variable {p:List (List TW)} {u:T9} {z:ZSt}
def Open (p:List<|List TW) (z:ZSt):Prop:=∃ t:Nat,t<p.length/\z.at_.getD t Uo<((p.getD t Uo).length:Int)
theorem Mo (hp:PV p) (h:Rel p u z):Uc (kK ⟨u⟩) λd=>d=Uq ↔ ¬ Open p z:=by
 have hl:=hp.vs.1;unfold kK kJ;refine Uc.bind (P:=λd:Bool=>d=Uq ↔ ¬ Open p z) ?_ λv hv => .pure hv;refine Uc.sum (PS:=λ_ => ¬ Open p z) (PW:=λd:Bool=>d=Uq ↔ ¬ Open p z) ?_ λ_ hn => .pure ⟨λ_=>hn,λ_=>rfl⟩;refine Uc.loop (λi=>0<=i/\i<=(p.length:Int)/\∀ t:Nat,(t:Int)<i -> ¬ z.at_.getD t Uo<((p.getD t Uo).length:Int)) (λi=>((p.length:Int)-i).toNat) ⟨Xt _,by omega,λt ht=>absurd ht<|by omega⟩ λi ⟨h1,h2,h3⟩ => ?_;unfold m5;simp only [h.up];refine .bifD (λh0=>(Gi hp h ⟨h1,h0⟩).bind λv ⟨e1,_⟩ => ?_) λhge => .pure ?_
 ·refine .bif (λhb => .pure ⟨nofun,λhn=>absurd ⟨i.toNat,by omega,of_decide_eq_true<|e1.symm.trans hb⟩ hn⟩) λhb => .gdI (by omega)<|.pure ⟨⟨by omega,by omega,λt ht=>?_⟩,by omega⟩
  by_cases e:t=i.toNat
  ·subst e;rw [hb] at e1;exact of_decide_eq_false e1.symm
  exact h3 t (by omega)
 rintro ⟨t,ht,hlt⟩;exact h3 t (by omega) hlt
theorem Qi (hp:p.length<=3) (h:Rel p u z) {n:Nat} (hn:n<p.length) (base:LI) (hb:base.length<=1000) {step:(List Int×Int)->Option ((List Int×Int) ⊕ LI)} (hs:∀ s:List Int×Int,step s=bif Uu (s.2<(3:Int)) then
  gd (Uu<|0<=s.2/\s.2<3)<|gd (TT .i64<|Z3b.get (Z33.get u.reg (n:Int)) s.2)<|gd (bw (s.1.length+1) 8)<|gd (TT .i64<|s.2+(1:Int)) <|
  Us (.inl ((s.1++[(Z3b.get (Z33.get u.reg (n:Int)) s.2)]),(s.2+(1:Int)))) else Us (.inr s.1)):Uc (loopO step (base,(0:Int))) (· = base++(z.regs.drop (3*n)).take 3):=by
 refine Uc.loop (λs=>∃ k:Nat,k<=3/\s=(base++(z.regs.drop<|3*n).take k,(k:Int))) (λs=>(3-s.2).toNat) ⟨0,by omega,by simp⟩ λs ⟨k,h1,h2⟩ => ?_;subst h2;rw [hs];refine .bifD (λhk=>?_) λhk => .pure ?_
 ·simp only [] at hk;have hv:=h.regv hn (g:=k) (by omega);have hr:=h.r n k hn (by omega);refine .gdD ⟨by simp only [];omega,hk⟩ (.gdI (by simp only [];omega)<|.gd (aT ?_ rfl)<|.gdI (by simp only [];omega)<|.pure ⟨⟨k+1,by omega,?_⟩,by simp only [];omega⟩)
  ·simp only [lla,XC,List.length_drop];omega
  simp only [];rw [<- hr,Xx];have hkl:3*n+k<z.regs.length:=by rw [h.rl];omega
  have hd:(z.regs.drop<|3*n).take (k+1)=(z.regs.drop<|3*n).take k++[z.regs.getD (3*n+k) Uo]:=by
   rw [<- XH (by rw [List.length_drop];omega),List.getElem_drop,gdq,geq hkl]
   rfl
  rw [hd]
  rfl
 simp only [] at hk;have : k=3:=by omega
 subst this
 rfl
theorem Hp (hp:PV p) (h:Rel p u z):Uc (dQ u) (· = z.regs++z.mem):=by
 have hl:=hp.vs.1;unfold dQ;refine Uc.bind (P:=(· = z.regs)) ?_ λv hv=>?_
 ·refine Uc.loop (λs=>∃ n:Nat,n<=p.length/\s=(z.regs.take<|3*n,(n:Int))) (λs=>((p.length:Int)-s.2).toNat) ⟨0,by omega,by simp⟩ λs ⟨n,h1,h2⟩ => ?_;subst h2;unfold m6;simp only [h.up];refine .bifD (λhk=>?_) λhk => .pure ?_
  ·refine Uc.bind (P:=(· = z.regs.take (3*n)++(z.regs.drop<|3*n).take 3)) (.gdD ⟨by omega,by omega⟩<|Qi hl h (n:=n) (by omega) _ (by rw [XC];omega) λs=>by unfold lS;rfl) λv hv => .gdI (by omega) (.pure ⟨⟨n+1,by omega,?_⟩,by simp only [];omega⟩);subst hv;rw [show 3*(n+1)=3*n+3 by omega,List.take_add]
   rfl
  have : n=p.length:=by omega
  subst this;exact XK (by rw [h.rl];exact Xr _)
 subst hv;refine Uc.bind (P:=(· = z.regs++z.mem)) ?_ λv hv => .pure hv;refine Uc.loop (λs=>∃ k:Nat,k<=3/\s=(z.regs++z.mem.take k,(k:Int))) (λs=>(3-s.2).toNat) ⟨0,by omega,by simp⟩ λs ⟨k,h1,h2⟩ => ?_;subst h2;unfold lT;have hrl:=h.rl;have hml:=h.ml;refine .bifD (λhk=>?_) λhk => .pure ?_
 ·simp only [] at hk;have hv:=h.memv (l:=k) (by omega);have hm:=h.m k (by omega);refine .gdD ⟨by simp only [];omega,hk⟩ (.gdI (by simp only [];omega)<|.gd (aT (by simp only [lla,XC];omega) rfl)<|.gdI (by simp only [];omega)<|.pure ⟨⟨k+1,by omega,?_⟩,by simp only [];omega⟩);simp only [];rw [<- hm,Xx];have hd:z.mem.take (k+1)=z.mem.take k++[z.mem.getD k Uo]:=by
   rw [<- XH (by omega),gdq,geq (by omega)]
   rfl
  rw [hd]
  rfl
 simp only [] at hk;have : k=3:=by omega
 subst this;simp only [];rw [XK (by omega)]
def u0 (p:List<|List TW):T9:=⟨p,⟨0,0,0⟩,⟨⟨0,0,0⟩,⟨0,0,0⟩,⟨0,0,0⟩⟩,⟨0,0,0⟩⟩
theorem Qj {s:LI} {u':T9} {d:Bool} {o:LI} (hI:aU p=Us Uq) (g1:loopO (bC s) ((0:Int),⟨u0 p⟩)=Us (.inl ⟨u'⟩)) (hd:kK ⟨u'⟩=Us d) (ho:dQ u'=Us o) :
  Uc (kv p s) (· = bif d then (o,Uq) else ([],Ur)):=by
 unfold kv;refine (Uc.of (P:=(· = Uq)) hI rfl).bind λv hv => .bif (λh=>by subst hv;simp at h) λ_=>?_;refine Uc.bind (P:=(· = ⟨u0 p⟩)) (.pure rfl) λv3 h3=>?_;subst h3;refine Uc.bind (P:=(· = bif d then (o,Uq) else ([],Ur))) ?_ λv hv => .pure (by rw [hv]);unfold gW;refine Uc.bind (P:=(· = (Us ⟨u'⟩,Uq))) (by unfold je;exact .sumL (.of g1 rfl)<|.pure rfl) λv hv=>?_;subst hv;refine Uc.bind (P:=(· = !d)) (.bif (λh=>by simp at h) λ_ => .gd rfl ((Uc.of (P:=(· = d)) hd rfl).bind λv hv => .pure<|by rw [hv])) λb hb=>?_;subst hb
 cases d with
 | true=>exact .gd rfl ((Uc.of (P:=(· = o)) ho rfl).bind λv hv => .pure<|by rw [hv];rfl)
 | false=>exact .pure rfl
def Whole (p:List<|List TW) (s:LI):Prop:=bS (p.map λr=>r.map qw)=Uq/\Good p s s.length/\∀ t:Nat,t<p.length->s.count (t:Int)=(p.getD t Uo).length
end
instance:DecidableEq TW:=λa b=>decidable_of_iff (a.Op=b.Op/\a.Loc=b.Loc/\a.Reg=b.Reg/\a.Val=b.Val) ⟨λ⟨h1,h2,h3,h4⟩=>by cases a;cases b;simp only at h1 h2 h3 h4;subst h1 h2 h3 h4;rfl,λh=>by subst h;exact ⟨rfl,rfl,rfl,rfl⟩⟩
theorem Qk:((List.range 25).all λn=>Uu<|pK 1 (n:Int)=Us (0,(n:Int)))=Uq:=by decide +kernel
theorem Ry {n:Nat} (h:n<25):nT 1 (n:Int)=Us (0,(n:Int)):=by
 have := List.all_eq_true.1 Qk n<|List.mem_range.2 h;unfold nT;rw [of_decide_eq_true this]
 rfl
theorem KI {n:Nat} (h:n<25) (h0:0<n) (c:Int):Uc (eH [c] (n:Int)) (· = List.replicate n c):=by
 unfold eH;refine Uc.bind (P:=λ_=>True) (.bifD (λh=>absurd h<|by omega) λ_ => .pure trivial) λ_ _ => .gd (Ph<|by simp)<|.gd (Ph<|by omega) ?_;refine (Uc.of (P:=(· = (0,(n:Int)))) (Ry h) rfl).bind λv5 h5=>?_;subst h5;refine Uc.bind (P:=λ_=>True) (Uc.bind (P:=(· = false)) (.bifD (λh=>absurd h<|Int.lt_irrefl 0) λ_ => .pure<|by simp only [];rw [decide_eq_false (by omega)]) λb hb => .bif (λh=>by subst hb;cases h) λ_ => .pure trivial) λ_ _ => .gdI (by simp only [];omega) (.gdD (by simp only [];omega) ?_);simp only [tnn,List.length_replicate];refine Uc.bind (P:=(· = List.replicate n c)) ?_ λv hv => .pure hv;refine Uc.loop (λs=>∃ (k:Nat) (r:LI),0<k/\k<=n/\s.2=(k:Int)/\s.1=List.replicate k c++r/\r.length=n-k) (λs=>((n:Int)-s.2).toNat) ⟨1,List.replicate (n-1) default,by omega,by omega,by simp;omega,?_,by simp⟩ λs ⟨k,r,k0,k1,k2,k3,k4⟩ => ?_
 ·unfold cpy;rw [if_pos (by simp)];simp only [List.take_zero,List.nil_append,List.length_singleton,List.drop_replicate];rw [show min 1 n=1 by omega]
  rfl
 obtain ⟨l,m⟩:=s;simp only at k2 k3;subst k2;have hl:l.length=n:=by rw [k3,lla,List.length_replicate,k4];omega
 unfold fD;simp only [hl,tnn,Int.toNat_zero,Nat.zero_add,List.drop_zero,Nat.sub_zero];refine .bifD (λhk=>?_) λhk => .pure ?_
 ·have ht:l.take k=List.replicate k c:=by rw [k3,List.take_append_of_le_length (by simp),List.take_of_length_le (by simp)]
  simp only [ht,List.length_replicate];refine .gdD (by omega)<|.gdD (by omega)<|.gdI (by omega)<|.pure ⟨⟨k+min k (n-k),r.drop<|min k<|n-k,by omega,by omega,by simp,?_,by rw [List.length_drop];omega⟩,by simp only [];omega⟩;unfold cpy;rw [if_pos (by omega),ht];simp only [List.length_replicate,List.take_replicate];rw [show min (min k<|n-k) k=min k (n-k) by omega,List.replicate_append_replicate,k3,List.drop_append,List.length_replicate,List.drop_of_length_le (by simp),List.nil_append,Nat.add_sub_cancel_left]
 have : k=n:=by omega
 subst this;have : r=[]:=List.eq_nil_of_length_eq_zero (by omega);rw [k3,this,List.append_nil]
section
variable {p:List (List TW)}
def base (p:List<|List TW) (t k:Nat):Nat:=(evP p t).length+(evR t (p.getD t default) k).length
def num (p:List<|List TW) (t k:Nat):Int:=if ((p.getD t Uo).getD k Uo).Op=4 then -1 else (base p t k:Int)
theorem Ql (t:Nat) (row:List TW):∀ {n m:Nat},n<=m->evR t row n <+: evR t row m:=by
 intro n m h
 induction h with
 | refl=>simp_all
 | step _ ih=>exact ih.trans (List.prefix_append _ _)
theorem BO (p:List<|List TW):∀ {n m:Nat},n<=m->evP p n <+: evP p m:=by
 intro n m h
 induction h with
 | refl=>simp_all
 | step _ ih=>exact ih.trans (List.prefix_append _ _)
theorem JS {l m:List TZ} (h:l <+: m) {i:Nat} (hi:i<l.length):m.getD i Uo=l.getD i Uo/\i<m.length:=by
 obtain ⟨r,rfl⟩:=h
 grind
theorem Mq {t k:Nat} (ht:t<p.length) (hk:k<(p.getD t Uo).length) (ho : ¬ ((p.getD t Uo).getD k Uo).Op=4) :
  (evs p).getD (base p t k) Uo=⟨t,k,((p.getD t Uo).getD k Uo).Loc,rdX<|(p.getD t Uo).getD k Uo,wrX<|(p.getD t Uo).getD k Uo⟩/\base p t k<(evs p).length:=by
 have h1:evP p t++(evR t (p.getD t Uo) k++[⟨t,k,((p.getD t Uo).getD k Uo).Loc,rdX<|(p.getD t Uo).getD k Uo,wrX<|(p.getD t Uo).getD k Uo⟩]) <+: evs p:=by
  refine XL ?_<|BO p (show t+1<=p.length by omega);refine (List.prefix_append_right_inj _).2 ?_;refine XL ?_<|Ql t (p.getD t Uo) (show k+1<=(p.getD t Uo).length by omega);show _ <+: evR t (p.getD t Uo) k++evX t k ((p.getD t Uo).getD k Uo);unfold evX;rw [if_neg ho];exact List.prefix_refl _
 obtain ⟨e1,e2⟩:=JS h1 (i:=base p t k) (by simp only [base,lla,XM];omega);refine ⟨e1.trans ?_,e2⟩;rw [gdq,base,gar (by omega),Nat.add_sub_cancel_left,gar (by omega),Nat.sub_self]
 rfl
def BP (p:List<|List TW) (t k:Nat):LI:=if ((p.getD t Uo).getD k Uo).Op=4 then [] else [(base p t k:Int)]
def sTh (s:LI) (j:Nat):Nat:=(s.getD j Uo).toNat
def stK (s:LI) (j:Nat):Nat:=(s.take j).count<|s.getD j Uo
def qM (p:List<|List TW) (s:LI):Nat->LI
 | 0=>[]
 | n+1=>qM p s n++BP p (sTh s n) (stK s n)
theorem Oj (p:List<|List TW) (s:LI) (n:Nat):(qM p s n).length<=n:=by
 induction n with
 | zero=>exact Xr _
 | succ n ih=>
  have : (BP p (sTh s n)<|stK s n).length<=1:=by unfold BP;grind
  simp only [qM,lla];omega
theorem kT {p:List (List TW)} (h:Vs p):(evs p).length<=24:=by
 have h1:=Gg h p.length;have h2:=h.1;unfold evs;omega
end
section
variable {p:List (List TW)}
theorem Gj (l:LL) (i:Nat):l.getD i Uo=l.getD i []:=rfl
theorem AJ {l:LL} {i j:Nat} {v:LI} (hi:i<l.length):(l.set i v).getD j []=if j=i then v else l.getD j []:=by
 grind
def Du (p:List<|List TW) (t k:Nat):LI:=(List.range k).map<|num p t
theorem Mr (t k:Nat):Du p t (k+1)=Du p t k++[num p t k]:=by
 unfold Du;rw [List.range_succ,List.map_append]
 rfl
theorem zK (hp:PV p):Uc (lM p) λl=>l.length=p.length/\∀ t:Nat,t<p.length->l.getD t []=Du p t (p.getD t Uo).length:=by
 have hl:=hp.vs.1;unfold lM;refine .gdD (by omega) ?_;refine Uc.bind (P:=λl=>l.length=p.length/\∀ t:Nat,t<p.length->l.getD t []=Du p t (p.getD t Uo).length) ?_ λv hv => .pure hv;refine Uc.loop (λz=>∃ n:Nat,n<=p.length/\z.2.1=(n:Int)/\z.2.2=((evP p n).length:Int)/\z.1.length=p.length/\∀ t:Nat,t<p.length->z.1.getD t []=if t<n then Du p t (p.getD t Uo).length else []) (λz=>((p.length:Int)-z.2.1).toNat) ⟨0,by omega,rfl,rfl,by simp,λt ht=>?_⟩ λz ⟨n,h1,h2,h3,h4,h5⟩ => ?_
 ·simp only [];rw [if_neg (by omega),gdq,List.getElem?_replicate]
  split <;> rfl
 obtain ⟨l,i,c⟩:=z;simp only at h2 h3 h4 h5;subst h2 h3;unfold nM;refine .bifD (λhk=>?_) λhk => .pure ?_
 ·simp only [] at hk;have hn:n<p.length:=by omega
  have hrow:=hp.vs.2 n;have hlen:=Gg hp.vs n;refine Uc.bind (P:=λy=>y.2=((evP p<|n+1).length:Int)/\y.1.length=p.length/\∀ t:Nat,t<p.length->y.1.getD t []=if t<n+1 then Du p t (p.getD t Uo).length else []) (.gdD ⟨by simp only [];omega,hk⟩ ?_) λv ⟨v1,v2,v3⟩ => .gdI (by simp only [];omega) (.pure ⟨⟨n+1,by omega,rfl,v1,v2,v3⟩,by simp only [];omega⟩);refine Uc.loop (λy=>∃ k:Nat,k<=(p.getD n Uo).length/\y.2.1=(k:Int)/\y.2.2=(base p n k:Int)/\y.1.length=p.length/\∀ t:Nat,t<p.length->y.1.getD t []=if t<n then Du p t (p.getD t Uo).length else if t=n then Du p t k else []) (λy=>(((p.getD n Uo).length:Int)-y.2.1).toNat) ⟨0,by omega,rfl,by simp [base,evR],h4,λt ht=>?_⟩ λy ⟨k,k1,k2,k3,k4,k5⟩ => ?_
  ·rw [h5 t ht]
   by_cases e:t<n
   ·rw [if_pos e,if_pos e]
   rw [if_neg e,if_neg e]
   split <;> rfl
  obtain ⟨l',i',c'⟩:=y;simp only at k2 k3 k4 k5;subst k2 k3;unfold uq J;simp only [tnn];refine .bifD (λhkk=>?_) λhkk => .pure ?_
  ·have hR:=Gf n (p.getD n Uo) k;have hb:base p n k<=31:=by unfold base;omega
   have hrn:=k5 n hn;rw [if_neg (XI n),if_pos rfl] at hrn;have hrl:(Du p n k).length=k:=by simp [Du]
   have hfin:∀ (v:Int),v=num p n k->∀ t:Nat,t<p.length->(l'.set n<|Du p n k++[v]).getD t []=if t<n then Du p t (p.getD t Uo).length else if t=n then Du p t (k+1) else []:=λv hv t ht=>by
    rw [AJ (by omega)]
    by_cases e:t=n
    ·subst e;rw [if_pos rfl,if_neg (XI t),if_pos rfl,Mr,hv]
    rw [if_neg e,k5 t ht]
    by_cases e2:t<n
    ·rw [if_pos e2,if_pos e2]
    rw [if_neg e2,if_neg e2,if_neg e,if_neg e]
   refine Uc.bind (P:=λy=>y.2=(base p n (k+1):Int)/\y.1.length=p.length/\∀ t:Nat,t<p.length->y.1.getD t []=if t<n then Du p t (p.getD t Uo).length else if t=n then Du p t (k+1) else []) (.gdD ⟨by omega,hkk⟩<|.bif (λho=>?_) λho=>?_) λv ⟨v1,v2,v3⟩ => .gdI (by omega)<|.pure ⟨⟨k+1,by omega,rfl,v1,v2,v3⟩,by simp only [];omega⟩
   ·have ho:((p.getD n Uo).getD k Uo).Op=4:=by simpa using ho
    refine .gdD ⟨by omega,by omega⟩<|.gd (aT (by rw [hrn,hrl];omega) rfl)<|.pure ⟨?_,by simp only [Xu];exact k4,?_⟩
    ·simp only [base,evR,evX,if_pos ho,XD]
    rw [hrn];exact hfin _ (by rw [num,if_pos ho])
   have ho : ¬ ((p.getD n Uo).getD k Uo).Op=4:=by simpa using ho
   refine .gdD ⟨by omega,by omega⟩<|.gd (aT (by rw [hrn,hrl];omega) rfl)<|.gdI (by omega)<|.pure ⟨?_,by simp only [Xu];exact k4,?_⟩
   ·simp only [base,evR,evX,if_neg ho,lla,XM];omega
   rw [hrn];exact hfin _ (by rw [num,if_neg ho])
  have : k=(p.getD n Uo).length:=by omega
  subst this;refine ⟨?_,k4,λt ht=>?_⟩
  ·simp only [base,evP,lla]
  simp only [];rw [k5 t ht]
  by_cases e:t=n
  ·subst e;rw [if_neg (XI t),if_pos rfl,if_pos (by omega)]
  by_cases e2:t<n
  ·rw [if_pos e2,if_pos (by omega)]
  rw [if_neg e2,if_neg e,if_neg (by omega)]
 simp only [] at hk;have : n=p.length:=by omega
 subst this;refine ⟨h4,λt ht=>?_⟩;rw [h5 t ht,if_pos ht]
abbrev XS:=List Int×LL
def stX (p:List<|List TW) (st:XS) (n:Int):XS:=
  (if ((evs p).getD n.toNat Uo).Reads=Uq then st.1.set n.toNat ((st.2.getD ((evs p).getD n.toNat Uo).Loc.toNat []).getD (((st.2.getD ((evs p).getD n.toNat Uo).Loc.toNat []).length:Int)-1).toNat Uo) else st.1,
   st.2.set ((evs p).getD n.toNat Uo).Loc.toNat (if ((evs p).getD n.toNat Uo).bq=Uq then st.2.getD ((evs p).getD n.toNat Uo).Loc.toNat []++[n] else st.2.getD ((evs p).getD n.toNat Uo).Loc.toNat []))
def x0 (p:List<|List TW):XS:=(Xy (evs p).length<|-1,[[0],[1],[2]])
def vJ (p:List<|List TW) (l:LI):XS:=l.foldl (stX p)<|x0 p
theorem AK (l:LI) (n:Int):vJ p (l++[n])=stX p (vJ p l) n:=by
 unfold vJ
 simp_all
def OkN (p:List<|List TW) (n:Int):Prop:=(0<=n/\n<((evs p).length:Int))/\0<=((evs p).getD n.toNat Uo).Loc/\((evs p).getD n.toNat Uo).Loc<=2
structure InX (p:List (List TW)) (m:Nat) (st:XS):Prop where
 f:st.1.length=(evs p).length
 o:st.2.length=3
 r:∀ i:Nat,i<3->1<=(st.2.getD i []).length/\(st.2.getD i []).length<=m+1
theorem InX.x0:InX p 0 (x0 p):=⟨by simp [YtdmahcaohkplcaaGreatDoor.x0],rfl,λi hi=>by
 match i,hi with
 | 0,_=>exact ⟨Xr 1,Xr 1⟩
 | 1,_=>exact ⟨Xr 1,Xr 1⟩
 | 2,_=>exact ⟨Xr 1,Xr 1⟩⟩
theorem InX.step {m:Nat} {st:XS} {n:Int} (h:InX p m st) (hn:OkN p n):InX p (m+1) (stX p st n):=by
 obtain ⟨_,h2,h3⟩:=hn;unfold stX;refine ⟨?_,by simp only [Xu];exact h.o,λi hi=>?_⟩
 ·simp only []
  split
  ·rw [Xu];exact h.f
  exact h.f
 simp only [];rw [AJ (by rw [h.o];omega)];have hr:=h.r ((evs p).getD n.toNat Uo).Loc.toNat (by omega);have hi':=h.r i hi
 grind
theorem InX.runs:∀ {l:LI} {m:Nat} {st:XS},InX p m st->(∀ n∈l,OkN p n)->InX p (m+l.length) (l.foldl (stX p) st)
 | [],_,_,h,_=>h
 | n::l,m,st,h,k=>by
  have := InX.runs (h.step<|k n<|List.mem_cons_self) λx hx=>k x<|List.mem_cons_of_mem _ hx
  grind
theorem InX.run {l:LI} (h:∀ n∈l,OkN p n):InX p l.length (vJ p l):=by
 have := InX.runs InX.x0 h
 rwa [Nat.zero_add] at this
theorem step_ok (hp:PV p) {t k:Nat} (ht:t<p.length) (hk:k<(p.getD t Uo).length):∀ n∈BP p t k,OkN p n:=by
 intro n hn;unfold BP at hn
 split at hn
 ·grind
 rename_i ho;rw [XF] at hn;subst hn;obtain ⟨e1,e2⟩:=Mq ht hk ho;have hx:=hp.ins t k ht hk;refine ⟨by omega,?_⟩;rw [tnn,e1];exact ⟨hx.1,hx.2.1⟩
theorem I1 {s:LI} (hg:Good p s s.length) {j:Nat} (hj:j<s.length):sTh s j<p.length/\((sTh s j:Nat):Int)=s.getD j Uo/\stK s j<(p.getD (sTh s j) Uo).length:=by
 obtain ⟨g1,g2⟩:=hg j hj;unfold sTh stK;omega
theorem Pm (hp:PV p) {s:LI} (hg:Good p s s.length):∀ {n:Nat},n<=s.length->∀ m∈qM p s n,OkN p m:=by
 intro n
 induction n with
 | zero=>intro _ m hm;simp [qM] at hm
 | succ n ih=>
  intro hn m hm;simp only [qM,Xw] at hm;rcases hm with hm | hm
  ·grind
  obtain ⟨h1,_,h3⟩:=I1 hg (j:=n) (by omega);exact step_ok hp h1 h3 m hm
theorem Ms {m:Nat} {st:XS} {n:Int} (h:InX p m st) (hm:m<=2000000) (hn:OkN p n) {loc:Int} {rd wr:Bool} (hloc:loc=((evs p).getD n.toNat Uo).Loc) (hrd:rd=((evs p).getD n.toNat Uo).Reads) (hwr:wr=((evs p).getD n.toNat Uo).bq) :
  Uc (Xq (bif rd then
    gd (TT .i64<|((st.2.getD loc.toNat []).length:Int)-(1:Int)) <|
    gd (Uu<|0<=(((st.2.getD loc.toNat []).length:Int)-(1:Int))/\(((st.2.getD loc.toNat []).length:Int)-(1:Int))<(((st.2.getD loc.toNat []).length):Int)) <|
    gd (Uu<|0<=n/\n<(st.1.length:Int)) <|
    Us ((st.1.set n.toNat<|(st.2.getD loc.toNat []).getD ((((st.2.getD loc.toNat []).length:Int)-(1:Int)).toNat) Uo),(st.2.getD loc.toNat []))
   else Us (st.1,(st.2.getD loc.toNat []))) λ(w:List Int×LI)=>
   bif wr then
    gd (bw (w.2.length+1) 8) <|
    Us (w.1,(st.2.set loc.toNat<|w.2++[n]))
   else Us (w.1,(st.2.set loc.toNat w.2))) (· = stX p st n):=by
 obtain ⟨h1,h2,h3⟩:=hn;have hr:=h.r ((evs p).getD n.toNat Uo).Loc.toNat (by omega);subst hloc hrd hwr;unfold stX;refine Uc.bind (P:=λw=>w.1=(if ((evs p).getD n.toNat Uo).Reads=Uq then st.1.set n.toNat ((st.2.getD ((evs p).getD n.toNat Uo).Loc.toNat []).getD (((st.2.getD ((evs p).getD n.toNat Uo).Loc.toNat []).length:Int)-1).toNat Uo) else st.1)/\w.2=st.2.getD ((evs p).getD n.toNat Uo).Loc.toNat []) (.bif (λhb => .gdI (by omega)<|.gdD (by omega)<|.gdD (by rw [h.f];exact h1)<|.pure ⟨by simp_all,rfl⟩) λhb => .pure ⟨by simp_all,rfl⟩) λw ⟨w1,w2⟩ => ?_;exact .bif (λhb => .gd (aT (by grind) rfl)<|.pure<|by simp_all) λhb => .pure (by simp_all)
theorem Hq (a:Z3i) (q i v:Int) (hq:0<=q/\q<=2) (hi:0<=i/\i<=2):Z3i.get (Z3i.set a q v) i=if i=q then v else Z3i.get a i:=by
 obtain ⟨x,y,z⟩:=a;have h1:q=0\/q=1\/q=2:=by omega
 have h2:i=0\/i=1\/i=2:=by omega
 rcases h1 with rfl | rfl | rfl <;> rcases h2 with rfl | rfl | rfl <;> rfl
theorem Mt (hp:PV p) {s:LI} (hs:s.length<=1048576) (hg:Good p s s.length):Uc (rQ p s) (· = ⟨(vJ p<|qM p s s.length).1,(vJ p<|qM p s s.length).2⟩):=by
 have hl:=hp.vs.1;have hel:=kT hp.vs;have he3:3<=(evs p).length:=(BO p<|Nat.zero_le p.length).length_le;unfold rQ;refine (Gh hp.vs).bind λv1 h1=>?_;subst h1;refine (KI (by omega) (by omega)<|-1).bind λv2 h2=>?_;subst h2;refine (zK hp).bind λv6 ⟨n1,n2⟩ => ?_;refine Uc.bind (P:=λz=>z.1=(vJ p<|qM p s s.length).1/\z.2.1=(vJ p<|qM p s s.length).2) ?_ λv hv => .pure (by rw [hv.1,hv.2]);refine Uc.loop (λz=>∃ n:Nat,n<=s.length/\z.1=(vJ p<|qM p s n).1/\z.2.1=(vJ p<|qM p s n).2/\z.2.2.2.2.2=(n:Int)/\∀ t:Nat,t<3->Z3i.get ⟨z.2.2.1,z.2.2.2.1,z.2.2.2.2.1⟩ (t:Int)=((s.take n).count (t:Int):Int)) (λz=>((s.length:Int)-z.2.2.2.2.2).toNat) ⟨0,by omega,rfl,rfl,rfl,λt ht=>?_⟩ λz ⟨n,h1,h2,h3,h4,h5⟩ => ?_
 ·simp only [Z3i.get,List.take_zero,List.count_nil]
  split <;> (try split) <;> rfl
 obtain ⟨f,o,a0,a1,a2,i⟩:=z;simp only at h2 h3 h4 h5;subst h2 h3 h4;unfold pO J;refine .bifD (λhk=>?_) λhk => .pure ?_
 ·simp only [] at hk;simp only [tnn];obtain ⟨g1,g2,g3⟩:=I1 hg (j:=n) (by omega);have hok:=Pm hp hg (n:=n) (by omega);have hin:=InX.run hok;have hol:=Oj p s n;generalize ha:(⟨a0,a1,a2⟩:Z3i)=a at h5 ⊢;have hgt:Z3i.get a (s.getD n Uo)=(stK s n:Int):=by
   rw [<- g2,h5 _ (by omega),g2]
   rfl
  have hrow:=hp.vs.2<|sTh s n;have hx:=hp.ins _ _ g1 g3;have hT:(s.getD n Uo).toNat=sTh s n:=rfl;have hnum:v6.getD (sTh s n) Uo=Du p (sTh s n) (p.getD (sTh s n) Uo).length:=n2 _ g1;have hnl:(Du p (sTh s n) (p.getD (sTh s n) Uo).length).length=(p.getD (sTh s n) Uo).length:=by simp [Du]
  have hnk:(Du p (sTh s n) (p.getD (sTh s n) Uo).length).getD (stK s n) Uo=num p (sTh s n) (stK s n):=by
   unfold Du;rw [gdq,List.getElem?_map,List.getElem?_range g3]
   rfl
  simp only [hgt,hT,hnum,hnk,tnn];refine Uc.bind (P:=(· = vJ p (qM p s<|n+1))) (.gdD ⟨by omega,hk⟩<|.gdD (by omega)<|.gdD (by omega)<|.gdD (by omega)<|.gdD (by rw [n1];omega)<|.gdD (by rw [hnl];omega)<|.gdI (by omega) ?_) λv hv => .gdI (by omega) (.pure ⟨⟨n+1,by omega,by rw [hv],by rw [hv],rfl,λt ht=>?_⟩,by simp only [];omega⟩)
  ·show Uc _ (· = vJ p (qM p s n++BP p (sTh s n) (stK s n)));refine .bif (λho => .pure ?_) λho=>?_
   ·have ho:((p.getD (sTh s n) Uo).getD (stK s n) Uo).Op=4:=by simpa using ho
    rw [BP,if_pos ho,XD]
   have ho : ¬ ((p.getD (sTh s n) Uo).getD (stK s n) Uo).Op=4:=by simpa using ho
   have hokn:=step_ok hp g1 g3 (base p (sTh s n) (stK s n):Int) (by rw [BP,if_neg ho];simp);obtain ⟨e1,e2⟩:=Mq g1 g3 ho;rw [BP,if_neg ho,AK,num,if_neg ho];refine .gdD ⟨hx.1,by rw [hin.o];have := hx.2.1;omega⟩ ?_;have key:=Ms hin (by omega) hokn (loc:=((p.getD (sTh s n) Uo).getD (stK s n) Uo).Loc) (rd:=rdX<|(p.getD (sTh s n) Uo).getD (stK s n) Uo) (wr:=wrX<|(p.getD (sTh s n) Uo).getD (stK s n) Uo) (by rw [tnn,e1]) (by rw [tnn,e1]) (by rw [tnn,e1]);obtain ⟨b1,r1,r2⟩:=JO<|(p.getD (sTh s n) Uo).getD (stK s n) Uo;obtain ⟨b2,w1,w2⟩:=Ef<|(p.getD (sTh s n) Uo).getD (stK s n) Uo;subst r2 w2;rw [r1,w1];exact key
  simp only [];have e:(⟨(Z3i.set a (s.getD n Uo)<|(stK s n:Int)+1).x0,(Z3i.set a (s.getD n Uo)<|(stK s n:Int)+1).x1,(Z3i.set a (s.getD n Uo)<|(stK s n:Int)+1).x2⟩:Z3i)=Z3i.set a (s.getD n Uo) ((stK s n:Int)+1):=rfl;rw [e,Hq _ _ _ _ (by omega) (by omega),BN (by omega),h5 t ht]
  by_cases e:(t:Int)=s.getD n Uo
  ·rw [if_pos e,if_pos e.symm];unfold stK;rw [e]
   rfl
  rw [if_neg e,if_neg (Ne.symm e)]
  rfl
 simp only [] at hk;have : n=s.length:=by omega
 subst this;exact ⟨rfl,rfl⟩
end
def same (a b:TY):Bool:=Uu (a.From=b.From)&&Uu (a.Order=b.Order)
def Tm (p:List<|List TW) (s:LI) (b:Bool):TY:=bif b then ⟨(vJ p<|qM p s s.length).1,(vJ p<|qM p s s.length).2⟩ else ⟨[],[]⟩
end
end Go.Proofs.YtdmahcaohkplcaaGreatDoor
