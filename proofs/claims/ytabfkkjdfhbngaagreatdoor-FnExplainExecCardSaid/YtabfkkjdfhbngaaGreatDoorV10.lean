/- Texts joined. No conditions. -/
import Derived.Test.YtabfkkjdfhbngaaGreatDoorProg
import Derived.Shelf.Strings.OnBuilder
import Derived.ChangeSame
import Derived.ChangeSlices
import Derived.WideKeyArgs
import Derived.Carry
import Derived.Deep.Slices
import Derived.Deep.Fields
import Derived.ProofKit
import Derived.OpenShut
import Derived.BigRegion
import Derived.Sort.Row
import Derived.Sort.Grow
import Derived.Shelf.Slices.Delete
import Derived.Shelf.SortM.Plain
import Derived.Shelf.SortM.SortNone
import Derived.Laws.IdiomStrings
import Derived.Test.YtabfkkjdfhbngaaGreatDoorV9
namespace Go.Proofs.YtabfkkjdfhbngaaGreatDoor
noncomputable section
open _root_.Inhabited renaming default -> QW
open _root_.Bool renaming true -> QX
open _root_.Bool renaming false -> QY
open _root_.Option renaming some -> QZ
open _root_.Option renaming none -> Q0
open _root_.Decidable renaming decide -> Q3
open _root_.Go.Proofs.Tryz
open _root_.Go.Proofs.Tryz renaming prog -> Q4
open _root_.Option renaming bind -> VZ, getD_some -> Wi
open _root_.Nat renaming beq -> V2, blt -> V3, eq_of_beq_eq_true -> V4, not_succ_le_zero -> V5, le_of_succ_le_succ -> V6, lt_of_lt_of_le -> Wj
open _root_.List renaming all_eq_true -> V7, getElem_map -> V8, range -> V9, length_range -> Wd, ext_getElem? -> We, getElem?_map -> Wh, mem_append_left -> Wm, mem_append_right -> Wn, eq_nil_of_length_eq_zero -> Wp
open _root_.ByteArray renaming append_assoc -> Wo
open _root_.Array renaming getElem?_modify -> Wq, getElem?_eq_some_iff -> Ws
open Go.RowKit
set_option maxRecDepth 100000
def kz:Option (List BA):=
 QZ ([(⟨#[]⟩:BA),(⟨#[97,99,121,99,108,105,99]⟩:BA),(⟨#[105,114,114,101,102]⟩:BA),(⟨#[101,109,112,116,121]⟩:BA)]:List BA)
theorem tu:Le (kz ) (iw ):=by
 unfold kz iw
 solve_by_elim (maxDepth:=9999) only [*,Le.gd,Le.bif,Le.bind,Le.sumK,Le.loop,Le.nilK,Le.ifc,Le.refl]
def jb (v14:(List BA)):(Int×Int)->Option ((Int×Int) ⊕ Int):=λs18=>
 VZ (kz ) λv20=>
 bif Q3 (s18.2<(v20.length:Int)) then
  VZ (
   gd (Q3<|0<=(0:Int)/\(0:Int)<(v14.length:Int)) <|
   VZ (kz ) λv24=>
   gd (Q3<|0<=s18.2/\s18.2<(v24.length:Int)) <|
   bif Q3 ((v14.getD (0:Int).toNat QW)=(v24.getD s18.2.toNat QW)) then
    QZ s18.2
   else
    QZ s18.1
  ) λs22=>
  gd (QF .i64<|s18.2+(1:Int)) <|
  QZ (.inl (s22,(s18.2+(1:Int))))
 else
  QZ (.inr s18.1)
theorem tv (v14:(List BA)) (sQ:_):Le (jb v14 sQ) (i9 v14 sQ):=by
 unfold jb i9 J
 solve_by_elim (maxDepth:=9999) only [*,tu,Le.gd,Le.bif,Le.bind,Le.sumK,Le.loop,Le.nilK,Le.ifc,Le.refl]
def uk (s:BA) (at_:Int) (c:Int):Option Bool:=
 VZ (bif Q3 ((0:Int)<=at_) then
  QZ (Q3<|at_<(s.size:Int))
 else
  QZ QY
 ) λs1=>
 VZ (bif s1 then
  gd (Q3<|0<=at_/\at_<(s.size:Int)) <|
  QZ (((s.data.getD at_.toNat 0).toNat:Int)==c)
 else
  QZ QY
 ) λs3=>
 QZ s3
theorem wW (s:BA) (at_:Int) (c:Int):Le (uk s at_ c) (qE s at_ c):=by
 unfold uk qE
 solve_by_elim (maxDepth:=9999) only [*,Le.gd,Le.bif,Le.bind,Le.sumK,Le.loop,Le.nilK,Le.ifc,Le.refl]
def gy (s:BA):Int->Option (Int ⊕ Int):=λs24=>
 VZ (bif Q3 (s24<(s.size:Int)) then
  gd (Q3<|0<=s24/\s24<(s.size:Int)) <|
  QZ (Q3<|(97:Int)<=((s.data.getD s24.toNat 0).toNat:Int))
 else
  QZ QY
 ) λs26=>
 VZ (bif s26 then
  gd (Q3<|0<=s24/\s24<(s.size:Int)) <|
  QZ (Q3<|((s.data.getD s24.toNat 0).toNat:Int)<=(122:Int))
 else
  QZ QY
 ) λs29=>
 bif s29 then
  gd (QF .i64<|s24+(1:Int)) <|
  QZ (.inl<|s24+(1:Int))
 else
  QZ (.inr s24)
theorem qH (s:BA) (sQ:_):Le (gy s sQ) (gm s sQ):=by
 unfold gy gm
 solve_by_elim (maxDepth:=9999) only [*,Le.gd,Le.bif,Le.bind,Le.sumK,Le.loop,Le.nilK,Le.ifc,Le.refl]
def iE (cQ:BA->Int->Int->Int->Option (aa×Int)) (rcf:BA->Int->Int->Option (aa×Int)) (s:BA) (at_:Int) (depth:Int):Option (aa×Int):=
 VZ (bif Q3 (depth<(1:Int)) then
  QZ QX
 else
  QZ (Q3<|at_<(0:Int))
 ) λs1=>
 VZ (bif s1 then
  QZ QX
 else
  QZ (Q3<|(s.size:Int)<=at_)
 ) λs3=>
 bif s3 then
  QZ ((⟨(0:Int),(⟨#[]⟩:BA),([]:List ZTE)⟩:aa),(-1:Int))
 else
  gd (Q3<|0<=at_/\at_<(s.size:Int)) <|
  bif (((s.data.getD at_.toNat 0).toNat:Int)==(40:Int)) then
   gd (QF .i64<|at_+(1:Int)) <|
   VZ (cQ s (at_+(1:Int)) depth (3:Int)) λv9=>
   VZ (uk s v9.2 (41:Int)) λv10=>
   bif !v10 then
    QZ ((⟨(0:Int),(⟨#[]⟩:BA),([]:List ZTE)⟩:aa),(-1:Int))
   else
    gd (QF .i64<|v9.2+(1:Int)) <|
    QZ ((⟨v9.1.Op,v9.1.Name,v9.1.Kids⟩:aa),(v9.2+(1:Int)))
  else
   VZ (
    bif (((s.data.getD at_.toNat 0).toNat:Int)==(126:Int)) then
     QZ (((s.data.getD at_.toNat 0).toNat:Int)==(126:Int))
    else
     QZ (((s.data.getD at_.toNat 0).toNat:Int)==(43:Int))
   ) λs13=>
   bif s13 then
    VZ (
     bif (((s.data.getD at_.toNat 0).toNat:Int)==(43:Int)) then
      QZ (7:Int)
     else
      QZ (6:Int)
    ) λs16=>
    gd (QF .i64<|at_+(1:Int)) <|
    gd (QF .i64<|depth-(1:Int)) <|
    VZ (rcf s (at_+(1:Int))<|depth-(1:Int)) λv20=>
    QZ ((⟨s16,(⟨#[]⟩:BA),([(⟨v20.1.Op,v20.1.Name,v20.1.Kids⟩:aa).inn]:List ZTE)⟩:aa),v20.2)
   else
    VZ (
     mJ 200 (gy s) at_
    ) λs21=>
    bif (s21==at_) then
     QZ ((⟨(0:Int),(⟨#[]⟩:BA),([]:List ZTE)⟩:aa),(-1:Int))
    else
     gd (Q3<|0<=at_/\at_<=s21/\s21<=(s.size:Int)) <|
     QZ ((⟨(1:Int),(s.extract at_.toNat s21.toNat),([]:List ZTE)⟩:aa),s21)
theorem su (cQ:BA->Int->Int->Int->Option (aa×Int)) (qR:BA->Int->Int->Int->Option (aa×Int)) (zZ:∀ x0 x1 x2 x3,Le (cQ x0 x1 x2 x3)<|qR x0 x1 x2 x3) (rcf:BA->Int->Int->Option (aa×Int)) (Ad:BA->Int->Int->Option (aa×Int)) (hrcf:∀ x0 x1 x2,Le (rcf x0 x1 x2)<|Ad x0 x1 x2) (s:BA) (at_:Int) (depth:Int):Le (iE cQ rcf s at_ depth) (dJ qR Ad s at_ depth):=by
 unfold iE dJ
 solve_by_elim (maxDepth:=9999) only [*,wW,qH,zZ,hrcf,Le.gd,Le.bif,Le.bind,Le.sumK,Le.loop,Le.nilK,Le.ifc,Le.refl]
def iF (cQ:BA->Int->Int->Int->Option (aa×Int)):Nat->BA->Int->Int->Option (aa×Int)
 | 0=>λ_ _ _=>Q0
 | n+1=>iE cQ (iF cQ n)
def pq (cQ:BA->Int->Int->Int->Option (aa×Int)) (s:BA) (at_:Int) (depth:Int):Option (aa×Int):=iF cQ 40 s at_ depth
theorem kC (cQ:BA->Int->Int->Int->Option (aa×Int)) (qR:BA->Int->Int->Int->Option (aa×Int)) (zZ:∀ x0 x1 x2 x3,Le (cQ x0 x1 x2 x3)<|qR x0 x1 x2 x3):∀ (n m:Nat),n<=m->∀ x0 x1 x2,Le (iF cQ n x0 x1 x2) (bV qR m x0 x1 x2)
 | 0,_,_=>λx0 x1 x2 v h=>by cases h
 | n+1,0,h=>absurd h (V5 _)
 | n+1,m+1,h=>λx0 x1 x2=>su cQ qR zZ _ _ (kC cQ qR zZ n m<|V6 h) x0 x1 x2
theorem ul (cQ:BA->Int->Int->Int->Option (aa×Int)) (qR:BA->Int->Int->Int->Option (aa×Int)) (zZ:∀ x0 x1 x2 x3,Le (cQ x0 x1 x2 x3)<|qR x0 x1 x2 x3) (s:BA) (at_:Int) (depth:Int):Le (pq cQ s at_ depth) (jZ qR s at_ depth):=λv h=>vp 40 λm hm=>kC cQ qR zZ 40 m hm s at_ depth v h
def kD (op:Int):Option Int:=
 bif (op==(2:Int)) then
  QZ (3:Int)
 else
  VZ (
   bif (op==(3:Int)) then
    QZ (op==(3:Int))
   else
    QZ (op==(4:Int))
  ) λs2=>
  bif s2 then
   QZ (2:Int)
  else
   bif (op==(5:Int)) then
    QZ (1:Int)
   else
    QZ (0:Int)
theorem nu (op:Int):Le (kD op) (iy op):=by
 unfold kD iy
 solve_by_elim (maxDepth:=9999) only [*,Le.gd,Le.bif,Le.bind,Le.sumK,Le.loop,Le.nilK,Le.ifc,Le.refl]
def mg (op:Int):Option BA:=
 gd (Q3<|0<=op/\op<(([(⟨#[]⟩:BA),(⟨#[]⟩:BA),(⟨#[124]⟩:BA),(⟨#[38]⟩:BA),(⟨#[45]⟩:BA),(⟨#[59]⟩:BA),(⟨#[126]⟩:BA),(⟨#[43]⟩:BA)]:List BA).length:Int)) <|
 QZ (([(⟨#[]⟩:BA),(⟨#[]⟩:BA),(⟨#[124]⟩:BA),(⟨#[38]⟩:BA),(⟨#[45]⟩:BA),(⟨#[59]⟩:BA),(⟨#[126]⟩:BA),(⟨#[43]⟩:BA)]:List BA).getD op.toNat QW)
theorem uK (op:Int):Le (mg op) (ju op):=by
 unfold mg ju J
 solve_by_elim (maxDepth:=9999) only [*,Le.gd,Le.bif,Le.bind,Le.sumK,Le.loop,Le.nilK,Le.ifc,Le.refl]
def sx (s:BA) (at_:Int) (level:Int):Int->Option (Int ⊕ (Unit ⊕ Int)):=λs4=>
 bif Q3 (s4<=(5:Int)) then
  VZ (kD s4) λv7=>
  VZ (bif (v7==level) then
   VZ (mg s4) λv10=>
   gd (Q3<|0<=(0:Int)/\(0:Int)<(v10.size:Int)) <|
   VZ (uk s at_ ((v10.data.getD (0:Int).toNat 0).toNat:Int)) λv12=>
   QZ v12
  else
   QZ QY
  ) λs8=>
  bif s8 then
   QZ (.inr<|.inr s4)
  else
   gd (QF .i64<|s4+(1:Int)) <|
   QZ (.inl<|s4+(1:Int))
 else
  QZ (.inr<|.inl ())
theorem zy (s:BA) (at_:Int) (level:Int) (sQ:_):Le (sx s at_ level sQ) (rY s at_ level sQ):=by
 unfold sx rY
 solve_by_elim (maxDepth:=9999) only [*,nu,uK,wW,Le.gd,Le.bif,Le.bind,Le.sumK,Le.loop,Le.nilK,Le.ifc,Le.refl]
def xw (s:BA) (at_:Int) (level:Int):Option Int:=
 sumK (
  mJ 200 (sx s at_ level) (2:Int)
 ) λs1=>
 QZ (0:Int)
theorem CN (s:BA) (at_:Int) (level:Int):Le (xw s at_ level) (ui s at_ level):=by
 unfold xw ui
 solve_by_elim (maxDepth:=9999) only [*,zy,Le.gd,Le.bif,Le.bind,Le.sumK,Le.loop,Le.nilK,Le.ifc,Le.refl]
def ny (rcf:BA->Int->Int->Int->Option (aa×Int)) (s:BA) (depth:Int) (level:Int):(Int×ByteArray×(List ZTE)×Int)->Option ((Int×ByteArray×(List ZTE)×Int) ⊕ ((Int×ByteArray×(List ZTE)) ⊕ (aa×Int))):=λs8=>
 bif Q3 ((0:Int)<=s8.2.2.2) then
  VZ (xw s s8.2.2.2 level) λv11=>
  bif (v11==(0:Int)) then
   QZ (.inr<|.inr ((⟨s8.1,s8.2.1,s8.2.2.1⟩:aa),s8.2.2.2))
  else
   gd (QF .i64<|s8.2.2.2+(1:Int)) <|
   VZ (rcf s (s8.2.2.2+(1:Int)) depth<|level-(1:Int)) λv14=>
   QZ (.inl (v11,(⟨#[]⟩:BA),([(⟨s8.1,s8.2.1,s8.2.2.1⟩:aa).inn,(⟨v14.1.Op,v14.1.Name,v14.1.Kids⟩:aa).inn]:List ZTE),v14.2))
 else
  QZ (.inr<|.inl (s8.1,s8.2.1,s8.2.2.1))
theorem wH (rcf:BA->Int->Int->Int->Option (aa×Int)) (Ad:BA->Int->Int->Int->Option (aa×Int)) (hrcf:∀ x0 x1 x2 x3,Le (rcf x0 x1 x2 x3)<|Ad x0 x1 x2 x3) (s:BA) (depth:Int) (level:Int) (sQ:_):Le (ny rcf s depth level sQ) (m7 Ad s depth level sQ):=by
 unfold ny m7
 solve_by_elim (maxDepth:=9999) only [*,CN,hrcf,Le.gd,Le.bif,Le.bind,Le.sumK,Le.loop,Le.nilK,Le.ifc,Le.refl]
def oK (rcf:BA->Int->Int->Int->Option (aa×Int)) (s:BA) (at_:Int) (depth:Int) (level:Int):Option (aa×Int):=
 bif (level==(0:Int)) then
  VZ (pq rcf s at_ depth) λv2=>
  QZ ((⟨v2.1.Op,v2.1.Name,v2.1.Kids⟩:aa),v2.2)
 else
  gd (QF .i64<|level-(1:Int)) <|
  VZ (rcf s at_ depth<|level-(1:Int)) λv4=>
  sumK (
   mJ 200 (ny rcf s depth level) (v4.1.Op,v4.1.Name,v4.1.Kids,v4.2)
  ) λs5=>
  QZ ((⟨(0:Int),(⟨#[]⟩:BA),([]:List ZTE)⟩:aa),(-1:Int))
theorem xx (rcf:BA->Int->Int->Int->Option (aa×Int)) (Ad:BA->Int->Int->Int->Option (aa×Int)) (hrcf:∀ x0 x1 x2 x3,Le (rcf x0 x1 x2 x3)<|Ad x0 x1 x2 x3) (s:BA) (at_:Int) (depth:Int) (level:Int):Le (oK rcf s at_ depth level) (kN Ad s at_ depth level):=by
 unfold oK kN
 solve_by_elim (maxDepth:=9999) only [*,ul,wH,hrcf,Le.gd,Le.bif,Le.bind,Le.sumK,Le.loop,Le.nilK,Le.ifc,Le.refl]
def oL:Nat->BA->Int->Int->Int->Option (aa×Int)
 | 0=>λ_ _ _ _=>Q0
 | n+1=>oK (oL n)
def wX (s:BA) (at_:Int) (depth:Int) (level:Int):Option (aa×Int):=oL 40 s at_ depth level
theorem qI:∀ (n m:Nat),n<=m->∀ x0 x1 x2 x3,Le (oL n x0 x1 x2 x3) (iq m x0 x1 x2 x3)
 | 0,_,_=>λx0 x1 x2 x3 v h=>by cases h
 | n+1,0,h=>absurd h (V5 _)
 | n+1,m+1,h=>λx0 x1 x2 x3=>xx _ _ (qI n m<|V6 h) x0 x1 x2 x3
theorem zz (s:BA) (at_:Int) (depth:Int) (level:Int):Le (wX s at_ depth level) (rZ s at_ depth level):=λv h=>vp 40 λm hm=>qI 40 m hm s at_ depth level v h
def dE (vW:aa->Option BA) (e_:aa) (level:Int):Option BA:=
 VZ (kD e_.Op) λv1=>
 bif Q3 (level<v1) then
  VZ (vW e_) λv3=>
  gd (Q3<|(⟨#[40]⟩:BA).size+v3.size<=9223372036854775807) <|
  gd (Q3<|((⟨#[40]⟩:BA)++v3).size+(⟨#[41]⟩:BA).size<=9223372036854775807) <|
  QZ (((⟨#[40]⟩:BA)++v3)++(⟨#[41]⟩:BA))
 else
  VZ (vW e_) λv6=>
  QZ v6
theorem uU (vW:aa->Option BA) (rcf268':aa->Option BA) (hrcf268:∀ x0,Le (vW x0)<|rcf268' x0) (e_:aa) (level:Int):Le (dE vW e_ level) (cm rcf268' e_ level):=by
 unfold dE cm
 solve_by_elim (maxDepth:=9999) only [*,nu,hrcf268,Le.gd,Le.bif,Le.bind,Le.sumK,Le.loop,Le.nilK,Le.ifc,Le.refl]
def qJ (rcf:aa->Option BA) (e_:aa):Option BA:=
 VZ (pX e_.Op) λv1=>
 bif (v1==(0:Int)) then
  QZ e_.Name
 else
  bif (v1==(1:Int)) then
   VZ (mg e_.Op) λv4=>
   gd (Q3<|0<=(0:Int)/\(0:Int)<(e_.Kids.length:Int)) <|
   VZ (dE rcf ((e_.Kids.getD (0:Int).toNat QW).out) (0:Int)) λv6=>
   gd (Q3<|v4.size+v6.size<=9223372036854775807) <|
   QZ (v4++v6)
  else
   VZ (kD e_.Op) λv8=>
   gd (Q3<|0<=(0:Int)/\(0:Int)<(e_.Kids.length:Int)) <|
   VZ (dE rcf ((e_.Kids.getD (0:Int).toNat QW).out) v8) λv10=>
   VZ (mg e_.Op) λv11=>
   gd (Q3<|v10.size+v11.size<=9223372036854775807) <|
   gd (Q3<|0<=(1:Int)/\(1:Int)<(e_.Kids.length:Int)) <|
   gd (QF .i64<|v8-(1:Int)) <|
   VZ (dE rcf ((e_.Kids.getD (1:Int).toNat QW).out)<|v8-(1:Int)) λv15=>
   gd (Q3<|(v10++v11).size+v15.size<=9223372036854775807) <|
   QZ ((v10++v11)++v15)
theorem yt (rcf:aa->Option BA) (Ad:aa->Option BA) (hrcf:∀ x0,Le (rcf x0)<|Ad x0) (e_:aa):Le (qJ rcf e_) (ma Ad e_):=by
 unfold qJ ma J
 solve_by_elim (maxDepth:=9999) only [*,uI,uK,uU,nu,hrcf,Le.gd,Le.bif,Le.bind,Le.sumK,Le.loop,Le.nilK,Le.ifc,Le.refl]
def qK:Nat->aa->Option BA
 | 0=>λ_=>Q0
 | n+1=>qJ (qK n)
def um (e_:aa):Option BA:=qK 40 e_
theorem rH:∀ (n m:Nat),n<=m->∀ x0,Le (qK n x0) (iZ m x0)
 | 0,_,_=>λx0 v h=>by cases h
 | n+1,0,h=>absurd h (V5 _)
 | n+1,m+1,h=>λx0=>yt _ _ (rH n m<|V6 h) x0
theorem uL (e_:aa):Le (um e_) (pW e_):=λv h=>vp 40 λm hm=>rH 40 m hm e_ v h
def j6 (e_:aa):Option BA:=
 VZ (gW e_) λv1=>
 bif !v1 then
  QZ (⟨#[]⟩:BA)
 else
  VZ (um e_) λv3=>
  QZ v3
theorem uo (e_:aa):Le (j6 e_) (fJ e_):=by
 unfold j6 fJ
 solve_by_elim (maxDepth:=9999) only [*,mK,uL,Le.gd,Le.bif,Le.bind,Le.sumK,Le.loop,Le.nilK,Le.ifc,Le.refl]
def lg (text:BA):Option (aa×Bool):=
 bif Q3 ((300:Int)<(text.size:Int)) then
  QZ ((⟨(0:Int),(⟨#[]⟩:BA),([]:List ZTE)⟩:aa),QY)
 else
  VZ (wX text (0:Int) (12:Int) (3:Int)) λv2=>
  VZ (bif (v2.2 != (text.size:Int)) then
   QZ QX
  else
   VZ (j6 (⟨v2.1.Op,v2.1.Name,v2.1.Kids⟩:aa)) λv5=>
   QZ (!decide (v5=text))
  ) λs3=>
  VZ (bif s3 then
   QZ QX
  else
   QZ (Q3<|text=(⟨#[]⟩:BA))
  ) λs6=>
  bif s6 then
   QZ ((⟨(0:Int),(⟨#[]⟩:BA),([]:List ZTE)⟩:aa),QY)
  else
   QZ ((⟨v2.1.Op,v2.1.Name,v2.1.Kids⟩:aa),QX)
theorem uV (text:BA):Le (lg text) (gV text):=by
 unfold lg gV
 solve_by_elim (maxDepth:=9999) only [*,zz,uo,Le.gd,Le.bif,Le.bind,Le.sumK,Le.loop,Le.nilK,Le.ifc,Le.refl]
def kg (v1:(List BA)):((List ah)×Int)->Option (((List ah)×Int) ⊕ ((List ah) ⊕ ((List ah)×Bool))):=λs6=>
 VZ (bif Q3 (s6.2<(v1.length:Int)) then
  QZ (Q3<|s6.2<=(5:Int))
 else
  QZ QY
 ) λs9=>
 bif s9 then
  sumK (
   gd (Q3<|0<=s6.2/\s6.2<(v1.length:Int)) <|
   VZ (pY (v1.getD s6.2.toNat QW) (32:Int)) λv14=>
   VZ (
    mJ 200 (jb v14) ((0:Int),(1:Int))
   ) λs15=>
   VZ (bif ((v14.length:Int) != (2:Int)) then
    QZ QX
   else
    QZ (s15==(0:Int))
   ) λs28=>
   bif s28 then
    QZ (.inr<|.inr<|.inr (([]:List ah),QY))
   else
    gd (Q3<|0<=(1:Int)/\(1:Int)<(v14.length:Int)) <|
    VZ (lg<|v14.getD (1:Int).toNat QW) λv32=>
    bif !v32.2 then
     QZ (.inr<|.inr<|.inr (([]:List ah),QY))
    else
     gd (bq (s6.1.length+1) 56) <|
     QZ (.inl<|s6.1++[(⟨s15,(⟨v32.1.Op,v32.1.Name,v32.1.Kids⟩:aa)⟩:ah)])
  ) λs12=>
  gd (QF .i64<|s6.2+(1:Int)) <|
  QZ (.inl (s12,(s6.2+(1:Int))))
 else
  QZ (.inr<|.inl s6.1)
theorem uq (v1:(List BA)) (sQ:_):Le (kg v1 sQ) (fL v1 sQ):=by
 unfold kg fL J
 solve_by_elim (maxDepth:=9999) only [*,uJ,tv,uV,Le.gd,Le.bif,Le.bind,Le.sumK,Le.loop,Le.nilK,Le.ifc,Le.refl]
def nz (m:List ah):(Int×BA)->Option ((Int×BA) ⊕ BA):=λs4=>
 bif Q3 (s4.1<(m.length:Int)) then
  VZ (
   bif Q3 ((0:Int)<s4.1) then
    gd (Q3<|s4.2.size+(⟨#[47]⟩:BA).size<=9223372036854775807) <|
    QZ (s4.2++(⟨#[47]⟩:BA))
   else
    QZ s4.2
  ) λs7=>
  VZ (kz ) λv10=>
  gd (Q3<|0<=s4.1/\s4.1<(m.length:Int)) <|
  gd (Q3<|0<=(m.getD s4.1.toNat QW).Kind/\(m.getD s4.1.toNat QW).Kind<(v10.length:Int)) <|
  gd (Q3<|s7.size+(v10.getD ((m.getD s4.1.toNat QW).Kind).toNat QW).size<=9223372036854775807) <|
  gd (Q3<|(s7++(v10.getD ((m.getD s4.1.toNat QW).Kind).toNat QW)).size+(⟨#[32]⟩:BA).size<=9223372036854775807) <|
  VZ (um<|(m.getD s4.1.toNat QW).Expr) λv15=>
  gd (Q3<|((s7++(v10.getD ((m.getD s4.1.toNat QW).Kind).toNat QW))++(⟨#[32]⟩:BA)).size+v15.size<=9223372036854775807) <|
  gd (QF .i64<|s4.1+(1:Int)) <|
  QZ (.inl ((s4.1+(1:Int)),(((s7++(v10.getD ((m.getD s4.1.toNat QW).Kind).toNat QW))++(⟨#[32]⟩:BA))++v15)))
 else
  QZ (.inr s4.2)
theorem wI (m:List ah) (sQ:_):Le (nz m sQ) (m8 m sQ):=by
 unfold nz m8 J
 solve_by_elim (maxDepth:=9999) only [*,tu,uL,Le.gd,Le.bif,Le.bind,Le.sumK,Le.loop,Le.nilK,Le.ifc,Le.refl]
def sD (m:List ah):Option BA:=
 VZ (
  mJ 200 (nz m) ((0:Int),(⟨#[]⟩:BA))
 ) λs1=>
 QZ s1
theorem zA (m:List ah):Le (sD m) (nP m):=by
 unfold sD nP
 solve_by_elim (maxDepth:=9999) only [*,wI,Le.gd,Le.bif,Le.bind,Le.sumK,Le.loop,Le.nilK,Le.ifc,Le.refl]
def jv (text:BA):Option ((List ah)×Bool):=
 VZ (pY text (47:Int)) λv1=>
 sumK (
  mJ 200 (kg v1) (([]:List ah),(0:Int))
 ) λs2=>
 VZ (ni s2) λv38=>
 VZ (bif !v38 then
  QZ QX
 else
  VZ (sD s2) λv41=>
  QZ (!decide (v41=text))
 ) λs39=>
 bif s39 then
  QZ (([]:List ah),QY)
 else
  QZ (s2,QX)
theorem wJ (text:BA):Le (jv text) (gu text):=by
 unfold jv gu
 solve_by_elim (maxDepth:=9999) only [*,uJ,uq,wG,zA,Le.gd,Le.bif,Le.bind,Le.sumK,Le.loop,Le.nilK,Le.ifc,Le.refl]
def jc (rcf:ae->Int->Option (ae×aa)) (r_:ae) (depth:Int):Option (ae×aa):=
 VZ (dm ) λv1=>
 bif Q3 (depth<(2:Int)) then
  VZ (au (⟨r_.b,r_.p⟩:ae) (v1.length:Int)) λv3=>
  gd (Q3<|0<=v3.2/\v3.2<(v1.length:Int)) <|
  QZ ((⟨v3.1.b,v3.1.p⟩:ae),(⟨(1:Int),(v1.getD v3.2.toNat QW),([]:List ZTE)⟩:aa))
 else
  VZ (au (⟨r_.b,r_.p⟩:ae) (3:Int)) λv5=>
  bif (v5.2==(0:Int)) then
   VZ (au (⟨v5.1.b,v5.1.p⟩:ae) (v1.length:Int)) λv7=>
   gd (Q3<|0<=v7.2/\v7.2<(v1.length:Int)) <|
   QZ ((⟨v7.1.b,v7.1.p⟩:ae),(⟨(1:Int),(v1.getD v7.2.toNat QW),([]:List ZTE)⟩:aa))
  else
   VZ (au (⟨v5.1.b,v5.1.p⟩:ae) (4:Int)) λv9=>
   bif (v9.2==(0:Int)) then
    VZ (aI (⟨v9.1.b,v9.1.p⟩:ae) ([(6:Int),(7:Int)]:LI)) λv11=>
    gd (QF .i64<|depth-(1:Int)) <|
    VZ (rcf (⟨v11.1.b,v11.1.p⟩:ae)<|depth-(1:Int)) λv13=>
    QZ ((⟨v13.1.b,v13.1.p⟩:ae),(⟨v11.2,(⟨#[]⟩:BA),([v13.2.inn]:List ZTE)⟩:aa))
   else
    VZ (aI (⟨v9.1.b,v9.1.p⟩:ae) ([(2:Int),(3:Int),(4:Int),(5:Int)]:LI)) λv14=>
    gd (QF .i64<|depth-(1:Int)) <|
    VZ (rcf (⟨v14.1.b,v14.1.p⟩:ae)<|depth-(1:Int)) λv16=>
    VZ (rcf (⟨v16.1.b,v16.1.p⟩:ae)<|depth-(1:Int)) λv17=>
    QZ ((⟨v17.1.b,v17.1.p⟩:ae),(⟨v14.2,(⟨#[]⟩:BA),([v16.2.inn,v17.2.inn]:List ZTE)⟩:aa))
theorem yu (rcf:ae->Int->Option (ae×aa)) (Ad:ae->Int->Option (ae×aa)) (hrcf:∀ x0 x1,Le (rcf x0 x1)<|Ad x0 x1) (r_:ae) (depth:Int):Le (jc rcf r_ depth) (l7 Ad r_ depth):=by
 unfold jc l7 J
 solve_by_elim (maxDepth:=9999) only [*,hrcf,Le.gd,Le.bif,Le.bind,Le.sumK,Le.loop,Le.nilK,Le.ifc,Le.refl]
def jd:Nat->ae->Int->Option (ae×aa)
 | 0=>λ_ _=>Q0
 | n+1=>jc (jd n)
def Ej (r_:ae) (depth:Int):Option (ae×aa):=jd 40 r_ depth
theorem rI:∀ (n m:Nat),n<=m->∀ x0 x1,Le (jd n x0 x1) (iX m x0 x1)
 | 0,_,_=>λx0 x1 v h=>by cases h
 | n+1,0,h=>absurd h (V5 _)
 | n+1,m+1,h=>λx0 x1=>yu _ _ (rI n m<|V6 h) x0 x1
theorem Ah (r_:ae) (depth:Int):Le (Ej r_ depth) (l8 r_ depth):=λv h=>vp 40 λm hm=>rI 40 m hm r_ depth v h
section
variable {p:List (List QH)} {x:XS}
theorem Ai (hsz:p.length<=1048576/\total p<=1048576) (hx:∀ r∈x.2,r.length<=1048576) {m:List ah} (hm:m.length<=1048576):∃ s,aN p ⟨x.1,x.2⟩ m=QZ s/\bv p ⟨x.1,x.2⟩ m=QZ s:=by
 have hI:dA p=QZ (bf<|p.map λr=>r.map iQ):=tV<|decide_eq_true hsz;have hS:aV p=QZ (bf<|p.map λr=>r.map iQ):=tV<|decide_eq_true hsz
 cases hv:bf (p.map λr=>r.map iQ) with
 | false=>
  rw [hv] at hI hS;refine ⟨⟨#[]⟩,?_,?_⟩
  ·unfold aN bH;rw [hI]
   rfl
  unfold bv gZ;rw [hS]
  rfl
 | true=>
  have hp:=PV.of hv;obtain ⟨b,e1,h1⟩:=LR hp hv hsz hx;obtain ⟨c,e2,h2⟩:=Oy hp hv hsz hx;obtain rfl:b=c:=Bool.eq_iff_iff.2<|h1.trans h2.symm;have mi:=J6 (m:=m) (by omega);have ms:=Ni (m:=m) (by omega)
  cases b with
  | false=>
   refine ⟨⟨#[]⟩,?_,?_⟩
   ·unfold aN;rw [e1]
    rfl
   unfold bv;rw [e2]
   rfl
  | true=>
   have hC:=(h1.1 rfl).cand hp
   cases hM:vaM m with
   | false=>
    rw [hM] at mi ms;refine ⟨⟨#[]⟩,QM.eq ?_,QM.eq ?_⟩
    ·unfold aN;exact (QM.of (P:=(· = QX)) e1 rfl).bind λv hv=>QM.bind (P:=(· = QX)) (.bif (λh=>by subst hv;cases h) λ_=>mi.bind λw hw => .pure<|by rw [hw];rfl) λu hu => .bif (λ_ => .pure rfl) λh=>by rw [hu] at h;cases h
    unfold bv;exact (QM.of (P:=(· = QX)) e2 rfl).bind λv hv=>QM.bind (P:=(· = QX)) (.bif (λh=>by subst hv;cases h) λ_=>ms.bind λw hw => .pure<|by rw [hw];rfl) λu hu => .bif (λ_ => .pure rfl) λh=>by rw [hu] at h;cases h
   | true=>
    rw [hM] at mi ms;obtain ⟨s,s1,s2,_⟩:=Fg hv hC hM;refine ⟨s,QM.eq ?_,QM.eq ?_⟩
    ·unfold aN;exact (QM.of (P:=(· = QX)) e1 rfl).bind λv hv=>QM.bind (P:=(· = QY)) (.bif (λh=>by subst hv;cases h) λ_=>mi.bind λw hw => .pure<|by rw [hw];rfl) λu hu => .bif (λh=>by rw [hu] at h;cases h) λ_=>(QM.of (P:=(· = s)) s1 rfl).bind λt ht => .pure ht
    unfold bv;exact (QM.of (P:=(· = QX)) e2 rfl).bind λv hv=>QM.bind (P:=(· = QY)) (.bif (λh=>by subst hv;cases h) λ_=>ms.bind λw hw => .pure<|by rw [hw];rfl) λu hu => .bif (λh=>by rw [hu] at h;cases h) λ_=>(QM.of (P:=(· = s)) s2 rfl).bind λt ht => .pure ht
end
def Cn (m:List ah):Bool:=m.all λr=>Q3<|r.Expr.Kids.length<=1000
def Gu (t:BA):Bool:=match jv t with
 | some v=>Q3 (1<=v.1.length)&&Q3 (v.1.length<=5)&&Cn v.1
 | none=>QY
theorem Ip:∀ l,l9=QZ l->l.all Gu=QX:=by
 intro l h;obtain rfl:=osl h
 decide +kernel
theorem Gv {t:BA} (h:Gu t=QX):QM (gu t) λv=>1<=v.1.length/\v.1.length<=5/\Cn v.1=QX:=by
 unfold Gu at h
 cases hc:jv t with
 | none=>rw [hc] at h;cases h
 | some v=>
  rw [hc] at h;simp only [bae,dte] at h;exact ⟨v,wJ t v hc,h.1.1,h.1.2,h.2⟩
def bD:Nat->Int
 | 0=>4
 | d+1=>4+2*bD d
theorem Ke:∀ d,4<=bD d
 | 0=>Int.le_refl _
 | d+1=>by have := Ke d;unfold bD;omega
theorem yw:∀ (d n:Nat) (k:Int) (r:ae) (dep:Int),d<n->d<=4->Rd k r->k+bD d<=1000000 -> -100<=dep->dep<=(d:Int)+1->QM (jd n r dep) λv=>Rd (k+bD d) v.1/\v.2.Kids.length<=2
 | d,0,_,_,_,h,_,_,_,_,_=>absurd h (Nat.not_lt_zero _)
 | d,n+1,k,r,dep,hn,hd,h,hk,h1,h2=>by
  show QM (jc (jd n) r dep) _;have e1:∃ l,dm=QZ l/\0<l.length:=⟨_,rfl,by decide⟩;obtain ⟨l,e1,e2⟩:=e1;have hp4:=Ke d;unfold jc;refine (QM.of (P:=(· = l)) e1 rfl).bind λv1 hv1=>?_;subst hv1;refine .bifD (λ_=>?_) λhge=>?_
  ·refine (aY h.mk' (by omega) _).bind λv3 ⟨a1,a2,a3⟩ => .gdD ⟨a2,by omega⟩<|.pure ⟨a1.mk'.mono (by omega),by simp⟩
  match d,hn,hd,hk,h2,hp4 with
  | 0,_,_,_,h2,_=>exact absurd hge (by omega)
  | d+1,hn,hd,hk,h2,hp4=>
   have hb:bD (d+1)=4+2*bD d:=rfl;have hp:=Ke d;refine (aY h.mk' (by omega) 3).bind λv5 ⟨a1,a2,a3⟩ => .bif (λ_=>?_) λ_=>(aY a1.mk' (by omega) 4).bind λv9 ⟨b1,b2,b3⟩ => .bif (λ_=>?_) λ_=>?_
   ·refine (aY a1.mk' (by omega) _).bind λv3 ⟨c1,c2,c3⟩ => .gdD ⟨c2,by omega⟩<|.pure ⟨c1.mk'.mono (by omega),by simp⟩
   ·refine (vF b1.mk' (by omega) _<|by simp).bind λv11 ⟨c1,_⟩ => .gdI (by omega)<|(yw d n (k+1+1+1) _ (dep-1) (by omega) (by omega) c1.mk' (by omega) (by omega)<|by omega).bind λv13 ⟨d1,_⟩ => .pure ⟨d1.mk'.mono (by omega),by simp⟩
   refine (vF b1.mk' (by omega) _ (by simp)).bind λv11 ⟨c1,_⟩ => .gdI (by omega) ((yw d n (k+1+1+1) _ (dep-1) (by omega) (by omega) c1.mk' (by omega) (by omega) (by omega)).bind λv13 ⟨d1,_⟩=>
    (yw d n (k+1+1+1+bD d) _ (dep-1) (by omega) (by omega) d1.mk' (by omega) (by omega) (by omega)).bind λv14 ⟨f1,_⟩ => .pure ⟨f1.mk'.mono (by omega),by simp⟩)
theorem DG {k:Int} {r:ae} (h:Rd k r) (hk:k<=100000) {dep:Int} (h1 : -100<=dep) (h2:dep<=3):QM (l8 r dep) λv=>Rd (k+28) v.1/\v.2.Kids.length<=2:=by
 obtain ⟨v,e,h3⟩:=yw 2 40 k r dep (by omega) (by omega) h (by show k+28<=_;omega) h1 h2;exact ⟨v,Ah r dep v e,h3⟩
theorem Kg {k:Int} {r:ae} (h:Rd k r) (hk:k<=10000):QM (nQ r) λv=>Rd (k+100) v.1/\1<=v.2.length/\v.2.length<=5/\Cn v.2=QX:=by
 unfold nQ J;have e1:∃ l,l9=QZ l/\0<l.length:=⟨_,rfl,by decide⟩;obtain ⟨l,e1,e2⟩:=e1;have hall:=Ip l e1;refine (QM.of (P:=(· = l)) e1 rfl).bind λv1 hv=>?_;subst hv;refine (aY h.mk' (by omega) 3).bind λv2 ⟨a1,a2,a3⟩ => .bifD (λ_=>?_) λ_=>?_
 ·refine (aY a1.mk' (by omega) _).bind λv4 ⟨b1,b2,b3⟩ => .gdD ⟨b2,by omega⟩ ?_;have hlt:v4.2.toNat<v1.length:=by omega
  exact (Gv<|V7.1 hall _<|getD_in hlt).bind λv6 h6 => .pure ⟨b1.mk'.mono (by omega),h6⟩
 refine QM.bind (P:=λv=>Rd (k+100) ⟨v.1,v.2.1⟩/\1<=v.2.2.length/\v.2.2.length<=5/\Cn v.2.2=QX) ?_ λv hv => .pure hv;refine (aY a1.mk' (by omega) 2).bind λv8 ⟨b1,b2,b3⟩ => .gdI (by omega) ?_;refine QM.loop (λs=>Rd (k+2+40*(2-s.2.2.2)) ⟨s.1,s.2.1⟩/\(0<=s.2.2.2/\s.2.2.2<=2)/\(s.2.2.1.length:Int)+s.2.2.2=1+v8.2/\Cn s.2.2.1=QX) (λs=>s.2.2.2.toNat) ⟨b1.mk'.mono (by simp only [];omega),by simp only [];omega,by simp,rfl⟩ λs ⟨h1,h2,h3,h4⟩ => ?_;unfold mb;refine .bifD (λh0=>?_) λh0 => .pure (by
  have h2':s.2.2.2=0:=by omega
  refine ⟨h1.mono (by omega),?_,?_,h4⟩ <;> simp only [] <;> omega)
 refine (aY h1 (by omega) 3).bind λv17 ⟨c1,c2,c3⟩ => .gdI (by omega)<|(DG c1.mk' (by omega) (by omega)<|by omega).bind λv19 ⟨d1,d2⟩ => .gd (aU (by omega) rfl)<|.gdI (by omega)<|.pure ⟨⟨d1.mk'.mono (by simp only [];omega),by simp only [];omega,by simp only [lla,List.length_singleton];omega,?_⟩,by simp only [];omega⟩;unfold Cn at h4 ⊢;simp only [List.all_append,h4,Bool.true_and,List.all_cons,List.all_nil,Bool.and_true];exact decide_eq_true (by omega)
theorem Fq {k:Int} {r:ae} {e:aa} (h:Rd k r) (hk:k<=10000) (he:e.Kids.length<=1000):QM (iY r e) λv=>Rd (k+30) v.1:=by
 unfold iY;refine .gdD (by omega)<|(aY h (by omega) 24).bind λv ⟨a1,a2,a3⟩ => .bif (λ_=>(vF a1 (by omega) _<|by simp).bind λa ⟨b1,_⟩ => .pure<|b1.mono<|by omega) λ_ => .bif (λ_=>(O3 a1 (by omega) _<|by simp).bind λa ⟨b1,_⟩ => .pure<|b1.mono<|by omega) λ_ => .bif (λ_=>(DG a1 (by omega) (by omega)<|by omega).bind λa ⟨b1,_⟩ => .pure<|b1.mono<|by omega) λ_ => .bif (λ_ => .pure<|a1.mono<|by omega) λ_ => .pure<|a1.mono (by omega)
theorem Ek {k:Int} {r:ae} {m:List ah} (h:Rd k r) (hk:k<=9000) (hm:1<=m.length) (hm5:m.length<=5) (hks:Cn m=QX):QM (iO r m) λv=>Rd (k+40) v.1/\v.2.length<=10:=by
 unfold iO;have h0:((m.getD 0 QW).Expr).Kids.length<=1000:=of_decide_eq_true<|V7.1 hks _<|getD_in (by omega);refine .gd (aU (by simp;omega) rfl) (QM.bind (P:=λv=>Rd (k+40) ⟨v.1,v.2.1⟩/\v.2.2.2.length<=10) ?_ λv hv => .pure hv);refine (aY h.mk' (by omega) 24).bind λv3 ⟨a1,a2,a3⟩ => .bif (λ_=>?_) λ_ => .bif (λ_=>?_) λ_ => .bif (λ_ => .pure ⟨a1.mk'.mono (by omega),by simp⟩) λ_ => .bif (λ_=>?_) λ_ => .pure ⟨a1.mk'.mono (by omega),by simp;omega⟩
 ·refine (vF a1.mk' (by omega) _<|by simp).bind λv5 ⟨b1,_⟩ => .gdD ⟨by omega,by simp;omega⟩ (.pure ⟨b1.mk'.mono (by omega),by simp;omega⟩)
 ·refine .gdD ⟨by omega,by simp;omega⟩ ((Fq a1.mk' (by omega) h0).bind λv9 b1 => .pure ⟨b1.mk'.mono (by omega),by simp;omega⟩)
 refine QM.loop (λs=>1<=s.length/\s.length<=6) (λs=>6-s.length) ⟨by simpa using hm,by simp;omega⟩ λs ⟨h1,h2⟩ => ?_;unfold iD;refine .bifD (λh0 => .gdD ⟨by omega,by omega⟩<|.gd (aU (by omega) rfl)<|.pure ⟨by simp;omega,by simp;omega⟩) λ_ => .pure ⟨a1.mk'.mono (by omega),by simp only [];omega⟩
theorem Gw {k:Int} {r:ae} (h:Rd k r) (hk:k<=10000):QM (pV r) λv=>Rd (k+47) v.1/\smP v.2.1=QX/\bf (QP v.2.1)=QX/\Cand v.2.1 (v.2.2.From,v.2.2.Order) (MW v.2.1):=by
 unfold pV J;refine (Gs h.mk' hk).bind λv1 ⟨a1,a2,a3⟩ => ?_;have hp:=PV.of a3;refine (Jv a3).bind λv2 h2=>?_;subst h2;have hne:=Lr hp;refine (aY a1.mk' (by omega) _).bind λv3 ⟨b1,b2,b3⟩ => ?_;have hlt:v3.2<((Cg v1.2).length:Int):=by
  rcases b3 with h | h
  ·exact h
  omega
 have hm:=getD_in (l:=Cg v1.2) (i:=v3.2.toNat) (by omega);exact .gdD ⟨b2,hlt⟩<|.pure ⟨b1.mk'.mono (by omega),a2,a3,F8 hp hm⟩
theorem Kh {b:LI} (hb:Bts b):QM (dK b) λv=>(v.1.length<=1048576/\total v.1<=1048576)/\bf (QP v.1)=QX/\SmX v.2.1/\v.2.2.length<=10:=by
 unfold dK;refine QM.bind (P:=λv:List (List QH)×QI×List ah=>(v.1.length<=1048576/\total v.1<=1048576)/\bf (QP v.1)=QX/\SmX v.2.1/\v.2.2.length<=10) ?_ λv hv => .pure hv;unfold ja;refine (Lp hb).bind λr h=>(Gw h.mk'<|by omega).bind λv ⟨a1,a2,a3,a4⟩=>(Kg a1.mk'<|by omega).bind λu ⟨b1,b2,b3,b4⟩=>(Ek b1.mk' (by omega) b2 b3 b4).bind λt ⟨c1,c2⟩=>(Fj c1.mk' (by omega) (PV.of a3) a4).bind λw hw => .pure ⟨Md a2,a3,hw,c2⟩
theorem Ls {k:Int} (h:k<0↔k = -1):(k==(-1:Int))=Q3 (k<0):=by
 rw [decide_eq_decide.2 h];rfl
theorem Ns (t:BA) : ¬ (⟨#[114,117,108,101,32]⟩:BA)++t=⟨#[97,108,108,111,119,101,100]⟩ /\ ¬ (⟨#[114,117,108,101,32]⟩:BA)++t=⟨#[118,97,108,117,101,115]⟩:=by
 constructor <;> intro e <;> (have h:=congrArg (λb:BA=>b.data.toList.head?) e;simp [ByteArray.data_append] at h)
theorem Fs {p:List (List QH)} {x:QI} {m:List ah} {s:BA} {V:LI} {b:Bool} {k:Int} {R:LI} (h:bC p x m=QZ s) (h1:cG p x=QZ (V,b)) (h2:cf p x m=QZ (k,R)) :
  (Q3 (s=(⟨#[97,108,108,111,119,101,100]⟩:BA))=(b&&Q3 (k<0)))/\Q3 (s=(⟨#[118,97,108,117,101,115]⟩:BA)) = !b:=by
 unfold bC J at h;obtain ⟨v1,c1,h⟩:=qg h;rw [h1] at c1;obtain rfl:=(osl c1).symm
 cases b with
 | false=>
  obtain rfl:=osl h;exact ⟨by rw [Bool.false_and];decide,by decide⟩
 | true=>
  replace h:(VZ (cf p x m) _)=QZ s:=h;obtain ⟨v3,c3,h⟩:=qg h;rw [h2] at c3;obtain rfl:=(osl c3).symm;rcases yh h with ⟨q,h⟩ | ⟨q,h⟩
  ·obtain rfl:=osl h;have q':k<0:=of_decide_eq_true q;exact ⟨by rw [decide_eq_true q'];decide,by decide⟩
  have q' : ¬ k<0:=of_decide_eq_false q;have key:∃ t,s=(⟨#[114,117,108,101,32]⟩:BA)++t:=by
   obtain ⟨v5,_,h⟩:=qg h;obtain ⟨_,h⟩:=gdD h;obtain ⟨_,h⟩:=gdD h;rcases yh h with ⟨_,h⟩ | ⟨_,h⟩
   ·exact ⟨_,(osl h).symm⟩
   obtain ⟨v9,_,h⟩:=qg h;obtain ⟨s10,_,h⟩:=qg h;obtain ⟨_,h⟩:=gdD h;obtain ⟨v32,_,h⟩:=qg h;obtain ⟨_,h⟩:=gdD h;exact ⟨v5++(⟨#[58,32]⟩++v32),by rw [<- osl h,Wo,Wo]⟩
  obtain ⟨t,rfl⟩:=key;obtain ⟨n1,n2⟩:=Ns t;rw [decide_eq_false n1,decide_eq_false n2,decide_eq_false q'];exact ⟨rfl,rfl⟩
theorem PL {b:LI} (hb:Bts b):db b=QZ QX:=by
 refine QM.eq ?_;unfold db;refine .bifD (λ_ => .pure rfl) λ_=>(Kh hb).bind λv ⟨hsz,hv,hx,hm⟩ => ?_;obtain ⟨p,xe,m⟩:=v;obtain ⟨xf,xo⟩:=xe;simp only at hsz hv hx hm ⊢;have hp:=PV.of hv;obtain ⟨s,s1,s2⟩:=Ai (x:=(xf,xo)) hsz hx (m:=m) (by omega);obtain ⟨c,i1,i2⟩:=LR (x:=(xf,xo)) hp hv hsz hx;have mi:=J6 (m:=m) (by omega);refine (QM.of (P:=(· = s)) s1 rfl).bind λv3 h3=>?_;subst h3;have hbad:c=QY\/vaM m=QY->v3=⟨#[]⟩/\QM (dw p ⟨xf,xo⟩ m) (· = (-1,QY)):=λhc=>by
  have h1:QM (VZ (bH p ⟨xf,xo⟩) λv1=>VZ (bif !v1 then QZ QX else VZ (bY m) λv4=>QZ<|!v4) λs2=>QZ s2) (· = QX):=by
   refine (QM.of (P:=(· = c)) i1 rfl).bind λv hv=>?_;subst hv;refine QM.bind (P:=(· = QX)) (.bif (λh => .pure rfl) λh=>mi.bind λw hw => .pure ?_) λv hv => .pure hv;rcases hc with e | e
   ·rw [e] at h;cases h
   rw [hw,e];rfl
  obtain ⟨w,e1,rfl⟩:=h1;obtain ⟨u,e2,e3⟩:=qg e1;obtain ⟨t,e4,e5⟩:=qg e3;obtain rfl:=osl e5
  constructor
  ·have : aN p ⟨xf,xo⟩ m=QZ ⟨#[]⟩:=by
    refine QM.eq ?_;unfold aN;exact (QM.of (P:=(· = u)) e2 rfl).bind λv hv=>by subst hv;exact (QM.of (P:=(· = QX)) e4 rfl).bind λw hw => .bif (λ_ => .pure rfl) λh=>by rw [hw] at h;cases h
   rw [show aN p ⟨xf,xo⟩ m=QZ v3 from s1] at this;exact osl this
  unfold dw;exact (QM.of (P:=(· = u)) e2 rfl).bind λv hv=>by subst hv;exact (QM.of (P:=(· = QX)) e4 rfl).bind λw hw => .bif (λ_ => .pure rfl) λh=>by rw [hw] at h;cases h
 have hvals:QM (lY p ⟨xf,xo⟩) λv=>c=QX->∃ V bb,cG p ⟨xf,xo⟩=QZ (V,bb)/\v.2=bb:=by
  unfold lY;refine (QM.of (P:=(· = c)) i1 rfl).bind λv hv=>?_;subst hv;refine .bif (λh => .pure λe=>by rw [e] at h;cases h) λh=>?_;have C:=(i2.1<|by simpa using h).cand hp;obtain ⟨V,W,bb,k1,_⟩:=Dw hp C;exact (QM.of (P:=(· = (V,bb))) k1 rfl).bind λw hw => .pure λ_=>⟨V,bb,k1,by rw [hw]⟩
 by_cases hc:c=QY\/vaM m=QY
 ·obtain ⟨g1,g2⟩:=hbad hc;refine g2.bind λv4 h4=>hvals.bind λv5 _=>(QM.of (P:=(· = v3)) s2 rfl).bind λv6 h6=>?_;subst h4 h6;refine QM.bind (P:=(· = QX)) (.bif (λh=>by simp at h) λ_ => .pure rfl) λs7 h7=>?_;subst h7;refine .bif (λ_=>(QM.of (P:=(· = v6)) s2 rfl).bind λv10 h10=>?_) λh=>by cases h
  subst h10;refine QM.bind (P:=(· = QX)) (.bif (λ_ => .pure<|decide_eq_true g1) λh=>by simp at h) λs11 h11 => .pure h11
 have hc1:c=QX:=by cases c <;> simp_all
 have hm1:vaM m=QX:=by cases h:vaM m <;> simp_all
 subst hc1;have C:=(i2.1 rfl).cand hp;obtain ⟨m1,m2⟩:=Mb hm1;have hN:(evs p).length<=16:=Nat.le_trans (LW hv) (by omega);obtain ⟨⟨k,R⟩,j1,j2,_⟩:=OH (x:=(⟨xf,xo⟩:QI)) hN (λnm hn=>OD hp C hn) m1 (by omega);have hk:k<0↔k = -1:=by
  rcases j2 with ⟨e,_⟩ | ⟨i,e,_⟩
  ·simp only [] at e;omega
  simp only [] at e;omega
 have hex:bC p ⟨xf,xo⟩ m=QZ v3:=by
  have h:=s1;unfold aN at h;obtain ⟨u,e2,h⟩:=qg h;rw [show bH p ⟨xf,xo⟩=QZ QX from i1] at e2;obtain rfl:=(osl e2).symm;obtain ⟨t,e4,h⟩:=qg h;obtain ⟨w,e5,e6⟩:=qg (show VZ (bY m) (λv4=>QZ<|!v4)=QZ t from e4);have hw:w=vaM m:=by
   obtain ⟨w',f1,f2⟩:=mi;rw [f1] at e5;exact (osl e5).symm.trans f2
  rw [hw,hm1] at e6;obtain rfl:=(osl e6).symm;obtain ⟨v6,e7,h⟩:=qg (show VZ (bC p ⟨xf,xo⟩ m) (λv6=>QZ v6)=QZ v3 from h);rw [e7];exact h
 have hB:QM (dw p ⟨xf,xo⟩ m) (· = (k,QX)):=by
  unfold dw;refine (QM.of (P:=(· = QX)) i1 rfl).bind λv hv' => ?_;subst hv';refine QM.bind (P:=(· = QY)) (.bif (λh=>by cases h) λ_=>mi.bind λw hw => .pure<|by rw [hw,hm1];rfl) λv hv2=>?_;subst hv2;exact .bif (λh=>by cases h) λ_=>(QM.of (P:=(· = (k,R))) j1 rfl).bind λv hv => .pure (by rw [hv])
 refine hB.bind λv4 h4=>hvals.bind λv5 h5=>(QM.of (P:=(· = v3)) s2 rfl).bind λv6 h6=>?_;subst h4 h6;obtain ⟨V,bb,f1,f2⟩:=h5 rfl;obtain ⟨t1,t2⟩:=Fs hex f1 j1;refine QM.bind (P:=(· = QY)) (.bif (λh=>by simp at h) λ_ => .pure rfl) λs7 h7=>?_;subst h7;refine .bif (λh=>by cases h) λ_=>?_;refine QM.bind (P:=(· = (bb&&Q3 (k<0)))) (.bif (λh => .pure ?_) λh => .pure ?_) λs13 h13=>?_
 ·rw [<- f2,h,Bool.true_and,Ls hk]
 ·rw [<- f2,h];rfl
 subst h13;refine QM.bind (P:=(· = QX)) (.bif (λ_ => .pure ?_) λh=>?_) λs15 h15 => .pure h15
 ·rw [t2,f2];simp
 rw [t1] at h;simp at h
theorem QS:TyF Q4 3 QY 1:=⟨by kernel_rfl,by kernel_rfl,by kernel_rfl,by kernel_rfl⟩
theorem zs3:TyZ Q4 3 [I (0:Int)]:=⟨by kernel_rfl,by kernel_rfl⟩
theorem ty4:TyF Q4 4 QY 1:=⟨by kernel_rfl,by kernel_rfl,by kernel_rfl,by kernel_rfl⟩
theorem zs4:TyZ Q4 4 [Bo QY]:=⟨by kernel_rfl,by kernel_rfl⟩
theorem bt4:w9 Q4 4=QX:=by kernel_rfl
theorem ty5:TyF Q4 5 QY 1:=⟨by kernel_rfl,by kernel_rfl,by kernel_rfl,by kernel_rfl⟩
theorem zs5:TyZ Q4 5 [Y (0:Int)]:=⟨by kernel_rfl,by kernel_rfl⟩
theorem ty9:TyF Q4 9 QY 1:=⟨by kernel_rfl,by kernel_rfl,by kernel_rfl,by kernel_rfl⟩
theorem zs9:TyZ Q4 9 [St (⟨#[]⟩:BA)]:=⟨by kernel_rfl,by kernel_rfl⟩
theorem Me:TyF Q4 22 QY 1:=⟨by kernel_rfl,by kernel_rfl,by kernel_rfl,by kernel_rfl⟩
theorem Qh:TyF Q4 23 QY 1:=⟨by kernel_rfl,by kernel_rfl,by kernel_rfl,by kernel_rfl⟩
theorem El:TyF Q4 24 QY 1:=⟨by kernel_rfl,by kernel_rfl,by kernel_rfl,by kernel_rfl⟩
theorem Qt:TyZ Q4 24 [.nil]:=⟨by kernel_rfl,by kernel_rfl⟩
theorem Ev:TyF Q4 25 QY 1:=⟨by kernel_rfl,by kernel_rfl,by kernel_rfl,by kernel_rfl⟩
theorem Qu:TyZ Q4 25 [.nil]:=⟨by kernel_rfl,by kernel_rfl⟩
theorem yx:TyF Q4 27 QX 2:=⟨by kernel_rfl,by kernel_rfl,by kernel_rfl,by kernel_rfl⟩
theorem Gx:TyZ Q4 27 [.nil,.nil]:=⟨by kernel_rfl,by kernel_rfl⟩
theorem Aj:TyS Q4 27 [(0,1),(1,1)]:=⟨by kernel_rfl⟩
theorem Qi:TyF Q4 57 QY 1:=⟨by kernel_rfl,by kernel_rfl,by kernel_rfl,by kernel_rfl⟩
theorem Qv:TyZ Q4 57 [.nil]:=⟨by kernel_rfl,by kernel_rfl⟩
theorem PM:TyF Q4 60 QX 5:=⟨by kernel_rfl,by kernel_rfl,by kernel_rfl,by kernel_rfl⟩
theorem PN:TyZ Q4 60 [I (0:Int),I (0:Int),I (0:Int),Bo QY,Bo QY]:=⟨by kernel_rfl,by kernel_rfl⟩
theorem Qw:TyF Q4 73 QY 1:=⟨by kernel_rfl,by kernel_rfl,by kernel_rfl,by kernel_rfl⟩
theorem Qx:TyZ Q4 73 [.nil]:=⟨by kernel_rfl,by kernel_rfl⟩
theorem NQ:TyF Q4 79 QX 4:=⟨by kernel_rfl,by kernel_rfl,by kernel_rfl,by kernel_rfl⟩
theorem PO:TyZ Q4 79 [I (0:Int),I (0:Int),I (0:Int),I (0:Int)]:=⟨by kernel_rfl,by kernel_rfl⟩
theorem Nt:TyS Q4 79 [(0,1),(1,1),(2,1),(3,1)]:=⟨by kernel_rfl⟩
theorem Iq:TyF Q4 114 QY 1:=⟨by kernel_rfl,by kernel_rfl,by kernel_rfl,by kernel_rfl⟩
theorem bG:TyF Q4 116 QX 3:=⟨by kernel_rfl,by kernel_rfl,by kernel_rfl,by kernel_rfl⟩
theorem mH:TyZ Q4 116 [I (0:Int),St (⟨#[]⟩:BA),.nil]:=⟨by kernel_rfl,by kernel_rfl⟩
theorem lj:TyS Q4 116 [(0,1),(1,1),(2,1)]:=⟨by kernel_rfl⟩
theorem Lt:TyF Q4 120 QX 4:=⟨by kernel_rfl,by kernel_rfl,by kernel_rfl,by kernel_rfl⟩
theorem Lu:TyZ Q4 120 [I (0:Int),I (0:Int),St (⟨#[]⟩:BA),.nil]:=⟨by kernel_rfl,by kernel_rfl⟩
theorem Em:TyS Q4 120 [(0,1),(1,3)]:=⟨by kernel_rfl⟩
theorem PP:TyZ Q4 157 [.nil,I (0:Int)]:=⟨by kernel_rfl,by kernel_rfl⟩
theorem Al:TyS Q4 157 [(0,1),(1,1)]:=⟨by kernel_rfl⟩
theorem PQ:TyF Q4 170 QY 1:=⟨by kernel_rfl,by kernel_rfl,by kernel_rfl,by kernel_rfl⟩
theorem Ir:SlT Q4 22 5 QY 1 [Y (0:Int)] 1:=⟨Tryz.underlying22,ty5,zs5,rfl,rfl,by kernel_rfl⟩
theorem Nu:SlT Q4 23 73 QY 1 [.nil] 24:=⟨Tryz.underlying23,Qw,Qx,rfl,rfl,by kernel_rfl⟩
theorem je:SlT Q4 24 3 QY 1 [I (0:Int)] 8:=⟨Tryz.underlying24,QS,zs3,rfl,rfl,by kernel_rfl⟩
theorem wY:SlT Q4 25 24 QY 1 [.nil] 24:=⟨Tryz.underlying25,El,Qt,rfl,rfl,by kernel_rfl⟩
theorem CE:SlT Q4 34 120 QX 4 [I (0:Int),I (0:Int),St (⟨#[]⟩:BA),.nil] 56:=⟨Tryz.underlying34,Lt,Lu,rfl,rfl,by kernel_rfl⟩
theorem Bu:SlT Q4 51 9 QY 1 [St (⟨#[]⟩:BA)] 16:=⟨Tryz.underlying51,ty9,zs9,rfl,rfl,by kernel_rfl⟩
theorem O4:SlT Q4 52 27 QX 2 [.nil,.nil] 48:=⟨Tryz.underlying52,yx,Gx,rfl,rfl,by kernel_rfl⟩
theorem Mf:SlT Q4 57 60 QX 5 [I (0:Int),I (0:Int),I (0:Int),Bo QY,Bo QY] 32:=⟨Tryz.underlying57,PM,PN,rfl,rfl,by kernel_rfl⟩
theorem NR:SlT Q4 73 79 QX 4 [I (0:Int),I (0:Int),I (0:Int),I (0:Int)] 32:=⟨Tryz.underlying73,NQ,PO,rfl,rfl,by kernel_rfl⟩
theorem ut:SlT Q4 114 116 QX 3 [I (0:Int),St (⟨#[]⟩:BA),.nil] 48:=⟨Tryz.underlying114,bG,mH,rfl,rfl,by kernel_rfl⟩
theorem PR:SlT Q4 138 4 QY 1 [Bo QY] 1:=⟨Tryz.underlying138,ty4,zs4,rfl,rfl,by kernel_rfl⟩
theorem Ki:SlT Q4 151 25 QY 1 [.nil] 24:=⟨Tryz.underlying151,Ev,Qu,rfl,rfl,by kernel_rfl⟩
section
variable {α β:Type} [Inhabited β] {f:α->List Value} {s:Nat} {c:β->List AV} {w:World} {fz:Nat->Prop} {v:Value}
theorem Kj {u x:Value} (h:FRel w fz (.v u) x):x=u:=by
 cases h with
 | v _=>rfl
theorem DI {e:β->α} (hf:∀ x,c x=(f<|e x).map AV.v) (hs:∀ x,(f<|e x).length=s) {l:List β} (h:FRel w fz (eL c l) v):Sl f s w 0 w.heap.size v (l.map e):=by
 unfold eL at h
 cases h with
 | sl us hc hm ha hr hu h1 h=>
  refine ⟨_,_,by rw [llm],by simpa using hc,hm,λhn=>?_⟩;rw [llm] at hn;obtain ⟨rfl,hg,hlt⟩:=ha hn;refine ⟨_,_,rfl,Nat.zero_le _,hlt,hlt,λk hk j u hu' => ?_⟩;rw [llm] at hk;rw [V8] at hu';have hk0:l.getD k QW=l[k]:=by simp [List.getD,hk]
  have hrow:(c<|l.getD k QW)[j]? = QZ (.v u):=by rw [hk0,hf,Wh,hu'];rfl
  have hs':=hr k hk
  dsimp only at hs'
  rw [hf,llm,hs] at hs';subst hs';have h2:=hu k j _ hk hrow;rw [Kj (h k j _ hk hrow)] at h2;exact h2
theorem Ab {e:β->α} (hf:∀ x,c x=(f<|e x).map AV.v) (hs:∀ x,(f<|e x).length=s) {l:List (List β)} (h:FRel w fz (eL (cL c) l) v):Ag f s w 0 w.heap.size v (l.map λr=>r.map e):=by
 unfold eL at h
 cases h with
 | sl us hc hm ha hr hu h1 h=>
  refine ⟨(V9 l.length).map λi=>us i 0,?_,by simp,λk hk hk' => ?_⟩
  ·refine ⟨_,_,by rw [llm,Wd],by simpa using hc,hm,λhn=>?_⟩;rw [llm,Wd] at hn;obtain ⟨rfl,hg,hlt⟩:=ha hn;refine ⟨_,_,rfl,Nat.zero_le _,hlt,hlt,λk hk j u hu' => ?_⟩;rw [llm,Wd] at hk;rw [V8,List.getElem_range] at hu';have hs':=hr k hk;change 1=_ at hs';subst hs'
   match j with
   | 0=>
    have h2:=hu k 0 _ hk rfl;rw [h2];simpa [Oh] using hu'
   | j+1=>simp [Oh] at hu'
  rw [llm,Wd] at hk;rw [V8,V8,List.getElem_range];have h2:=h k 0 _ hk rfl;have hk0:l.getD k QW=l[k]:=by simp [List.getD,hk]
  rw [hk0] at h2;exact DI hf hs h2
theorem Iu {e:α->β} (hf:∀ x,c (e x)=(f x).map AV.v) (hs:∀ x,(f x).length=s) (hp:∀ x,∀ u∈f x,plain u=QX) {l:List α} {hi:Nat} (h:Sl f s w 0 hi v l):FRel w (λg=>g<w.heap.size) (eL c<|l.map e) v:=by
 obtain ⟨A,cap,rfl,hc,hm,h⟩:=h;have key:∀ (g o:Nat),(0<l.length->A=QZ ⟨g,o,Q0⟩/\g<w.heap.size/\∀ (k:Nat) (h:k<l.length) (j:Nat) (u:Value),(f l[k])[j]? = QZ u->w.cell? ⟨g,o+k*s+j,Q0⟩=QZ u)->FRel w (λg=>g<w.heap.size) (eL c<|l.map e) (.slice A l.length cap):=by
  intro g o hh;have hrow:∀ (i j:Nat) (a:AV),i<l.length->(c<|(l.map e).getD i QW)[j]? = QZ a->∃ u,l[i]?.bind (λx=>(f x)[j]?)=QZ u/\a = .v u/\plain u=QX/\w.cell? ⟨g,o+i*s+j,Q0⟩=QZ u:=by
   intro i j a hi ha;have h0:(l.map e).getD i QW=e l[i]:=by simp [List.getD,hi]
   rw [h0,hf,Wh] at ha
   cases hq:(f l[i])[j]? with
   | none=>rw [hq] at ha;cases ha
   | some u=>
    rw [hq] at ha;refine ⟨u,by rw [geq hi];exact hq,(osl ha).symm,hp _ u<|List.mem_of_getElem? hq,(hh<|by omega).2.2 i hi j u hq⟩
  have e0:(l.map e).length=l.length:=by simp
  unfold eL;rw [e0];refine FRel.sl (s:=s) (g:=g) (o:=o) (λi j=>(l[i]?.bind λx=>(f x)[j]?).getD<|.bool QY) hc hm (λhn=>⟨(hh hn).1,(hh hn).2.1,(hh hn).2.1⟩) (λi hi=>?_) (λi j a hi ha=>?_) (λi j a hi ha=>?_) λi j a hi ha=>?_
  ·have h0:(l.map e).getD i QW=e l[i]:=by simp [List.getD,hi]
   rw [h0,hf,llm,hs]
  ·obtain ⟨u,h1,h2,h3,h4⟩:=hrow i j a hi ha;simp only [h1,Wi];exact h4
  ·obtain ⟨u,h1,h2,h3,h4⟩:=hrow i j a hi ha;simp only [h1,Wi];exact Ew h3
  obtain ⟨u,h1,h2,h3,h4⟩:=hrow i j a hi ha;subst h2;simp only [h1,Wi];exact .v h3
 by_cases h0:0<l.length
 ·obtain ⟨b,o,hA,_,_,hlt,hcell⟩:=h h0;exact key b o λ_=>⟨hA,hlt,hcell⟩
 exact key 0 0 λh1=>absurd h1 h0
theorem En {P:Program} {g:FuncId} {ars:List AV} {r:AV} (h:ax P g ars r) (vs:Array Value) (hl:vs.size=ars.length) (hr:∀ (i:Nat) (a:AV) (v:Value),ars[i]? = QZ a->vs[i]? = QZ v->FRel w (λg=>g<w.heap.size) a v) (hgl:Gl w (λg=>g<w.heap.size):=by exact gl_none) :
  Calls P g vs w λe w'=>∃ v fz',e = .returned v/\Below w.heap.size w w'/\FRel w' fz' r v:=
 (h.2 w _ vs (λg hg=>hg) hgl hl hr).mono λe w' ⟨v,fz',h1,h2,h3,_⟩=>⟨v,fz',h1,h2,h3⟩
theorem PT {a:AV} {u:Value} (h:FRel w fz a u):∀ (i:Nat) (a':AV) (v:Value),[a][i]? = QZ a' -> #[u][i]? = QZ v->FRel w fz a' v:=by
 intro i a' v h1 h2
 match i with
 | 0=>
  obtain rfl:=osl h1;obtain rfl:u=v:=by simpa using h2
  exact h
 | i+1=>simp at h1
end
theorem Iv {w:World} {v:Value} {hi:Nat} {l:LI} (h:Sl H6 1 w 0 hi v l):FRel w (λg=>g<w.heap.size) (eL cY l) v:=by
 have := Iu (f:=H6) (s:=1) (c:=cY) (e:=id) (λ_=>rfl) (λ_=>rfl) (λx u hu=>by simp [H6] at hu;subst hu;rfl) h
 rwa [List.map_id] at this
theorem Gy {P:Program} {g:FuncId} {ars:List AV} {w:World} {vs:Array Value} (h:ax P g ars<|Bo QX) (hl:vs.size=ars.length) (hr:∀ (i:Nat) (a:AV) (v:Value),ars[i]? = QZ a->vs[i]? = QZ v->FRel w (λg=>g<w.heap.size) a v) (hgl:Gl w (λg=>g<w.heap.size):=by exact gl_none) :
  Calls P g vs w λe w'=>e = .returned (.bool QX)/\Below w.heap.size w w':=
 (En h vs hl hr hgl).mono λe w' ⟨v,fz',h1,h2,h3⟩=>⟨by rw [h1,Kj h3],h2⟩
open Go.Shelf Go.RowKit Go.Lib
def Mg:Go.Shelf.Ren:=⟨λ| 156=>103 | 165=>172 | 166=>173 | 169=>174 | 240=>237 | 241=>238 | 276=>273 | 277=>274 | n=>n,λ| 31=>51 | 9=>9 | 3=>3 | 4=>4 | 0=>0 | 20=>20 | 72=>198 | 76=>201 | 70=>196 | 37=>22 | 75=>200 | 127=>242 | 164=>264 | 5=>5 | 80=>203 | n=>n,λ| n=>n⟩
theorem Mh:Go.Proofs.Lays.n156 Q4 Mg where
 mixed:=by kernel_rfl
 f156:=func103.trans<|congrArg QZ (by kernel_rfl)
 f165:=func172.trans<|congrArg QZ (by kernel_rfl)
 f166:=func173.trans<|congrArg QZ (by kernel_rfl)
 f169:=func174.trans<|congrArg QZ (by kernel_rfl)
 f240:=func237.trans<|congrArg QZ (by kernel_rfl)
 f241:=func238.trans<|congrArg QZ (by kernel_rfl)
 f276:=func273.trans<|congrArg QZ (by kernel_rfl)
 f277:=func274.trans<|congrArg QZ (by kernel_rfl)
 t0:=Tryz.underlying0
 a0:=Tryz.isAgg0
 z0:=Tryz.sizeOf0
 v0:=Tryz.zeroValue0
 t3:=Tryz.underlying3
 a3:=Tryz.isAgg3
 z3:=Tryz.sizeOf3
 v3:=Tryz.zeroValue3
 t4:=Tryz.underlying4
 a4:=Tryz.isAgg4
 z4:=Tryz.sizeOf4
 v4:=Tryz.zeroValue4
 t9:=Tryz.underlying9
 a9:=Tryz.isAgg9
 z9:=Tryz.sizeOf9
 v9:=Tryz.zeroValue9
 t20:=Tryz.underlying20
 a20:=Tryz.isAgg20
 z20:=Tryz.sizeOf20
 v20:=Tryz.zeroValue20
 t31:=Tryz.underlying51
 a31:=Tryz.isAgg51
 z31:=Tryz.sizeOf51
 v31:=Tryz.zeroValue51
 t37:=Tryz.underlying22
 a37:=Tryz.isAgg22
 z37:=Tryz.sizeOf22
 v37:=Tryz.zeroValue22
 t70:=Tryz.underlying196
 a70:=Tryz.isAgg196
 z70:=Tryz.sizeOf196
 v70:=Tryz.zeroValue196
 t72:=Tryz.underlying198
 a72:=Tryz.isAgg198
 z72:=Tryz.sizeOf198
 v72:=Tryz.zeroValue198
 t75:=Tryz.underlying200
 a75:=Tryz.isAgg200
 z75:=Tryz.sizeOf200
 v75:=Tryz.zeroValue200
 t76:=Tryz.underlying201
 a76:=Tryz.isAgg201
 z76:=Tryz.sizeOf201
 v76:=Tryz.zeroValue201
 t127:=Tryz.underlying242
 a127:=Tryz.isAgg242
 z127:=Tryz.sizeOf242
 v127:=Tryz.zeroValue242
 t164:=Tryz.underlying264
 a164:=Tryz.isAgg264
 z164:=Tryz.sizeOf264
 v164:=Tryz.zeroValue264
theorem Qj:Builder.Extra Q4 Mg where
 sizeBuilder:=by kernel_rfl
 liesBuilder:=by kernel_rfl
 t5:=Tryz.underlying5
 a5:=Tryz.isAgg5
 z5:=Tryz.sizeOf5
 v5:=Tryz.zeroValue5
 infoByte:=by kernel_rfl
 cellsByte:=by kernel_rfl
 sizeByte:=by kernel_rfl
 neB5:=by decide
open Go.RowKit Go.Shelf
abbrev jA:=@TO.nil
abbrev jC:=@T.region
abbrev jE:=@T.block
abbrev jG:=@T.skip
abbrev jH:=@T.seq
abbrev jI:=@T.sr
abbrev jK:=@T.ret
abbrev jM:=@T.exit
abbrev jN:=@T.ifH
abbrev jO:=@T.loop
abbrev jP:=@T.drawF
abbrev jQ:=@Fin.ret
abbrev jR:=@TF.nil
theorem qC {m:Nat} {H:AH} {a:AV} (h:isF 9 a=QX):Fz m H a a:=.of_isF 9 _ h
theorem qD {α:Sort _} {β:α->Sort _} {f:(x:α)->β x}:∀ x,f x=f x:=λ_=>rfl
theorem Am (l:List BA) (sep:BA) {q} (h:rN l sep=QZ q):ax Q4 103 [eL cS l,St sep] (St q):=by
 unfold rN at h;obtain ⟨⟨h1,h2⟩,h⟩:=gdD h;obtain rfl:=osl h;refine ⟨by kernel_rfl,λw fz vs hlt _ hl hrel=>?_⟩;obtain ⟨u,v,rfl⟩:∃ u v,vs = #[u,v]:=by
  obtain ⟨l⟩:=vs
  match l,hl with
  | [u,v],_=>exact ⟨u,v,rfl⟩
 obtain rfl:=Kj<|hrel 1 _ v rfl rfl;have hs:=DI (f:=λs=>[Value.string s]) (s:=1) (c:=cS) (e:=id) (λ_=>rfl) (λ_=>rfl)<|hrel 0 _ u rfl rfl;rw [List.map_id] at hs;obtain ⟨A,cap,rfl,hc,hm,hx⟩:=hs;have key:Calls Q4 103 #[.slice A l.length cap,.string sep] w λe w'=>e = .returned (.string<|uR l sep)/\Below w.heap.size w w':=by
  by_cases hn:0<l.length
  ·obtain ⟨b,o,rfl,_,_,hlt,hcell⟩:=hx hn;exact Any.strings_Join Mh Qj b o cap l sep w (λj x hj=>by
    obtain ⟨hj1,rfl⟩:=ges hj;have := hcell j hj1 0 _ rfl;simpa using this) hlt h1 hc (by simpa [uR,ByteArray.size] using h2)
  obtain rfl:l=[]:=Wp (by omega);exact (Any.strings_Join_none Mh Qj A cap sep w).mono λe w' ⟨he,hw⟩=>⟨he,hw ▸ Below.refl _ _⟩
 refine key.mono λe w' ⟨he,hb⟩ => ?_;exact ⟨_,fz,he,hb,.v Z,λg hg=>hg,λg hg => .inl hg,λg hg=>Wj (hlt g hg) hb.size⟩
theorem Mi {vs:Array Value} {a:AV} (hl:vs.size=[a].length):∃ u,vs = #[u]:=by
 obtain ⟨l⟩:=vs
 match l,hl with
 | [u],_=>exact ⟨u,rfl⟩
theorem vI (p:List<|List QH) {q} (h:dA p=QZ q):ax Q4 29 [eL (cL QH.c) p] (Bo q):=by
 unfold dA at h;obtain ⟨⟨h1,h2⟩,h⟩:=gdD h;obtain rfl:=osl h;refine ⟨by kernel_rfl,λw fz vs hlt _ hl hrel=>?_⟩;obtain ⟨u,rfl⟩:=Mi hl;have hs:=Ab (f:=Ins.cells) (s:=4) (e:=iQ) (λ_=>rfl) (λ_=>rfl)<|hrel 0 _ u rfl rfl;refine (vw hs (Nat.le_refl _)<|by rw [EO];exact h2).mono λe w' ⟨he,hb⟩ => ?_;exact ⟨_,fz,he,hb,.v Z,λg hg=>hg,λg hg => .inl hg,λg hg=>Wj (hlt g hg) hb.size⟩
theorem jf (p:List<|List QH) {q} (h:aV p=QZ q):ax Q4 52 [eL (cL QH.c) p] (Bo q):=by
 unfold aV at h;obtain ⟨⟨h1,h2⟩,h⟩:=gdD h;obtain rfl:=osl h;refine ⟨by kernel_rfl,λw fz vs hlt _ hl hrel=>?_⟩;obtain ⟨u,rfl⟩:=Mi hl;have hs:=Ab (f:=Ins.cells) (s:=4) (e:=iQ) (λ_=>rfl) (λ_=>rfl)<|hrel 0 _ u rfl rfl;refine (vv hs (Nat.le_refl _)<|by rw [EO];exact h2).mono λe w' ⟨he,hb⟩ => ?_;exact ⟨_,fz,he,hb,.v Z,λg hg=>hg,λg hg => .inl hg,λg hg=>Wj (hlt g hg) hb.size⟩
open Go.RowKit Go.WideShapes Go.ChangeShapes Go.Deep
section
variable {H:Type} {enc:TypeId×Value->H} {P:Program}
theorem Eo {f:Func} {s:ChangeSpec} {apart fresh handsOn again:Bool} {W W':World} {args:Array Value} {v:Value} {ds gs:List (DataW H)} {before pa pv:List MemPlace}
  (hW:DataW.Whole enc P f.params.toList s.vars apart W args.toList ds gs before)
  (hres:∀ (b:Nat) (sp:Nat->Bool) (hd:Bool),DataW.TrodAll enc P W' b sp hd f.resultTypes.toList (v.resultList f.resultTypes.size) (s.fn H<|ds++gs).results [])
  (hargs:∀ sp:Nat->Bool,(∀ p∈before,sp p.block=QX)->DataW.TrodAll enc P W' 0 sp QX f.params.toList args.toList (s.fn H<|ds++gs).args pa)
  (hvars:∀ sp:Nat->Bool,(∀ p∈before,sp p.block=QX)->DataW.TrodVars enc P W' sp s.vars (s.fn H<|ds++gs).vars pv)
  (hps:before=pa++pv) (hb:Below W.heap.size W W')
  (hok:∀ (j:Nat) (t:TypeId) (r:Value),f.resultTypes[j]? = QZ t->(v.resultList f.resultTypes.size)[j]? = QZ r->Value.okWide P W' .any 0 t r) :
  s.post enc P f apart fresh handsOn again W args v W':=by
 have hlt:∀ p∈before,p.block<W.heap.size:=λp hp=>hW.lt p hp;have hold:∀ p∈before,(λb=>Q3<|b<W.heap.size) p.block=QX:=λp hp=>by simpa using hlt p hp
 refine ⟨ds,gs,before,[],pa,pv,hW,hres _ _ _,hargs _ hold,hvars _ hold,World.keptBut_mono (λp hp=>⟨hp,?_⟩) (hb.frame (· ∈ before)),λ_=>?_⟩
 ·rw [hps,List.mem_append] at hp;exact Or.inr hp
 obtain ⟨_,_,_,_,_,hz,hn⟩:=hW;refine ⟨hok,_,_,([]++pa)++pv,⟨[]++pa,pv,trodAll_append (hargs _ λ_ _=>rfl)<|hres _ _ _,hvars _ λ_ _=>rfl,rfl,?_,?_⟩,?_⟩
 ·intro b off hp;have hin:MemPlace.cell b off∈before:=by rw [hps];simpa using hp
  rw [hb.frozen (hlt _ hin)];exact hz b off hin
 ·intro ha;have := hn ha;rw [hps] at this;simpa using this
 intro p hp _;rw [hps];simpa using hp
theorem yz (hl:laidOutB P=QX) {W W':World} (hb:Below W.heap.size W W') {sp:Nat->Bool}:∀ (ts:List TypeId) (vs:List Value) (ds:List<|DataW H) (ps:List MemPlace),
  (∀ t∈ts,P.readableRec t=QX/\t<P.types.size)->DataW.TrodAll enc P W 0 (λ_=>QX) QX ts vs ds ps->(∀ x∈ps,x.block<W.heap.size)->(∀ x∈ps,sp x.block=QX) ->
  DataW.TrodAll enc P W' 0 sp QX ts vs ds ps
 | [],[],[],_,_,h,_,_=>h
 | t::ts,v::vs,d::ds,ps,hr,⟨p,q,h1,h2,hpq⟩,hlt,hs=>by
  subst hpq;have hp:∀ x∈p,x.block<W.heap.size:=λx hx=>hlt x (Wm _ hx);exact ⟨p,q,WideElems.Trod_stays hl (hr t (by simp)).1 (hr t (by simp)).2 h1 (λx hx=>hb.same (hp x hx)) (λx hx=>hs x (Wm _ hx)),
   yz hl hb ts vs ds q (λt ht=>hr t (List.mem_cons_of_mem _ ht)) h2 (λx hx=>hlt x (Wn _ hx)) (λx hx=>hs x (Wn _ hx)),rfl⟩
 | [],_::_,_,_,_,h,_,_=>(by cases h)
 | [],[],_::_,_,_,h,_,_=>(by cases h)
 | _::_,[],_,_,_,h,_,_=>(by cases h)
 | _::_,_::_,[],_,_,h,_,_=>(by cases h)
variable {w:World} {spare:Nat->Bool} {held:Bool}
theorem Lv {α:Type} {f:α->List Value} {s:Nat} {t e:TypeId} (hs:P.cellsOf e=s) (hs0:0<s) (ht:P.underlying t=QZ (.slice e)) {Good:α->Prop}
  (hel:∀ (fuel:Nat) (cs:List Value) (x:DataW H×List MemPlace),DataW.trod enc P w 0 spare held fuel e cs=QZ x->∃ a,cs=f a/\Good a) {fuel:Nat} {cs:List Value} {x:DataW H×List MemPlace}
  (h:DataW.trod enc P w 0 spare held fuel t cs=QZ x):∃ v,cs=[v]/\∃ xs:List α,Sl f s w 0 w.heap.size v xs/\∀ y∈xs,Good y:=by
 rcases open_slice ht h with ⟨rfl,_⟩ | ⟨a,len,cap,m,n,D,Pl,rfl,_,hl,hm,hmm,_,hi⟩
 ·exact ⟨_,rfl,[],Sl.nil_ _ _ (by omega),λy hy=>absurd hy<|by simp⟩
 refine ⟨_,rfl,?_⟩;have hlm:len<=m:=by rw [hmm];split <;> omega
 have key:∀ i,i<len->∃ y:α,Good y/\∀ (j:Nat) (u:Value),(f y)[j]? = QZ u->w.cell? ((a.add<|i*s).add j)=QZ u:=by
  intro i hil;obtain ⟨cs',hc,ht'⟩:=hi i (by omega);obtain ⟨y,rfl,hg⟩:=hel _ _ _ ht';obtain ⟨_,hcl,hat⟩:=World.cells?_some hc;rw [hs] at hat hcl;exact ⟨y,hg,λj u hu=>by
   have hj:j<s:=by
    have := (ges hu).1;omega
   rw [hat j hj];exact hu⟩
 have key2:∀ i,i<len->∃ cs',w.cells? 0 (a.add<|i*s) s=QZ cs':=by
  intro i hil;obtain ⟨cs',hc,_⟩:=hi i (by omega);rw [hs] at hc;exact ⟨cs',hc⟩
 clear hi;simp only [maxLen] at hm
 by_cases hn:0<len
 ·obtain ⟨cs0,hc0⟩:=key2 0 hn;obtain ⟨_,hcl,hat⟩:=World.cells?_some hc0;have h00:=hat 0 hs0;rw [geq (by omega)] at h00;have hspot:=World.cell?_spot h00;obtain ⟨b,o,sp⟩:=a;have hsp:sp=Q0:=by simpa [Addr.add] using hspot
  subst hsp;have hb:b<w.heap.size:=by
   have := World.block_lt_of_cell? w _ h00;simpa [yY] using this
  have hch:∃ F:Nat->α,∀ i,i<len->Good (F i)/\∀ (j:Nat) (u:Value),(f<|F i)[j]? = QZ u->w.cell? (((⟨b,o,Q0⟩:Addr).add<|i*s).add j)=QZ u:=by
   obtain ⟨y0,_⟩:=key 0 hn;refine ⟨λi=>if h:i<len then (key i h).choose else y0,λi hil=>?_⟩;simp only [dif_pos hil];exact (key i hil).choose_spec
  obtain ⟨F,hF⟩:=hch;refine ⟨(V9 len).map F,⟨_,cap,by simp,by simpa using hl,by omega,λ_=>⟨b,o,rfl,Nat.zero_le _,hb,hb,λk hk j u hu=>?_⟩⟩,λy hy=>?_⟩
  ·have hk':k<len:=by simpa using hk
   have := (hF k hk').2 j u (by simpa using hu)
   rwa [yY,yY] at this
  rw [List.mem_map] at hy;obtain ⟨i,hi,rfl⟩:=hy;exact (hF i<|by simpa using hi).1
 have h0:len=0:=by omega
 subst h0;exact ⟨[],Sl.nil_ _ _ (by omega),λy hy=>absurd hy<|by simp⟩
theorem O5 {t:TypeId} {k:IntKind} (ht:P.underlying t=QZ (.int k)) (fuel:Nat) (cs:List Value) (x:DataW H×List MemPlace) (h:DataW.trod enc P w 0 spare held fuel t cs=QZ x) :
  ∃ a:Int,cs=[.int k a]/\(Lit.int k a).wf=QX:=by
 obtain ⟨n,h1,_,h3⟩:=DataW.trod_int ht h;exact ⟨n,h1,h3⟩
end
theorem one_cell {v u:Value} (h:v.cells.toList=[u]) (hv:∃ a len cap,v = .slice a len cap):v=u:=by
 obtain ⟨a,len,cap,rfl⟩:=hv;simpa [Value.cells] using h
open Go.ChangeShapes Go.WideShapes Go.ChangeAt Go.RowKit Go.Sort
theorem Co {w:World} {blk off g:Nat} {d:Array Int} (h:g≠blk):(putRow (Value.int .i64) w blk off d).heap[g]? = w.heap[g]? := by
 show (w.heap.modify blk _)[g]? = _;rw [Wq,if_neg (Ne.symm h)]
theorem Cq {w:World} {blk off:Nat} {d:Array Int} {cs:Array Value} {t:TypeId} {fr:Nat×Nat} (h:w.heap[blk]? = QZ (.cells cs t fr)):(putRow (Value.int .i64) w blk off d).heap[blk]? = QZ (.cells (putCells (Value.int .i64) off d cs) t fr):=by
 show (w.heap.modify blk _)[blk]? = _;rw [Wq,if_pos rfl,h]
 rfl
theorem sF {off:Nat} {d:Array Int} {cs:Array Value}:(putCells (Value.int .i64) off d cs).size=cs.size:=by simp [putCells]
theorem Ep {off:Nat} {d:Array Int} {cs:Array Value} {k:Nat} (h:off+d.size<=cs.size) (hk:k<d.size):(putCells (Value.int .i64) off d cs)[off+k]? = QZ (.int .i64 d[k]!):=by
 unfold putCells;rw [Array.getElem?_mapIdx,Array.getElem?_eq_getElem (by omega)];simp only [Option.map_some];rw [if_pos (by omega),show off+k-off=k by omega]
theorem Lx {c:Cx} (hr:HRel c) {l q:LI} {ver uA:Nat} (hH:c.H=[QZ ⟨ver,1,3,l.map cI⟩]) {cs:Array Value} {fr0:Nat×Nat} (hB:BRel c 0 ⟨ver,1,3,l.map cI⟩ cs<|QZ fr0) {d':Array Int} (hd:d'.size=l.length) (hq:q.length<=d'.size)
  (hqe:∀ i (h:i<q.length),d'[i]! = q[i]) {m:Nat} {os:Array Obj} (hv:(uA=ver/\q.length=l.length)\/ver<uA) :
  ∃ c',c'.w=grow (putRow (Value.int .i64) (Sort.ahead c.w m) (c.φ 0).1 (c.φ 0).2 d') os/\c'.H=[QZ ⟨uA,1,3,q.map cI⟩]/\HRel c'/\Ext c c'/\c'.φ 0=c.φ 0/\c'.w.heap[(c.φ 0).1]? = QZ (.cells (putCells (Value.int .i64) (c.φ 0).2 d' cs) 3 fr0):=by
 have hlv:c.live 0 ⟨ver,1,3,l.map cI⟩:=by
  unfold Cx.live;rw [hH]
  rfl
 have hat:c.w.heap[(c.φ 0).1]? = QZ (.cells cs 3 fr0):=hB.at_;have hblk:(c.φ 0).1<c.w.heap.size:=hr.live_lt hlv;have hfit:(c.φ 0).2+l.length<=cs.size:=by
  have := hB.fits;simpa using this
 have he1:Ext c (c.upd 0 ⟨uA,1,3,q.map cI⟩ ((c.φ 0).1,(c.φ 0).2) (putCells (Value.int .i64) (c.φ 0).2 d' cs)):=Cx.upd_ext hr hlv hB sF (by
  rcases hv with ⟨h1,h2⟩ | h
  ·exact .inl ⟨h1,rfl,by simp [h2],rfl⟩
  exact .inr h)
 have hr1:=Cx.upd_rel hr hlv hB (k:=⟨uA,1,3,q.map cI⟩) (o:=(c.φ 0).2) (cs:=putCells (Value.int .i64) (c.φ 0).2 d' cs) sF rfl he1 Nat.one_pos (by rw [sF];simp;omega) (λi row h=>by
  obtain ⟨x,_,rfl⟩:=by simpa [Wh,Option.map_eq_some_iff] using h
  rfl) (λi row j a h1 h2=>by
  have hi:i<q.length:=by simpa using (ges h1).1
  have hrw:row=cI q[i]:=by
   have := (ges h1).2;rw [<- this];simp
  subst hrw
  match j,h2 with
  | 0,h2=>
   obtain rfl:=osl h2;refine ⟨.int .i64 d'[i]!,?_,rfl,?_⟩
   ·have := Ep (off:=(c.φ 0).2) (d:=d') (cs:=cs) (k:=i) (by omega) (by omega);simpa using this
   rw [hqe i hi];exact .fr<|.v rfl
  | j+1,h2=>simp [cI] at h2)
 have hbl:Below (c.upd 0 ⟨uA,1,3,q.map cI⟩ ((c.φ 0).1,(c.φ 0).2)<|putCells (Value.int .i64) (c.φ 0).2 d' cs).w.heap.size (c.upd 0 ⟨uA,1,3,q.map cI⟩ ((c.φ 0).1,(c.φ 0).2)<|putCells (Value.int .i64) (c.φ 0).2 d' cs).w (grow (putRow (Value.int .i64) (Sort.ahead c.w m) (c.φ 0).1 (c.φ 0).2 d') os):=by
  have hz:(c.upd 0 ⟨uA,1,3,q.map cI⟩ ((c.φ 0).1,(c.φ 0).2)<|putCells (Value.int .i64) (c.φ 0).2 d' cs).w.heap.size=c.w.heap.size:=by simp [Cx.upd]
  have hs:(putRow (Value.int .i64) (Sort.ahead c.w m) (c.φ 0).1 (c.φ 0).2 d').heap.size=c.w.heap.size:=by rw [size_putRow];rfl
  refine ⟨rfl,rfl,rfl,?_,λg hg=>?_⟩
  ·rw [hz];show _<=((putRow (Value.int .i64) (Sort.ahead c.w m) (c.φ 0).1 (c.φ 0).2 d').heap++os).size;rw [Array.size_append,hs];omega
  rw [hz] at hg;show ((putRow (Value.int .i64) (Sort.ahead c.w m) (c.φ 0).1 (c.φ 0).2 d').heap++os)[g]? = (c.w.setRow (c.φ 0).1<|putCells (Value.int .i64) (c.φ 0).2 d' cs).heap[g]?;rw [Array.getElem?_append_left (by rw [hs];exact hg)]
  by_cases e:g=(c.φ 0).1
  ·subst e;rw [Cq (w:=Sort.ahead c.w m) hat,setRow_heap _ _ _ _ _ _ hat]
  rw [Co e,setRow_other _ _ _ _ e]
  rfl
 obtain ⟨g1,g2⟩:=BN hr1 hbl (fz':=λ_=>False) (λ_ h=>h.elim) (λ_ h=>h.elim) λ_ _ _ h=>h;refine ⟨_,rfl,?_,g1,he1.trans g2,?_,?_⟩
 ·show c.H.set 0 _=_;rw [hH]
  rfl
 ·rfl
 have hz:(c.upd 0 ⟨uA,1,3,q.map cI⟩ ((c.φ 0).1,(c.φ 0).2)<|putCells (Value.int .i64) (c.φ 0).2 d' cs).w.heap.size=c.w.heap.size:=by simp [Cx.upd]
 have := hbl.block (c.φ 0).1 (by rw [hz];exact hblk);refine this.trans ?_;show (c.w.setRow (c.φ 0).1<|putCells (Value.int .i64) (c.φ 0).2 d' cs).heap[_]? = _;exact setRow_heap _ _ _ _ _ _ hat
theorem Ly {c:Cx} (hr:HRel c) {l:LI} {ver:Nat} (hH:c.H=[QZ ⟨ver,1,3,l.map cI⟩]) {u:Value} (hu:c.rel (.hs 0 ver 1 0 l.length) u) (hn:0<l.length) :
  ∃ cs fr0 cap,BRel c 0 ⟨ver,1,3,l.map cI⟩ cs (QZ fr0)/\u = .slice (QZ ⟨(c.φ 0).1,(c.φ 0).2,Q0⟩) l.length cap/\l.length<=cap/\cap<=9223372036854775807/\(c.φ 0).2+cap<=cs.size/\Holds (Value.int .i64) c.w (c.φ 0).1 (c.φ 0).2 l.toArray/\(c.φ 0).1<c.w.heap.size:=by
 have hlv:c.live 0 ⟨ver,1,3,l.map cI⟩:=by
  unfold Cx.live;rw [hH]
  rfl
 obtain ⟨cs,fr0,hB⟩:=hr.blk 0 _ hlv
 cases hu with
 | fr h=>cases h
 | @hs _ _ _ _ _ cap A hb hc hm h0 h=>
 obtain ⟨f,rfl,hat,hhd⟩:=hB.cells hlv λx hx=>(h x hx).1;obtain ⟨_,_,h3,h4⟩:=h _ hhd;have hA:=h3 (by omega);simp only [Nat.zero_mul,Nat.add_zero,Nat.mul_one] at hA h4;refine ⟨cs,f,cap,hB,by rw [hA],hc,hm,h4,λj hj=>?_,hr.live_lt hlv⟩;have hj:j<l.length:=by simpa using hj
 have hj2:(c.φ 0).2+j<cs.size:=by omega
 obtain ⟨u,g1,g2,g3⟩:=hB.rel j (cI l[j]) 0 (I l[j]) (by simp [hj]) rfl;refine ⟨?_,?_⟩
 ·simp only [World.cell?,hat];have := iR g3;simp only [Nat.mul_one,Nat.add_zero] at g1;rw [g1];obtain ⟨rfl,_⟩:=this;simp [hj]
 have := hB.fre f rfl _ hj2;obtain ⟨lo,hi'⟩:=f;simp only [World.frozen?,hat,Bool.and_eq_false_iff,decide_eq_false_iff_not];simp only at this;omega
open Go.Shelf Go.RowKit Go.Lib Go.Sort

open Go.ChangeShapes Go.WideShapes Go.ChangeAt Go.RowKit Go.Shelf Go.Sort

def O6:Go.Shelf.Ren:=⟨λ| 5=>34 | 8=>84 | 7=>83 | 19=>144 | 20=>145 | 10=>135 | 11=>136 | 12=>137 | 13=>138 | 14=>139 | 15=>140 | 16=>141 | 17=>142 | 18=>143 | 30=>200 | 31=>201 | 32=>202 | 33=>203 | 34=>204 | 35=>205 | 40=>250 | n=>n,λ| 23=>24 | 25=>3 | 3=>3 | 32=>108 | 22=>24 | 0=>0 | 44=>168 | 46=>170 | 4=>4 | 36=>163 | 35=>162 | 41=>37 | 5=>5 | 9=>9 | 53=>216 | 57=>220 | 63=>247 | 64=>248 | n=>n,λ| n=>n⟩
theorem Mj:Go.Proofs.SlLaysM.n5 Q4 O6 where
 mixed:=by kernel_rfl
 f5 := ⟨"slices.Sort[[]int,int]",by decide,Tryz.func34.trans (congrArg some (by kernel_rfl))⟩
 f7 := ⟨"slices.pdqsortOrdered[int]",by decide,Tryz.func83.trans (congrArg some (by kernel_rfl))⟩
 f8:=func84.trans<|congrArg QZ (by kernel_rfl)
 f10 := ⟨"slices.insertionSortOrdered[int]",by decide,Tryz.func135.trans (congrArg some (by kernel_rfl))⟩
 f11 := ⟨"slices.heapSortOrdered[int]",by decide,Tryz.func136.trans (congrArg some (by kernel_rfl))⟩
 f12 := ⟨"slices.breakPatternsOrdered[int]",by decide,Tryz.func137.trans (congrArg some (by kernel_rfl))⟩
 f13 := ⟨"slices.choosePivotOrdered[int]",by decide,Tryz.func138.trans (congrArg some (by kernel_rfl))⟩
 f14 := ⟨"slices.reverseRangeOrdered[int]",by decide,Tryz.func139.trans (congrArg some (by kernel_rfl))⟩
 f15 := ⟨"slices.partialInsertionSortOrdered[int]",by decide,Tryz.func140.trans (congrArg some (by kernel_rfl))⟩
 f16 := ⟨"cmp.Less[int]",by decide,Tryz.func141.trans (congrArg some (by kernel_rfl))⟩
 f17 := ⟨"slices.partitionEqualOrdered[int]",by decide,Tryz.func142.trans (congrArg some (by kernel_rfl))⟩
 f18 := ⟨"slices.partitionOrdered[int]",by decide,Tryz.func143.trans (congrArg some (by kernel_rfl))⟩
 f19:=func144.trans<|congrArg QZ (by kernel_rfl)
 f20:=func145.trans<|congrArg QZ (by kernel_rfl)
 f30 := ⟨"slices.siftDownOrdered[int]",by decide,Tryz.func200.trans (congrArg some (by kernel_rfl))⟩
 f31:=func201.trans<|congrArg QZ (by kernel_rfl)
 f32:=func202.trans<|congrArg QZ (by kernel_rfl)
 f33 := ⟨"slices.medianAdjacentOrdered[int]",by decide,Tryz.func203.trans (congrArg some (by kernel_rfl))⟩
 f34 := ⟨"slices.medianOrdered[int]",by decide,Tryz.func204.trans (congrArg some (by kernel_rfl))⟩
 f35 := ⟨"cmp.isNaN[int]",by decide,Tryz.func205.trans (congrArg some (by kernel_rfl))⟩
 f40 := ⟨"slices.order2Ordered[int]",by decide,Tryz.func250.trans (congrArg some (by kernel_rfl))⟩
 t0:=Tryz.underlying0
 a0:=Tryz.isAgg0
 z0:=Tryz.sizeOf0
 v0:=Tryz.zeroValue0
 t3:=Tryz.underlying3
 a3:=Tryz.isAgg3
 z3:=Tryz.sizeOf3
 v3:=Tryz.zeroValue3
 t4:=Tryz.underlying4
 a4:=Tryz.isAgg4
 z4:=Tryz.sizeOf4
 v4:=Tryz.zeroValue4
 t5:=Tryz.underlying5
 a5:=Tryz.isAgg5
 z5:=Tryz.sizeOf5
 v5:=Tryz.zeroValue5
 t9:=Tryz.underlying9
 a9:=Tryz.isAgg9
 z9:=Tryz.sizeOf9
 v9:=Tryz.zeroValue9
 t22:=Tryz.underlying24
 a22:=Tryz.isAgg24
 z22:=Tryz.sizeOf24
 v22:=Tryz.zeroValue24
 t23:=Tryz.underlying24
 a23:=Tryz.isAgg24
 z23:=Tryz.sizeOf24
 v23:=Tryz.zeroValue24
 t25:=Tryz.underlying3
 a25:=Tryz.isAgg3
 z25:=Tryz.sizeOf3
 v25:=Tryz.zeroValue3
 t32:=Tryz.underlying108
 a32:=Tryz.isAgg108
 z32:=Tryz.sizeOf108
 v32:=Tryz.zeroValue108
 t35:=Tryz.underlying162
 a35:=Tryz.isAgg162
 z35:=Tryz.sizeOf162
 v35:=Tryz.zeroValue162
 t36:=Tryz.underlying163
 a36:=Tryz.isAgg163
 z36:=Tryz.sizeOf163
 v36:=Tryz.zeroValue163
 t41:=Tryz.underlying37
 a41:=Tryz.isAgg37
 z41:=Tryz.sizeOf37
 v41:=Tryz.zeroValue37
 t44:=Tryz.underlying168
 a44:=Tryz.isAgg168
 z44:=Tryz.sizeOf168
 v44:=Tryz.zeroValue168
 t46:=Tryz.underlying170
 a46:=Tryz.isAgg170
 z46:=Tryz.sizeOf170
 v46:=Tryz.zeroValue170
 t53:=Tryz.underlying216
 a53:=Tryz.isAgg216
 z53:=Tryz.sizeOf216
 v53:=Tryz.zeroValue216
 t57:=Tryz.underlying220
 a57:=Tryz.isAgg220
 z57:=Tryz.sizeOf220
 v57:=Tryz.zeroValue220
 t63:=Tryz.underlying247
 a63:=Tryz.isAgg247
 z63:=Tryz.sizeOf247
 v63:=Tryz.zeroValue247
 t64:=Tryz.underlying248
 a64:=Tryz.isAgg248
 z64:=Tryz.sizeOf248
 v64:=Tryz.zeroValue248
theorem Cr (l:LI) (g:Bool) (ver:Nat) (hg:g=QX->l=[]) {q} (h:pG l=QZ q) :
  dX Q4 34 [hS g 0 ver 1 l.length] [bE g ver 1 3 (l.map cI)] (.tup []) [bE g ver 1 3 (q.map cI)]:=by
 obtain ⟨hl,h⟩:=gdD h;obtain rfl:=osl h;refine ⟨by kernel_rfl,λc vs hH hr hall=>?_⟩;obtain ⟨hsz,hrel⟩:=hall;obtain ⟨u,rfl⟩:∃ u,vs = #[u]:=by
  match vs,hsz with
  | ⟨[u]⟩,_=>exact ⟨u,rfl⟩
 have hu:=hrel 0 _ u rfl rfl
 by_cases hn:0<l.length
 ·obtain rfl:g=QY:=by
   cases g with
   | false=>rfl
   | true=>
    rw [hg rfl] at hn;exact absurd hn (by simp)
  have hH:c.H=[QZ ⟨ver,1,3,l.map cI⟩]:=hH;obtain ⟨cs,fr0,cap,hB,rfl,hc,hm,hcs,hHo,hblk⟩:=Ly hr hH hu hn;have hcon:=AnyM.slices_Sort_int Mj (c.φ 0).1 (c.φ 0).2 cap l c.w hHo hblk hl;refine (show Calls Q4 34 _ _ _ from hcon).mono ?_;rintro e w' ⟨rfl,m,os,rfl⟩;have hll:(KV l).length=l.length:=(qh l).length_eq;obtain ⟨c',w1,w2,w3,w4,w5,w6⟩:=Lx hr hH hB (q:=KV l) (uA:=ver) (d':=(KV l).toArray) (by simpa using hll) (by simp) (λk hk=>by
   rw [getElem!_pos _ k (by simpa using hk)];simp) (m:=m) (os:=os) (.inl ⟨rfl,hll⟩)
  exact ⟨_,c',Z,w1,w2,w3,w4,.tup Z λi x y hx=>by simp at hx⟩
 obtain rfl:l=[]:=Wp (by omega);obtain ⟨A,cap,rfl⟩:∃ A cap,u = .slice A 0 cap:=by
  cases g with
  | true=>
   cases hu with
   | fr h=>cases h;exact ⟨_,_,rfl⟩
  | false=>
   obtain ⟨A,cap,h6,_⟩:=p8 hu;exact ⟨A,cap,h6⟩
 refine (show Calls Q4 34 _ _ _ from AnyM.slices_Sort_int_none Mj A cap c.w).mono ?_;rintro e w' ⟨rfl,rfl⟩;refine ⟨_,c,Z,Z,?_,hr,Ext.refl c,.tup Z λi x y hx=>by simp at hx⟩;rw [hH,(qh []).eq_nil]
def tz (ops:Array Oper) (e:Env) (o:Oper) (w:Bool):Prop:=match o.guard with
 | none=>w=QX
 | some (j,b)=>(∃ q,dL ops.toList e j = .v (.bool q)/\w=(q==b))\/(dL ops.toList e j = .tup []/\w=QY)
theorem tz.wants {ops:Array Oper} {e:Env} {o:Oper} {w:Bool} (h:tz ops e o w):yS ops e o w:=by
 unfold tz at h
 cases hg:o.guard with
 | none=>
  rw [hg] at h;subst h;exact .free hg
 | some x=>
  obtain ⟨j,b⟩:=x;rw [hg] at h;rcases h with ⟨q,h1,h2⟩ | ⟨h1,h2⟩
  ·subst h2
   by_cases e1:q=b
   ·subst e1;rw [beq_self_eq_true];exact .yes hg h1 rfl
   have e2:(q==b)=QY:=by simpa using e1
   rw [e2];exact .no hg h1 (by cases q <;> cases b <;> simp_all)
  subst h2;exact .un hg h1
theorem tz.congr {ops:Array Oper} {e e':Env} {o:Oper} {w:Bool} (h:tz ops e o w) (he:∀ t∈o.looksAt ops,e t=e' t):tz ops e' o w:=by
 unfold tz at h ⊢
 cases hg:o.guard with
 | none=>rw [hg] at h;exact h
 | some x=>
  obtain ⟨j,b⟩:=x;rw [hg] at h;have hy:dL ops.toList e' j=dL ops.toList e j:=by
   unfold dL
   cases hd:(ops.toList[j]?).bind (·.dst) with
   | none=>rfl
   | some d=>
    refine (he d ?_).symm;unfold Oper.looksAt;rw [hg];refine Wn _ ?_;have : (ops[j]?).bind (·.dst)=QZ d:=by simpa using hd
    show d∈((ops[j]?).bind (·.dst)).toList;rw [this];simp
  simp only [hy];exact h
theorem Kl {ops:Array Oper} {e e':Env} {o:Oper} (he:∀ t∈o.looksAt ops,e t=e' t):∀ x∈o.op.operands,rho e x=rho e' x:=by
 intro x hx
 cases x with
 | tmp t=>exact he t (Wm _<|List.mem_filterMap.2 ⟨.tmp t,by simpa using hx,rfl⟩)
 | _=>rfl
theorem Ft {ops:Array Oper} {e:Env} {oi oj:Oper} {r:AV} (h:∀ d,oi.dst=QZ d->d∉oj.looksAt ops):∀ t∈oj.looksAt ops,sI e oi.dst r t=e t:=by
 intro t ht
 cases hd:oi.dst with
 | none=>rfl
 | some d=>
  rw [xK];show (if t=d then r else e t)=e t;have hne:t≠d:=by
   rintro rfl;exact h t hd ht
  rw [if_neg hne]
def O7 (P:Program) (ops:Array Oper) (o:Oper) (e:Env) (H:AH) (r:AV) (H':AH):Prop:=(tz ops e o QX/\QC P o (rho e) H r H')\/(tz ops e o QY/\r = .tup []/\H'=H)
theorem O7.congr {P:Program} {ops:Array Oper} {o:Oper} {e e':Env} {H H':AH} {r:AV} (h:O7 P ops o e H r H') (he:∀ t∈o.looksAt ops,e t=e' t):O7 P ops o e' H r H':=by
 rcases h with ⟨h1,h2⟩ | ⟨h1,h2⟩
 ·exact .inl ⟨h1.congr he,h2.congr<|Kl he⟩
 exact .inr ⟨h1.congr he,h2⟩
def uW (P:Program) (ops:Array Oper) (o:Oper) (e:Env) (H:AH) (r:AV) (H':AH) (F:List Nat):Prop:=
 H'.length=H.length/\(∀ b,b∉F->H'[b]? = H[b]?)/\∀ G,agree F G H->∃ G',G'.length=G.length/\(∀ b∈F,G'[b]? = H'[b]?)/\(∀ b,b∉F->G'[b]? = G[b]?)/\O7 P ops o e G r G'
section
variable {P:Program} {ops:Array Oper} {o:Oper} {e:Env} {H H':AH} {r:AV} {F:List Nat}
theorem uW.op (h:uW P ops o e H r H' F):O7 P ops o e H r H':=by
 obtain ⟨h1,h2,h3⟩:=h;obtain ⟨G',g1,g2,g3,g4⟩:=h3 H ⟨rfl,λ_ _=>rfl⟩;have : G'=H':=by
  apply We;intro b
  by_cases hb:b∈F
  ·exact g2 b hb
  rw [g3 b hb,h2 b hb]
 exact this ▸ g4
theorem uW.congr {e':Env} (h:uW P ops o e H r H' F) (he:∀ t∈o.looksAt ops,e t=e' t):uW P ops o e' H r H' F:=by
 obtain ⟨h1,h2,h3⟩:=h;refine ⟨h1,h2,λG hG=>?_⟩;obtain ⟨G',g1,g2,g3,g4⟩:=h3 G hG;exact ⟨G',g1,g2,g3,g4.congr he⟩
theorem uW.at_ {G:AH} (h:uW P ops o e H r H' F) (hG:agree F G H):∃ G',G'.length=G.length/\(∀ b∈F,G'[b]? = H'[b]?)/\(∀ b,b∉F->G'[b]? = G[b]?)/\uW P ops o e G r G' F:=by
 obtain ⟨h1,h2,h3⟩:=h;obtain ⟨G',g1,g2,g3,g4⟩:=h3 G hG;refine ⟨G',g1,g2,g3,g1,g3,λK hK=>?_⟩;obtain ⟨K',k1,k2,k3,k4⟩:=h3 K ⟨hK.1.trans hG.1,λb hb=>(hK.2 b hb).trans<|hG.2 b hb⟩;exact ⟨K',k1,λb hb=>(k2 b hb).trans (g2 b hb).symm,k3,k4⟩
theorem uW.ofF (hw:tz ops e o QX) (h:qU P o (rho e) H r H' F):uW P ops o e H r H' F:=by
 obtain ⟨h1,h2,h3⟩:=h;refine ⟨h1,h2,λG hG=>?_⟩;obtain ⟨G',g1,g2,g3,g4⟩:=h3 G hG;exact ⟨G',g1,g2,g3,.inl ⟨hw,g4⟩⟩
theorem uW.skip (hw:tz ops e o QY) (F:List Nat):uW P ops o e H (.tup []) H F:=⟨rfl,λ_ _=>rfl,λG hG=>⟨G,rfl,hG.2,λ_ _=>rfl,.inr ⟨hw,rfl,rfl⟩⟩⟩
def NS (P:Program) (ops:Array Oper) (fp:Nat->Fp) (Q:Env->AH->Prop):Nat->Array Bool->Env->AH->Prop
 | 0,listed,e,H=>Region.ready .any ops listed=[]/\Q e H
 | fuel+1,listed,e,H=>(Region.ready .any ops listed=[]->Q e H) /\
  ∀ i∈Region.ready .any ops listed,∃ o r H',ops[i]? = QZ o/\uW P ops o e H r H' (fp i).1/\((fp i).2=QY->H'=H)/\NS P ops fp Q fuel (listed.setIfInBounds i QX) (sI e o.dst r) H'
theorem Iw {ops:Array Oper} {fp:Nat->Fp} {Q:Env->AH->Prop} {i:Nat} {oi:Oper} {r:AV} (hi:ops[i]? = QZ oi) :
  ∀ (fuel:Nat) (listed:Array Bool) (e:Env) (H Hi:AH),
   (∀ (j:Nat) (oj:Oper),ops[j]? = QZ oj->j≠i->listed.getD j QX=QY->(∀ ed∈oj.after,Region.binds .any ed=QX->ed.on≠i)->oi.apart ops oj=QX/\og (fp i) (fp j)=QX) ->
   i∈Region.ready .any ops listed->uW P ops oi e H r Hi (fp i).1->((fp i).2=QY->Hi=H)->NS P ops fp Q fuel (listed.setIfInBounds i QX) (sI e oi.dst r) Hi->NS P ops fp Q (fuel+1) listed e H:=by
 intro fuel
 induction fuel with
 | zero=>
  intro listed e H Hi _ hr hy hro hA;refine ⟨λh=>(by rw [h] at hr;cases hr),λj hj=>?_⟩
  by_cases hji:j=i
  ·subst hji;exact ⟨oi,r,Hi,hi,hy,hro,hA⟩
  have := ready_mono hj hji;rw [hA.1] at this
  cases this
 | succ fuel ih=>
  intro listed e H Hi hfree hr hy hro hA;refine ⟨λh=>(by rw [h] at hr;cases hr),λj hj=>?_⟩
  by_cases hji:j=i
  ·subst hji;exact ⟨oi,r,Hi,hi,hy,hro,hA⟩
  obtain ⟨oj,q,Hj,hoj,hsj,hroj,hAj⟩:=hA.2 j<|ready_mono hj hji;obtain ⟨hjun,oj',Ac,hall⟩:=mem_ready.1 hj;rw [hoj] at Ac;injection Ac with Ac;subst Ac;have hnot:∀ ed∈oj.after,Region.binds .any ed=QX->ed.on≠i:=λed he hb heq=>by
   have h1:=hall ed he hb;have h0:=(mem_ready.1 hr).1;rw [heq] at h1;rcases Nat.lt_or_ge i listed.size with h' | h'
   ·simp [h'] at h0 h1;rw [h0] at h1;cases h1
   simp [Array.getElem?_eq_none h'] at h1
  obtain ⟨hap,hcm⟩:=hfree j oj hoj hji hjun hnot;obtain ⟨h1,h2,h3⟩:=Oper.apart_spec hap;have ej:=Ft (e:=e) (r:=r) h1;have ei:=Ft (e:=e) (oi:=oj) (r:=q) h3;have hsj':=hsj.congr ej;have hfree':∀ (k:Nat) (ok:Oper),ops[k]? = QZ ok->k≠i->(listed.setIfInBounds j QX).getD k QX=QY->(∀ ed∈ok.after,Region.binds .any ed=QX->ed.on≠i)->oi.apart ops ok=QX/\og (fp i) (fp k)=QX:=λk ok hk hki hun hno=>by
   refine hfree k ok hk hki ?_ hno
   by_cases hjk:j=k
   ·subst hjk;exact hjun
   rw [getD_set_ne QX hjk] at hun;exact hun
  have fin:∀ Hj',uW P ops oj e H q Hj' (fp j).1->((fp j).2=QY->Hj'=H)->uW P ops oi e Hj' r Hj (fp i).1->((fp i).2=QY->Hj=Hj')->∃ o r' H',ops[j]? = QZ o/\uW P ops o e H r' H' (fp j).1/\((fp j).2=QY->H'=H)/\NS P ops fp Q (fuel+1) (listed.setIfInBounds j QX) (sI e o.dst r') H':=λHj' s1 s1' s2 s2'=>by
   refine ⟨oj,q,Hj',hoj,s1,s1',ih (listed.setIfInBounds j QX) (sI e oj.dst q) Hj' Hj hfree' (ready_mono hr<|Ne.symm hji) (s2.congr λx hx=>(ei x hx).symm) s2' ?_⟩;rw [Array.setIfInBounds_comm _ _ hji,yc (λd hd=>λhd'=>h2 d (by simpa using hd')<|by simpa using hd)];exact hAj
  simp only [og,Bool.or_eq_true,bae,Bool.not_eq_true',V7,List.contains_eq_mem,decide_eq_false_iff_not] at hcm;rcases hcm with hdis | ⟨w1,w2⟩
  ·have hag:agree (fp j).1 H Hi:=⟨hy.1.symm,λb hb=>(hy.2.1 b λhbi=>hdis b hbi hb).symm⟩;obtain ⟨Hj',a1,a2,a3,a4⟩:=hsj'.at_ hag;have hag2:agree (fp i).1 Hj' H:=⟨a1,λb hb=>a3 b<|hdis b hb⟩;obtain ⟨K,b1,b2,b3,b4⟩:=hy.at_ hag2;have hKH:K=Hj:=by
    apply We;intro b
    by_cases hbi:b∈(fp i).1
    ·rw [b2 b hbi,hsj'.2.1 b (hdis b hbi)]
    rw [b3 b hbi]
    by_cases hbj:b∈(fp j).1
    ·exact a2 b hbj
    rw [a3 b hbj,hsj'.2.1 b hbj,hy.2.1 b hbi]
   subst hKH;refine fin Hj' a4 (λhw=>?_) b4 λhw=>?_
   ·apply We;intro b
    by_cases hbj:b∈(fp j).1
    ·rw [a2 b hbj,hroj hw,hy.2.1 b (λhbi=>hdis b hbi hbj)]
    exact a3 b hbj
   apply We;intro b
   by_cases hbi:b∈(fp i).1
   ·rw [b2 b hbi,hro hw,a3 b (hdis b hbi)]
   exact b3 b hbi
  obtain rfl:=hro w1;obtain rfl:=hroj w2;exact fin _ hsj' (λ_=>rfl) hy λ_=>rfl
def Po (ops:Array Oper) (fp:Nat->Fp):Bool:=
 Region.lexB .any ops &&
 (V9 ops.size).all λi=>(V9 ops.size).all λj=>Q3 (j<=i)||og (fp i) (fp j)||match ops[j]? with
  | some oj=>oj.after.any λed=>Region.binds .any ed&&ed.on==i
  | none=>QX
def TG (P:Program) (ops:Array Oper) (fp:Nat->Fp):Nat->List Oper->(Env->AH->Prop)->Env->AH->Prop
 | _,[],K,e,H=>K e H
 | k,o::rest,K,e,H=>∃ r H',uW P ops o e H r H' (fp k).1/\((fp k).2=QY->H'=H)/\TG P ops fp (k+1) rest K (sI e o.dst r) H'
theorem Km {ops:Array Oper} {fp:Nat->Fp} {Q:Env->AH->Prop} (hc:Po ops fp=QX):∀ (l:List Oper) (k:Nat) (listed:Array Bool) (e:Env) (H:AH),(∀ j,l[j]? = ops[k+j]?)->listed.size=ops.size->(∀ j,j<k->listed.getD j QX=QX) ->
  Region.lexFrom .any ops l.length k listed=QX->TG P ops fp k l Q e H->NS P ops fp Q l.length listed e H
 | [],k,listed,e,H,_,_,_,hB,h=>⟨by simpa [Region.lexFrom] using hB,h⟩
 | o::l,k,listed,e,H,hl,hsz,hbef,hB,h=>by
  have h0:ops[k]? = QZ o:=by simpa using (hl 0).symm
  have hk:k<ops.size:=(Ws.1 h0).1;simp only [llc,Region.lexFrom,bae] at hB;obtain ⟨⟨hr,hf⟩,hB'⟩:=hB;obtain ⟨r,H',hs,hro,hK⟩:=h;refine Iw h0 l.length listed e H H' (λj oj hj hne hun hno=>⟨Region.free_spec h0 hf j oj hj hne hun hno,?_⟩) (by simpa using hr) hs hro
   (Km hc l (k+1) _ _ _ (λj=>by have := hl<|j+1;simpa [Nat.add_assoc,Nat.add_comm 1 j] using this) (by simpa using hsz) (λj hj=>?_) hB' hK)
  ·have hjs:j<ops.size:=(Ws.1 hj).1;have hkj : ¬ j<=k:=λhle=>by
    have := hbef j (by omega);rw [this] at hun
    cases hun
   simp only [Po,bae,V7,List.mem_range] at hc;have := hc.2 k hk j hjs;simp only [hj,Bool.or_eq_true,dte,hkj,false_or] at this;rcases this with h1 | h1
   ·exact h1
   rw [Array.any_eq_true'] at h1;obtain ⟨ed,h2,h3⟩:=h1;simp only [bae,beq_iff_eq] at h3;exact absurd h3.2<|hno ed h2 h3.1
  by_cases e:j=k
  ·subst e;simp [hsz,hk]
  rw [getD_set_ne QX (Ne.symm e)];exact hbef j (by omega)
theorem zB {nt:Nat} {ops:Array Oper} {fp:Nat->Fp} {Q:Exit->Env->AH->Prop} (hd:Hy nt ops.toList=QX):∀ (fuel:Nat) (listed:Array Bool) (e:Env) (H:AH),NS P ops fp (Q .normal) fuel listed e H ->
  ∀ (c c0:Cx) (a:Act),c.H=H->Ext c0 c->SRel c nt e a->wpAny P .any ops (NF nt c0 Q) fuel listed a c.w
 | 0,listed,e,H,h,c,c0,a,hH,hx,hs=>⟨h.1,trivial,c,e,rfl,hx,hs,hH ▸ h.2⟩
 | fuel+1,listed,e,H,h,c,c0,a,hH,hx,hs=>by
  refine ⟨λhr=>⟨trivial,c,e,rfl,hx,hs,hH ▸ h.1 hr⟩,λi hi=>?_⟩;obtain ⟨o,r,H',ho,hst,_,hA⟩:=h.2 i hi;have hm:o∈ops.toList:=by rw [Array.mem_toList_iff];exact Array.mem_of_getElem? ho
  unfold wpOp;simp only [ho];rcases hst.op with ⟨hw,hop⟩ | ⟨hw,rfl,rfl⟩
  ·rw [if_pos (hw.wants nt c a hs)];refine .inl<|hop c a _ _ hH hs.heap (λx _=>hs.rho x) λv c' hH' hr' hx' hv=>?_;exact zB hd fuel _ _ H' hA c' c0 _ hH' (hx.trans hx')<|hs.put o.dst (nR hd hm) hx' hr' hv
  rw [hw.wants nt c a hs];exact zB hd fuel _ _ _ hA c c0 _ hH hx<|hs.put o.dst (nR hd hm) (Ext.refl c) hs.heap<|.tup (vs:=#[]) rfl (λi q u hq=>by simp at hq)
end
section
variable {P:Program} {nt b0:Nat} {Q:Exit->Env->AH->Prop} {e:Env} {H H':AH} {r:AV}
theorem T.drawG {i:Nat} {ops:Array Oper} (fp:Nat->Fp) (hm:P.follows .mixedOrders=QX) (hc:Po ops fp=QX) (h:TG P ops fp 0 ops.toList (Q .normal) e H):T P nt b0 (.region i ops QX) Q e H:=by
 intro hok c c0 a hH hb hx hs;simp only [codeOk] at hok;have hc':=hc;simp only [Po,bae,Region.lexB] at hc';refine wp_region_any hm ?_;have hlex:=Km hc ops.toList 0 (Array.replicate ops.size QY) e H (λj=>by simp) (by simp) (λj hj=>absurd hj<|by omega) (by simpa using hc'.1.2) h;have := zB hok ops.toList.length _ e H hlex c.drew c0 a hH (hx.trans c.drew_ext) ⟨hs.size,hs.defers,λt=>(hs.rel t).ext hs.heap c.drew_ext,Cx.drew_rel hs.heap⟩;rw [Array.length_toList] at this;exact this
variable {ops:Array Oper} {d:Tmp} {op:Op} {ty:TypeId} {pos:String} {af:Array Edge} {en:List (Nat×AV)} {fp:Nat->Fp} {i:Nat} {K:Env->AH->Prop} {l:List Oper}
theorem TG.nil {k:Nat} (h:K e H):TG P ops fp k [] K e H:=h
theorem tz.y {o:Oper} {j:Nat} {b q:Bool} (hg:o.guard=QZ (j,b)) (hy:dL ops.toList e j = .v (.bool q)) (hq:q=b):tz ops e o QX:=by
 unfold tz;rw [hg];exact .inl ⟨q,hy,by rw [hq];simp⟩
theorem tz.n {o:Oper} {j:Nat} {b q:Bool} (hg:o.guard=QZ (j,b)) (hy:dL ops.toList e j = .v (.bool q)) (hq:q = !b):tz ops e o QY:=by
 unfold tz;rw [hg];exact .inl ⟨q,hy,by rw [hq];cases b <;> rfl⟩
theorem tz.u {o:Oper} {j:Nat} {b:Bool} (hg:o.guard=QZ (j,b)) (hy:dL ops.toList e j = .tup []):tz ops e o QY:=by
 unfold tz;rw [hg];exact .inr ⟨hy,rfl⟩
theorem tN (hc:fp i=([],QY)) (hv:QE P (rho<|ai en) op r) (h:TG P ops fp (i+1) l K (ai ((d,r)::en)) H):TG P ops fp i (⟨QZ d,op,ty,pos,af,Q0⟩::l) K (ai en) H:=
 ⟨r,H,by rw [hc];exact .ofF rfl<|FO hv,λ_=>rfl,h⟩
theorem tR (F:List Nat) (hc:fp i=(F,QY)) (hv:∀ G,agree F G H->EvA P (rho<|ai en) op G r G) (h:TG P ops fp (i+1) l K (ai ((d,r)::en)) H):TG P ops fp i (⟨QZ d,op,ty,pos,af,Q0⟩::l) K (ai en) H:=
 ⟨r,H,by rw [hc];exact .ofF rfl<|FP hv,λ_=>rfl,h⟩
theorem tgN {j:Nat} {b q:Bool} (hy:dL ops.toList (ai en) j = .v (.bool q)) (hq:q=b) (hc:fp i=([],QY)) (hv:QE P (rho<|ai en) op r) (h:TG P ops fp (i+1) l K (ai ((d,r)::en)) H):TG P ops fp i (⟨QZ d,op,ty,pos,af,QZ (j,b)⟩::l) K (ai en) H:=
 ⟨r,H,by rw [hc];exact .ofF (.y rfl hy hq)<|FO hv,λ_=>rfl,h⟩
theorem tgR {j:Nat} {b q:Bool} (hy:dL ops.toList (ai en) j = .v (.bool q)) (hq:q=b) (F:List Nat) (hc:fp i=(F,QY)) (hv:∀ G,agree F G H->EvA P (rho<|ai en) op G r G) (h:TG P ops fp (i+1) l K (ai ((d,r)::en)) H):TG P ops fp i (⟨QZ d,op,ty,pos,af,QZ (j,b)⟩::l) K (ai en) H:=
 ⟨r,H,by rw [hc];exact .ofF (.y rfl hy hq)<|FP hv,λ_=>rfl,h⟩
theorem tgS {j:Nat} {b q:Bool} (hy:dL ops.toList (ai en) j = .v (.bool q)) (hq:q = !b) (h:TG P ops fp (i+1) l K (ai ((d,.tup [])::en)) H):TG P ops fp i (⟨QZ d,op,ty,pos,af,QZ (j,b)⟩::l) K (ai en) H:=
 ⟨.tup [],H,.skip (.n rfl hy hq) _,λ_=>rfl,h⟩
theorem tgU {j:Nat} {b:Bool} (hy:dL ops.toList (ai en) j = .tup []) (h:TG P ops fp (i+1) l K (ai ((d,.tup [])::en)) H):TG P ops fp i (⟨QZ d,op,ty,pos,af,QZ (j,b)⟩::l) K (ai en) H:=
 ⟨.tup [],H,.skip (.u rfl hy) _,λ_=>rfl,h⟩
end
section
variable {α:Type} [Inhabited α] {c:α->List AV}
def nE (c:α->List AV):List α->AV
 | [] => .nil
 | a::l=>eL c (a::l)
theorem O8 (l:List α):isF 9 (nE c l)=QX:=by cases l <;> rfl
theorem PU {l:List α} (h:0<(l.length:Int)):nE c l=eL c l:=by
 cases l with
 | nil=>exact absurd h (by simp)
 | cons a l=>rfl
theorem O9 (l:List α):EqS (nE c l) (eL c l):=by
 cases l with
 | nil=>
  intro w fz v h
  cases h
  exact FRel.sl (s:=0) (g:=0) (o:=0) (λ_ _ => .bool QY) (Nat.le_refl _) (by omega) (λh=>absurd h<|by simp) (λi h=>absurd h<|by simp) (λi j c h=>absurd h<|by simp) (λi j c h=>absurd h<|by simp) λi j c h=>absurd h (by simp)
 | cons a l=>exact EqS.refl _
theorem Pb {C:Cx} {l:List α} {v:Value} (h:C.rel (nE c l) v):∃ A n cap,v = .slice A n cap/\A.isNone=l.isEmpty:=by
 cases l with
 | nil=>exact ⟨Q0,0,0,eX h,rfl⟩
 | cons a l=>
  obtain ⟨A,n,cap,e,k⟩:=I9 (xs:=a::l) h;refine ⟨A,n,cap,e,?_⟩
  cases A with
  | none=>cases k rfl
  | some _=>rfl
variable {P:Program} {ρ:Operand->AV} {x y:Operand} {t u e:TypeId} {ag:Bool} {w m:Nat} {zs:List AV}
theorem QE.lenE {l:List α} (q:SlT P t e ag w zs m) (hx:ρ x=nE c l):QE P ρ (.call ⟨.builtin .len,#[x],#[t]⟩) (I l.length):=by
 cases l with
 | nil=>exact QE.lenZ q hx
 | cons a l=>exact QE.lenL q hx
theorem QE.nilB {neq:Bool} {l:List α} (hu:P.underlying t=QZ (.slice e)) (hx:ρ x=nE c l) (hy:ρ y = .nil):QE P ρ (.binOp (bif neq then .neq else .eql) t x y u) (Bo<|bif neq then !l.isEmpty else l.isEmpty):=λo ho G=>by
 intro C a K Q hH hrel hxs hK;have ox:=hx ▸ hxs x (by rw [ho];simp [Op.operands]);have oy:=hy ▸ hxs y (by rw [ho];simp [Op.operands]);obtain ⟨A,n,cap,hv,hA⟩:=Pb ox;have hv2:=eX oy;have hrun:(execOp a.eval o).run P C.w = .ok (.value<|.bool<|bif neq then !l.isEmpty else l.isEmpty) C.w:=by
  rw [execOp,ho];refine vg _ ?_;rw [hv,hv2,<- hA]
  cases neq
  ·simp only [cond_false];have : (eqGuard .eql t x y (.slice A n cap)<|.slice Q0 0 0).run P C.w = .ok () C.w:=by simp [eqGuard]
   simp only [Sem.run_bind,this,Result.andThen_ok,binOp,wm C.w A n cap hu,Sem.run_pure]
  simp only [cond_true];have : (eqGuard .neq t x y (.slice A n cap)<|.slice Q0 0 0).run P C.w = .ok () C.w:=by simp [eqGuard]
  simp only [Sem.run_bind,this,Result.andThen_ok,binOp,wm C.w A n cap hu,Sem.run_pure]
 unfold Oper.wp;rw [hrun,Oper.upon_value];exact hK _ C hH hrel (Ext.refl C)<|.fr<|.v rfl
theorem QE.nilEq {l:List α} (hu:P.underlying t=QZ (.slice e)) (hx:ρ x=nE c l) (hy:ρ y = .nil):QE P ρ (.binOp .eql t x y u) (Bo l.isEmpty):=QE.nilB (neq:=false) hu hx hy
theorem QE.nilNe {l:List α} (hu:P.underlying t=QZ (.slice e)) (hx:ρ x=nE c l) (hy:ρ y = .nil):QE P ρ (.binOp .neq t x y u) (Bo<|!l.isEmpty):=QE.nilB (neq:=true) hu hx hy
end

structure TI where
 u:TypeDesc
 ag:Bool
 n:Nat
 zs:List AV
 m:Nat
structure TI.ok (P:Program) (t:TypeId) (x:TI):Prop where
 u:P.underlying t=QZ x.u
 ty:TyF P t x.ag x.n
 z:TyZ P t x.zs
 zl:x.zs.length=x.n
 by_:P.bytesOf t=x.m
structure Ent (P:Program) where
 t:TypeId
 x:TI
 ok:TI.ok P t x
def Ent.m {P:Program} {t:TypeId} {u:TypeDesc} (hu:P.underlying t=QZ u) (ag:Bool) (n:Nat) (zs:List AV) (m:Nat) (h0:zs.length=n:=by rfl) (h1:xL P t=ag:=by kernel_rfl) (h2:P.cellsOf t=n:=by kernel_rfl) (h3:(P.info? t).isSome=QX:=by kernel_rfl)
  (h4:((P.info? t).bind (·.zero)).map dW=QZ zs:=by kernel_rfl) (h5:((P.info? t).bind (·.zero)).map (λz=>oQ z.cells)=QZ QX:=by kernel_rfl) (h6:P.bytesOf t=m:=by kernel_rfl):Ent P:=
 ⟨t,⟨u,ag,n,zs,m⟩,⟨hu,⟨h1,by rw [hu];rfl,h2,h3⟩,⟨h4,h5⟩,h0,h6⟩⟩
def lk {P:Program}:List (Ent P)->Nat->Option TI
 | [],_=>Q0
 | p::l,t=>bif V2 p.t t then QZ p.x else lk l t
theorem Pd {P:Program} {t:Nat} {x:TI}:∀ {l:List (Ent P)},lk l t=QZ x->TI.ok P t x
 | p::l,h=>by
  unfold lk at h
  cases e:V2 p.t t with
  | true=>
   rw [e] at h;obtain rfl:=osl h;exact V4 e ▸ p.ok
  | false=>
   rw [e] at h;exact Pd h
class Tab (P:Program) where
 tab:List (Ent P)
abbrev tq (P:Program) [Tab P] (t:Nat):Option TI:=lk (Tab.tab (P:=P)) t
theorem kE {P:Program} [Tab P] {t:Nat} {x:TI} (h:tq P t=QZ x):TI.ok P t x:=Pd h
theorem TI.ok.sl {P:Program} {t e:TypeId} {x y:TI} (h:TI.ok P t x) (g:TI.ok P e y) (hu:x.u = .slice e) (hp:V3 0 y.n=QX):SlT P t e y.ag y.n y.zs y.m:=⟨hu ▸ h.u,g.ty,g.z,g.zl,hp,g.by_⟩
abbrev RV:=Option<|Option Prop×AV
def spine {α β:Type}:List α->(List α->β)->β
 | [],K=>K []
 | a::l,K=>spine l λl=>K (a::l)
theorem p5 {α β:Type}:∀ {l:List α} {K:List α->β},spine l K=K l
 | [],_=>rfl
 | _::l,_=>p5 (l:=l)
def fcV (x:AV):RV:=match x with
 | .v a=>QZ (Q0,.v a)
 | .agg cs=>QZ (Q0,.agg cs)
 | .tup xs=>QZ (Q0,.tup xs)
 | .nil=>QZ (Q0,.nil)
 | .sl n row=>QZ (Q0,.sl n row)
 | .fp row j=>QZ (Q0,.fp row j)
 | .hs b q s o l=>QZ (Q0,.hs b q s o l)
 | .hp b q s i j=>QZ (Q0,.hp b q s i j)
 | .mp b s=>QZ (Q0,.mp b s)
 | .ifc t x=>QZ (Q0,.ifc t x)
 | .fn f cs=>QZ (Q0,.fn f cs)
 | .top=>QZ (Q0,.top)
theorem Pe (x:AV):fcV x=QZ (Q0,x):=by cases x <;> rfl
def Fu (ag:Bool) (n:Nat) (row:List AV) (j:Nat) (K:AV->RV):RV:=match ag with
 | true=>bif Nat.ble (j+n) row.length then spine ((row.drop j).take n) λcs=>K (.agg cs) else Q0
 | false=>match row.drop j with
  | a::_=>K a
  | []=>Q0
theorem wz {ag:Bool} {n:Nat} {row:List AV} {j:Nat} {K:AV->RV} {r:Option Prop×AV} (h:Fu ag n row j K=QZ r):∃ a,xb ag n row j=QZ a/\K a=QZ r:=by
 unfold Fu at h
 split at h
 ·cases hb:Nat.ble (j+n) row.length with
  | true=>
   rw [hb] at h;rw [cond_true,p5] at h;exact ⟨_,by simp only [xb];rw [if_pos (nlb hb)],h⟩
  | false=>rw [hb] at h;cases h
 split at h
 ·rename_i a l hd;refine ⟨a,?_,h⟩;simp only [xb];have := congrArg (λl=>l[0]?) hd;simpa using this
 cases h
def okV (v:AV):RV:=QZ (Q0,v)
def cdV (c:Prop) (v:AV):RV:=QZ (QZ c,v)
def Hol:Option Prop->Prop
 | none=>True
 | some c=>c
def kq (a b:IntKind):Bool:=Q3<|a=b
def evI (op:BinOp) (k:IntKind) (a b:Int):RV:=match op with
 | .add=>cdV (k.wrap (a+b)=a+b) (.v<|.int k<|a+b)
 | .sub=>cdV (k.wrap (a-b)=a-b) (.v<|.int k<|a-b)
 | .mul=>cdV (k.wrap (a*b)=a*b) (.v<|.int k<|a*b)
 | .quo=>cdV (b≠0/\k.wrap (a.tdiv b)=a.tdiv b) (.v<|.int k<|a.tdiv b)
 | .rem=>cdV (b≠0) (.v<|.int k<|a.tmod b)
 | .and=>okV (.v<|.int k<|fH k a b)
 | .or=>okV (.v<|.int k<|bOr k a b)
 | .xor=>okV (.v<|.int k<|N8 k a b)
 | .andNot=>okV (.v<|.int k<|mP k a b)
 | .eql=>okV (.v<|.bool<|a==b)
 | .neq=>okV (.v<|.bool<|a != b)
 | .lss=>okV (.v<|.bool<|Q3<|a<b)
 | .leq=>okV (.v<|.bool<|Q3<|a<=b)
 | .gtr=>okV (.v<|.bool<|Q3<|b<a)
 | .geq=>okV (.v<|.bool<|Q3<|b<=a)
 | _=>Q0
def evB (op:BinOp) (x y:AV):RV:=match x,y with
 | .v (.int k a),.v (.int k' b)=>(match op with
  | .shl=>cdV (0<=b) (.v<|.int k<|De k a b)
  | .shr=>cdV (0<=b) (.v<|.int k<|jw k a b)
  | _=>bif kq k k' then evI op k a b else Q0)
 | .v (.string a),.v (.string b)=>(match op with
  | .add=>cdV (a.size+b.size<=9223372036854775807) (.v<|.string<|a++b)
  | .eql=>okV (.v<|.bool<|Q3<|a=b)
  | .neq=>okV (.v<|.bool<|!decide (a=b))
  | _=>Q0)
 | _,_=>Q0
def opI (ρ:Operand->AV) (x:Option Operand) (d:Int):Option Int:=match x with
 | none=>QZ d
 | some o=>match ρ o with
  | .v (.int _ n)=>QZ n
  | _=>Q0
def PX (P:Program) [Tab P] (t:TypeId) (x y:AV):RV:=match tq P t,y with
 | some ⟨u,_,_,_,_⟩,.v (.int _ q)=>(match u,x with
  | .slice e,.sl n row=>(match tq P e with
   | some ⟨_,_,w,_,_⟩=>bif V2 (row q.toNat).length w then cdV (0<=q/\q<n) (.fp (row q.toNat) 0) else Q0
   | none=>Q0)
  | .slice e,.hs b ver s off len=>(match tq P e with
   | some ⟨_,_,w,_,_⟩=>bif V2 s w&&V2 off 0 then cdV (0<=q/\q<len) (.hp b ver s q.toNat 0) else Q0
   | none=>Q0)
  | .array n e,.fp row j=>(match tq P e with
   | some ⟨_,_,w,_,_⟩=>cdV (0<=q/\q<n) (.fp row<|j+q.toNat*w)
   | none=>Q0)
  | .array n e,.hp b ver s i j=>(match tq P e with
   | some ⟨_,_,w,_,_⟩=>cdV (0<=q/\q<n) (.hp b ver s i<|j+q.toNat*w)
   | none=>Q0)
  | _,_=>Q0)
 | _,_=>Q0
def placesOf (P:Program) [Tab P]:List Field->Option (List<|Nat×Nat)
 | []=>QZ []
 | f::l=>match tq P f.type,placesOf P l with
  | some x,QZ r=>QZ ((f.offset,x.n)::r)
  | _,_=>Q0
def Nv (P:Program) [Tab P] (t:TypeId) (x:AV):RV:=match tq P t with
 | some ⟨u,_,_,_,_⟩=>(match u,x with
  | .slice _,.sl n _=>okV (I n)
  | .slice _,.hs _ _ _ _ n=>okV (I n)
  | .slice _,.nil=>okV (I 0)
  | .string,.v (.string s)=>okV (I s.size)
  | _,_=>Q0)
 | none=>Q0
def Ko (P:Program) [Tab P] (ρ:Operand->AV) (f:Callee) (args:List Operand) (ts:List TypeId):RV:=match f,args,ts with
 | .builtin .len,[x],[t]=>Nv P t (ρ x)
 | .builtin .min,[x,y],_=>(match ρ x,ρ y with
  | .v (.int k a),.v (.int _ b)=>okV (.v<|.int k<|if b<a then b else a)
  | _,_=>Q0)
 | .builtin .max,[x,y],_=>(match ρ x,ρ y with
  | .v (.int k a),.v (.int _ b)=>okV (.v<|.int k<|if b>a then b else a)
  | _,_=>Q0)
 | _,_,_=>Q0
def evN (P:Program) [Tab P] (ρ:Operand->AV) (op:Op):RV:=match op with
 | .nilCheck x=>(match ρ x with
  | .fp row j=>okV (.fp row j)
  | .hp b q s i j=>okV (.hp b q s i j)
  | _=>Q0)
 | .load t x=>(match tq P t,ρ x with
  | some ⟨_,ag,n,_,_⟩,.fp row j=>Fu ag n row j okV
  | _,_=>Q0)
 | .binOp op _ x y _=>evB op (ρ x) (ρ y)
 | .unOp op _ x=>(match op,ρ x with
  | .not,.v (.bool b)=>okV (.v<|.bool !b)
  | .neg,.v (.int k n)=>cdV (k.wrap (0-n)=0-n) (.v<|.int k<|0-n)
  | _,_=>Q0)
 | .convert s d x=>(match tq P s,tq P d with
  | some _,QZ ⟨u,_,_,_,_⟩=>(match u,ρ x with
   | .int k,.v (.int _ n)=>cdV (k.wrap n=n) (.v<|.int k n)
   | .string,.v (.string b)=>okV (.v<|.string b)
   | _,_=>Q0)
  | _,_=>Q0)
 | .makeInterface t x=>(match tq P t with
  | some ⟨u,_,_,_,_⟩=>(match u with
   | .interface _=>Q0
   | _=>okV (.ifc t (ρ x)))
  | none=>Q0)
 | .makeFunc f first p6=>bif first.size==0 then okV (.fn f<|p6.toList.map ρ) else Q0
 | .fieldAddr t x f=>(match tq P t with
  | some ⟨u,_,_,_,_⟩=>(match u with
   | .struct fs=>(match fs[f]? with
    | some ⟨_,ft,off,_,_,_,_⟩=>(match tq P ft with
     | some ⟨_,_,n,_,_⟩=>bif V2 n 0 then Q0 else (match ρ x with
      | .fp row j=>spine ((row.drop<|j+off).take n) λr=>okV (.fp r 0)
      | .hp b v s i j=>okV (.hp b v s i<|j+off)
      | _=>Q0)
     | none=>Q0)
    | none=>Q0)
   | _=>Q0)
  | none=>Q0)
 | .field t x f=>(match tq P t with
  | some ⟨u,_,_,_,_⟩=>(match u with
   | .struct fs=>(match fs[f]?,ρ x with
    | some ⟨_,ft,off,_,_,_,_⟩,.agg cs=>(match tq P ft with
     | some ⟨_,ag,n,_,_⟩=>Fu ag n cs off okV
     | none=>Q0)
    | _,_=>Q0)
   | _=>Q0)
  | none=>Q0)
 | .indexAddr t x y=>PX P t (ρ x) (ρ y)
 | .index t x y=>(match tq P t,ρ x,ρ y with
  | some ⟨u,_,_,_,_⟩,.v (.string s),.v (.int _ q)=>(match u with
   | .string=>cdV (0<=q/\q<s.size) (.v<|.int .u8 ((s.data.getD q.toNat 0).toNat:Int))
   | _=>Q0)
  | _,_,_=>Q0)
 | .slice t x lo hi Q0=>(match tq P t,ρ x with
  | some ⟨u,_,_,_,_⟩,.v (.string s)=>(match u,opI ρ lo 0,opI ρ hi s.size with
   | .string,QZ l,QZ h=>cdV (0<=l/\l<=h/\h<=s.size) (.v<|.string<|s.extract l.toNat h.toNat)
   | _,_,_=>Q0)
  | _,_=>Q0)
 | .extract x i=>(match ρ x with
  | .tup xs=>(match xs.drop i with
   | a::_=>okV a
   | []=>Q0)
  | _=>Q0)
 | .build t parts=>(match tq P t with
  | some ⟨u,_,_,zs,_⟩=>(match u with
   | .struct fs=>(match placesOf P fs.toList with
    | some pl=>(match Bw (pl.toArray[·]?) zs (parts.toList.map λp=>(p.1,ρ p.2)) with
     | some cs=>spine cs λcs=>okV (.agg cs)
     | none=>Q0)
    | none=>Q0)
   | _=>Q0)
  | none=>Q0)
 | .call c=>Ko P ρ c.callee c.args.toList c.argTypes.toList
 | _=>Q0
section
variable {P:Program} {ρ:Operand->AV} {H:AH}
theorem cW {v r:AV} {c:Option Prop} (h:okV v=QZ (c,r)):c=Q0/\v=r:=by
 injection h with h;injection h with h1 h2;exact ⟨h1.symm,h2⟩
theorem oM {p:Prop} {v r:AV} {c:Option Prop} (h:cdV p v=QZ (c,r)):c=QZ p/\v=r:=by
 injection h with h;injection h with h1 h2;exact ⟨h1.symm,h2⟩
theorem Pf {op:BinOp} {k:IntKind} {a b:Int} {t u:TypeId} {x y:Operand} {c:Option Prop} {r:AV} (hx:ρ x = .v (.int k a)) (hy:ρ y = .v (.int k b)) (h:evI op k a b=QZ (c,r)) (hc:Hol c):QE P ρ (.binOp op t x y u) r:=by
 cases op <;> simp only [evI] at h <;> first
  | (obtain ⟨rfl,rfl⟩:=oM h;first | exact QE.add hx hy hc | exact QE.sub hx hy hc | exact QE.mul hx hy hc | exact QE.quo hx hy hc.1 hc.2 | exact QE.rem hx hy hc)
  | (obtain ⟨rfl,rfl⟩:=cW h;first | exact QE.band hx hy | exact QE.bor hx hy | exact QE.bxor hx hy | exact QE.bandNot hx hy | exact QE.ieq hx hy | exact QE.ine hx hy | exact QE.ilt hx hy | exact QE.ile hx hy | exact QE.igt hx hy | exact QE.ige hx hy)
  | cases h
theorem Pg {op:BinOp} {t u:TypeId} {x y:Operand} {c:Option Prop} {r:AV} (h:evB op (ρ x) (ρ y)=QZ (c,r)) (hc:Hol c):QE P ρ (.binOp op t x y u) r:=by
 unfold evB at h
 split at h
 ·rename_i k a k' b hx hy
  split at h
  ·obtain ⟨rfl,rfl⟩:=oM h;exact QE.shl hx hy hc
  ·obtain ⟨rfl,rfl⟩:=oM h;exact QE.shr hx hy hc
  cases hk:kq k k' with
  | true=>
   rw [hk] at h;obtain rfl:=of_decide_eq_true hk;exact Pf hx hy h hc
  | false=>rw [hk] at h;cases h
 ·rename_i a b hx hy
  split at h
  ·obtain ⟨rfl,rfl⟩:=oM h;exact QE.cat hx hy hc
  ·obtain ⟨rfl,rfl⟩:=cW h;exact QE.seq hx hy
  ·obtain ⟨rfl,rfl⟩:=cW h;exact QE.sne hx hy
  cases h
 cases h
theorem Mk {o:Option Operand} {d m:Int} (h:opI ρ o d=QZ m):bnd ρ o d m:=by
 unfold opI at h
 split at h
 ·exact osl h
 split at h
 ·rename_i k n he;obtain rfl:=osl h;exact ⟨k,he⟩
 cases h
variable [Tab P]
theorem Nw {t:TypeId} {x y:Operand} {c:Option Prop} {r:AV} (h:PX P t (ρ x) (ρ y)=QZ (c,r)) (hc:Hol c):QE P ρ (.indexAddr t x y) r:=by
 unfold PX at h
 split at h
 ·rename_i u _ _ _ _ k q hz hy;have hz:=(kE hz).u
  split at h
  ·rename_i e n row hx _
   split at h
   ·rename_i w _ _ hf;have hf:=(kE hf).ty
    cases hb:V2 (row q.toNat).length w with
    | true=>
     rw [hb] at h;obtain ⟨rfl,rfl⟩:=oM h;exact QE.ixsl hz hf hx hy hc<|V4 hb
    | false=>rw [hb] at h;cases h
   cases h
  ·rename_i e b ver s off len hx _
   split at h
   ·rename_i w _ _ hf;have hf:=(kE hf).ty
    cases hb:(V2 s w&&V2 off 0) with
    | true=>
     rw [hb] at h;obtain ⟨rfl,rfl⟩:=oM h;rw [bae] at hb;obtain rfl:=V4 hb.1;obtain rfl:=V4 hb.2;have := QE.ixhs (P:=P) hz hf hx hy hc
     rwa [Nat.zero_add] at this
    | false=>rw [hb] at h;cases h
   cases h
  ·rename_i n e row j hx _
   split at h
   ·rename_i hf;obtain ⟨rfl,rfl⟩:=oM h;exact QE.ixafp hz (kE hf).ty hx hy hc
   cases h
  ·rename_i n e b ver s i j hx _
   split at h
   ·rename_i hf;obtain ⟨rfl,rfl⟩:=oM h;exact QE.ixahp hz (kE hf).ty hx hy hc
   cases h
  cases h
 cases h
theorem Cs:∀ {l:List Field} {pl:List (Nat×Nat)},placesOf P l=QZ pl->l.mapM (λf=>(P.info? f.type).map λi=>(f.offset,i.size))=QZ pl
 | [],pl,h=>by
  obtain rfl:=osl h
  rfl
 | f::l,pl,h=>by
  unfold placesOf at h
  split at h
  ·rename_i x r hx hr;obtain rfl:=osl h;have h1:=kE hx;have h2:=Cs hr;have h3:=h1.ty.cells;have h4:=h1.ty.info
   cases hi:P.info? f.type with
   | none=>rw [hi] at h4;cases h4
   | some i=>
    unfold Program.cellsOf at h3;rw [hi] at h3;have h5:i.size=x.n:=by simpa using h3
    simp [List.mapM_cons,hi,h2,h5]
  cases h
theorem LA {t:TypeId} {x:Operand} {c:Option Prop} {r:AV} (h:Nv P t (ρ x)=QZ (c,r)):QE P ρ (.call ⟨.builtin .len,#[x],#[t]⟩) r:=by
 unfold Nv at h
 split at h
 ·rename_i hz;have hz:=(kE hz).u
  split at h
  ·obtain ⟨rfl,rfl⟩:=cW h;exact QE.lensl hz ‹_›
  ·obtain ⟨rfl,rfl⟩:=cW h;exact QE.lenhs hz ‹_›
  ·obtain ⟨rfl,rfl⟩:=cW h;exact QE.lennil hz ‹_›
  ·obtain ⟨rfl,rfl⟩:=cW h;exact QE.lenst hz ‹_›
  cases h
 cases h
theorem Kq {cl:Call} {c:Option Prop} {r:AV} (h:Ko P ρ cl.callee cl.args.toList cl.argTypes.toList=QZ (c,r)):QE P ρ (.call cl) r:=by
 obtain ⟨f,⟨args⟩,⟨ts⟩⟩:=cl;simp only at h;unfold Ko at h
 split at h
 ·exact LA h
 ·split at h
  ·rename_i hx hy;obtain ⟨rfl,rfl⟩:=cW h;exact QE.min hx hy
  cases h
 ·split at h
  ·rename_i hx hy;obtain ⟨rfl,rfl⟩:=cW h;exact QE.max hx hy
  cases h
 cases h
theorem uM {op:Op} {c:Option Prop} {r:AV} (h:evN P ρ op=QZ (c,r)) (hc:Hol c):QE P ρ op r:=by
 unfold evN at h
 split at h
 ·split at h
  ·rename_i he;obtain ⟨rfl,rfl⟩:=cW h;exact QE.nilfp he
  ·rename_i he;obtain ⟨rfl,rfl⟩:=cW h;exact QE.nilhp he
  cases h
 ·split at h
  ·rename_i hz hx;obtain ⟨a,ha,h⟩:=wz h;obtain ⟨rfl,rfl⟩:=cW h;exact QE.loadfp _ (kE hz).ty hx ha
  cases h
 ·exact Pg h hc
 ·split at h
  ·rename_i hx;obtain ⟨rfl,rfl⟩:=cW h;exact QE.not hx
  ·rename_i hx;obtain ⟨rfl,rfl⟩:=oM h;exact QE.neg hx hc
  cases h
 ·split at h
  ·rename_i hs hd
   split at h
   ·rename_i hx;obtain ⟨rfl,rfl⟩:=oM h;exact QE.iconv (kE hs).ty.und (kE hd).u hx hc
   ·rename_i hx;obtain ⟨rfl,rfl⟩:=cW h;exact QE.sconv (kE hs).ty.und (kE hd).u hx
   cases h
  cases h
 ·split at h
  ·rename_i hz
   split at h
   ·cases h
   rename_i hn;obtain ⟨rfl,rfl⟩:=cW h;exact QE.mkifc _ (kE hz).u hn rfl
  cases h
 ·rename_i f first p6
  cases hb:first.size==0 with
  | true=>
   rw [hb] at h;obtain ⟨rfl,rfl⟩:=cW h;exact QE.mkfn _ hb rfl
  | false=>rw [hb] at h;cases h
 ·split at h
  ·rename_i hz
   split at h
   ·rename_i fs
    split at h
    ·rename_i ft off _ _ _ _ hfl
     split at h
     ·rename_i n _ _ hy
      cases hb:V2 n 0 with
      | true=>rw [hb] at h;cases h
      | false=>
       rw [hb] at h;have hne:(P.cellsOf ft != 0)=QX:=by
        rw [(kE hy).ty.cells]
        cases n with
        | zero=>cases hb
        | succ k=>rfl
       simp only [cond_false] at h
       split at h
       ·rename_i hx;rw [p5] at h;obtain ⟨rfl,rfl⟩:=cW h;exact QE.fafpS n (kE hz).u hfl hne hx rfl
       ·rename_i hx;obtain ⟨rfl,rfl⟩:=cW h;exact QE.fahp (kE hz).u hfl hne hx
       cases h
     cases h
    cases h
   cases h
  cases h
 ·split at h
  ·rename_i hz
   split at h
   ·split at h
    ·rename_i hfl hx
     split at h
     ·rename_i hy;obtain ⟨a,ha,h⟩:=wz h;obtain ⟨rfl,rfl⟩:=cW h;exact QE.field _ (kE hz).u hfl (kE hy).ty hx ha
     cases h
    cases h
   cases h
  cases h
 ·exact Nw h hc
 ·split at h
  ·rename_i hz hx hy
   split at h
   ·obtain ⟨rfl,rfl⟩:=oM h;exact QE.ixst (kE hz).u hx hy hc
   cases h
  cases h
 ·split at h
  ·rename_i hz hx
   split at h
   ·rename_i hl hq;obtain ⟨rfl,rfl⟩:=oM h;exact QE.slst (kE hz).u hx (Mk hl) (Mk hq) hc
   cases h
  cases h
 ·split at h
  ·rename_i hx
   split at h
   ·rename_i i _ xs _ a l ha;obtain ⟨rfl,rfl⟩:=cW h;exact QE.ext _ hx (by have := congrArg (λl=>l[0]?) ha;rw [List.getElem?_drop] at this;simpa using this)
   cases h
  cases h
 ·split at h
  ·rename_i hz
   split at h
   ·rename_i fs
    split at h
    ·rename_i pl hpl
     split at h
     ·rename_i cs hcs;rw [p5] at h;obtain ⟨rfl,rfl⟩:=cW h;have hz:=kE hz;have hu':P.underlying _=QZ (.struct fs):=hz.u;exact QE.build _ hu' hz.z ⟨by rw [hu'];exact Cs hpl⟩ rfl hcs
     cases h
    cases h
   cases h
  cases h
 ·exact Kq h
 cases h
def evA (P:Program) [Tab P] (H:AH) (op:Op):Option (AV×AH):=match op with
 | .alloc t=>(match tq P t with
  | some ⟨_,_,n,zs,_⟩=>bif V3 0 n then spine (H++[QZ ⟨0,n,t,[zs]⟩]) λG=>QZ (.hp H.length 0 n 0 0,G) else Q0
  | none=>Q0)
 | _=>Q0
omit [Tab P] in
theorem Qy {t:TypeId} {zs:List AV} {n b:Nat} (z:TyZ P t zs) (hl:zs.length=n) (hn:V3 0 n=QX) (hb:H.length=b):EvA P ρ (.alloc t) H (.hp b 0 n 0 0) (H++[QZ ⟨0,n,t,[zs]⟩]):=by
 subst hl;exact EvA.al z hn hb
theorem Ph {op:Op} {r:AV} {H':AH} (h:evA P H op=QZ (r,H')):EvA P ρ op H r H':=by
 unfold evA at h
 split at h
 ·split at h
  ·rename_i n zs _ hz
   cases hb:V3 0 n with
   | true=>
    rw [hb,cond_true,p5] at h;obtain ⟨rfl,rfl⟩:=Prod.mk.inj<|osl h;exact Qy (kE hz).z (kE hz).zl hb rfl
   | false=>rw [hb] at h;cases h
  cases h
 cases h
def evL (P:Program) [Tab P] (ρ:Operand->AV) (H:AH) (op:Op):Option (Nat×Nat×Nat×AV):=match op with
 | .load t x=>(match tq P t,ρ x with
  | some ⟨_,ag,n,_,_⟩,.hp b ver s i j=>(match H[b]? with
   | some (QZ ⟨uA,s',_,rows⟩)=>bif V2 s' s then (match rows[i]? with
    | some row=>(match Fu ag n row j okV with
     | some (Q0,a)=>QZ (b,uA,ver,a)
     | _=>Q0)
    | none=>Q0) else Q0
   | _=>Q0)
  | _,_=>Q0)
 | _=>Q0
theorem Kr {op:Op} {b ver uA:Nat} {r:AV} (h:evL P ρ H op=QZ (b,uA,ver,r)) (hv:uA=ver):∀ G:AH,agree [b] G H->EvA P ρ op G r G:=by
 intro G hG;unfold evL at h
 split at h
 ·split at h
  ·rename_i b' _ s i j hz hx
   split at h
   ·rename_i _ s' _ rows hk
    cases hb:V2 s' s with
    | true=>
     rw [hb] at h;simp only [cond_true] at h
     split at h
     ·rename_i row hrow
      split at h
      ·rename_i a ha;obtain ⟨a',ha',h'⟩:=wz ha;obtain ⟨_,rfl⟩:=cW h';injection h with h;injection h with h1 h;injection h with h2 h;injection h with h3 h;subst h1 h2 h3 h;exact EvA.loadhp _ (kE hz).ty hx (hG.a0 hk) hv (V4 hb) hrow ha'
      cases h
     cases h
    | false=>rw [hb] at h;cases h
   cases h
  cases h
 cases h
def evS (P:Program) [Tab P] (ρ:Operand->AV) (H:AH) (op:Op):Option (Nat×Nat×ABlk):=match op with
 | .store t x y=>(match tq P t,ρ x,(ρ y).cells with
  | some ⟨_,_,n,_,_⟩,.hp b ver s i j,QZ cs=>(match H[b]? with
   | some (QZ ⟨uA,s',ty,rows⟩)=>bif V2 s' s&&V2 cs.length n&&Nat.ble (j+n) s&&V3 b H.length then (match rows[i]? with
    | some row=>spine (splice row j cs) λr=>spine (rows.set i r) λrows=>QZ (b,ver,⟨uA,s',ty,rows⟩)
    | none=>Q0) else Q0
   | _=>Q0)
  | _,_,_=>Q0)
 | _=>Q0
theorem Ks {op:Op} {b ver:Nat} {k':ABlk} (h:evS P ρ H op=QZ (b,ver,k')) (hv:k'.ver=ver):V3 b H.length=QX/\∀ G:AH,agree [b] G H->EvA P ρ op G .top (G.set b<|QZ k'):=by
 unfold evS at h
 split at h
 ·split at h
  ·rename_i n _ _ b' _ s i j cs hz hx hy
   split at h
   ·rename_i uA s' ty rows hk
    cases hb:(V2 s' s&&V2 cs.length n&&Nat.ble (j+n) s&&V3 b' H.length) with
    | true=>
     rw [hb] at h;simp only [cond_true] at h
     split at h
     ·rename_i row hrow;rw [p5,p5] at h;injection h with h;injection h with h1 h;injection h with h2 h;subst h1 h2 h;simp only [bae] at hb;obtain ⟨⟨⟨h2,h3⟩,h4⟩,h5⟩:=hb;exact ⟨h5,λG hG=>EvA.st _ (kE hz).ty hx hy (hG.a0 hk) hv (V4 h2) hrow (V4 h3) h4 rfl⟩
     cases h
    | false=>rw [hb] at h;cases h
   cases h
  cases h
 cases h
end
def Fv:List (Nat×AV)->Nat->Option AV
 | [],_=>Q0
 | (u,v)::l,t=>bif V2 t u then QZ v else Fv l t
theorem wA {t:Nat} {v:AV}:∀ {en:List (Nat×AV)},Fv en t=QZ v->ai en t=v
 | (u,w)::l,h=>by
  unfold Fv at h;show (bif V2 t u then w else ai l t)=v
  cases e:V2 t u with
  | true=>rw [e] at h;exact osl h
  | false=>rw [e] at h;exact wA h
def opE (en:List<|Nat×AV) (x:Operand):Option AV:=match x with
 | .tmp t=>Fv en t
 | x=>(match fcV (rho (ai en) x) with
  | some (_,v)=>QZ v
  | none=>Q0)
theorem fF {en:List (Nat×AV)} {x:Operand} {v:AV} (h:opE en x=QZ v):rho (ai en) x=v:=by
 unfold opE at h
 split at h
 ·exact wA h
 rw [Pe] at h;exact osl h
theorem agree.refl {F:List Nat} {H:AH}:agree F H H:=⟨rfl,λ_ _=>rfl⟩
section
variable {P:Program} {nt b0:Nat} {Q:Exit->Env->AH->Prop} {H H':AH} {x:Operand} {t:TypeId} {cs:List AV} {ops:Array Oper} {l:List Oper} {d:Tmp} {op:Op} {ty:TypeId} {pos:String} {af:Array Edge} {en:List (Nat×AV)} {v:AV} {c:Prop} {b ver uA:Nat} {k':ABlk}
theorem eM (h:opE en x=QZ v) (k:TO P nt b0 ops l Q (ai ((d,v)::en)) H):TO P nt b0 ops (⟨QZ d,.move x,ty,pos,af,Q0⟩::l) Q (ai en) H:=oN (QE.mv _<|fF h) k
theorem eR (h:opE en x=QZ v) (k:TO P nt b0 ops l Q (ai ((d,v)::en)) H):TO P nt b0 ops (⟨QZ d,.assign x,ty,pos,af,Q0⟩::l) Q (ai en) H:=oN (QE.asg _<|fF h) k
theorem fM {fp:Nat->Fp} {i:Nat} {K:Env->AH->Prop} (h:opE en x=QZ v) (hf:fp i=([],QY)) (k:TF P fp (i+1) l K (ai ((d,v)::en)) H):TF P fp i (⟨QZ d,.move x,ty,pos,af,Q0⟩::l) K (ai en) H:=fN hf (QE.mv _<|fF h) k
theorem fA {fp:Nat->Fp} {i:Nat} {K:Env->AH->Prop} (h:opE en x=QZ v) (hf:fp i=([],QY)) (k:TF P fp (i+1) l K (ai ((d,v)::en)) H):TF P fp i (⟨QZ d,.assign x,ty,pos,af,Q0⟩::l) K (ai en) H:=fN hf (QE.asg _<|fF h) k
theorem eF (hx:(rho (ai en) x).cells=QZ cs) (hn:(V3 0 cs.length)=QX) (hF:cs.all (isF 9)=QX) (k:TO P nt b0 ops l Q (ai ((d,.fp cs 0)::en)) H):TO P nt b0 ops (⟨QZ d,.box t x,ty,pos,af,Q0⟩::l) Q (ai en) H:=oN (QE.bxF cs hx hn hF) k
variable [Tab P]
theorem eN (h:evN P (rho<|ai en) op=QZ (Q0,v)) (k:TO P nt b0 ops l Q (ai ((d,v)::en)) H):TO P nt b0 ops (⟨QZ d,op,ty,pos,af,Q0⟩::l) Q (ai en) H:=oN (uM h trivial) k
theorem eG (h:evN P (rho<|ai en) op=QZ (QZ c,v)) (hc:c) (k:TO P nt b0 ops l Q (ai ((d,v)::en)) H):TO P nt b0 ops (⟨QZ d,op,ty,pos,af,Q0⟩::l) Q (ai en) H:=oN (uM h hc) k
theorem eA (h:evA P H op=QZ (v,H')) (k:TO P nt b0 ops l Q (ai ((d,v)::en)) H'):TO P nt b0 ops (⟨QZ d,op,ty,pos,af,Q0⟩::l) Q (ai en) H:=oA (Ph h) k
theorem eL_ (h:evL P (rho<|ai en) H op=QZ (b,uA,ver,v)) (hv:uA=ver) (k:TO P nt b0 ops l Q (ai ((d,v)::en)) H):TO P nt b0 ops (⟨QZ d,op,ty,pos,af,Q0⟩::l) Q (ai en) H:=oA (Kr h hv H .refl) k
theorem eS (h:evS P (rho<|ai en) H op=QZ (b,ver,k')) (hv:k'.ver=ver) (hs:spine (H.set b<|QZ k') QZ=QZ H') (k:TO P nt b0 ops l Q (ai en) H'):TO P nt b0 ops (⟨Q0,op,ty,pos,af,Q0⟩::l) Q (ai en) H:=by
 rw [p5] at hs;obtain rfl:=osl hs;exact oV ((Ks h hv).2 H .refl) k
theorem hN {j:Nat} {w q:Bool} (hy:dL ops.toList (ai en) j = .v (.bool q)) (hq:q=w) (h:evN P (rho<|ai en) op=QZ (Q0,v)) (k:TO P nt b0 ops l Q (ai ((d,v)::en)) H):TO P nt b0 ops (⟨QZ d,op,ty,pos,af,QZ (j,w)⟩::l) Q (ai en) H:=gN hy hq (uM h trivial) k
theorem hG {j:Nat} {w q:Bool} (hy:dL ops.toList (ai en) j = .v (.bool q)) (hq:q=w) (h:evN P (rho<|ai en) op=QZ (QZ c,v)) (hc:c) (k:TO P nt b0 ops l Q (ai ((d,v)::en)) H):TO P nt b0 ops (⟨QZ d,op,ty,pos,af,QZ (j,w)⟩::l) Q (ai en) H:=gN hy hq (uM h hc) k
variable {fp:Nat->Fp} {i:Nat} {K:Env->AH->Prop} {F:List Nat}
theorem fN' (h:evN P (rho<|ai en) op=QZ (Q0,v)) (hf:fp i=([],QY)) (k:TF P fp (i+1) l K (ai ((d,v)::en)) H):TF P fp i (⟨QZ d,op,ty,pos,af,Q0⟩::l) K (ai en) H:=fN hf (uM h trivial) k
theorem fG' (h:evN P (rho<|ai en) op=QZ (QZ c,v)) (hf:fp i=([],QY)) (hc:c) (k:TF P fp (i+1) l K (ai ((d,v)::en)) H):TF P fp i (⟨QZ d,op,ty,pos,af,Q0⟩::l) K (ai en) H:=fN hf (uM h hc) k
theorem fL' (h:evL P (rho<|ai en) H op=QZ (b,uA,ver,v)) (hv:uA=ver) (hf:fp i=([b],QY)) (k:TF P fp (i+1) l K (ai ((d,v)::en)) H):TF P fp i (⟨QZ d,op,ty,pos,af,Q0⟩::l) K (ai en) H:=fR [b] hf (λG hG=>Kr h hv G hG) k
theorem fS' (h:evS P (rho<|ai en) H op=QZ (b,ver,k')) (hv:k'.ver=ver) (hs:spine (H.set b<|QZ k') QZ=QZ H') (hf:fp i=([b],QX)) (k:TF P fp (i+1) l K (ai en) H'):TF P fp i (⟨Q0,op,ty,pos,af,Q0⟩::l) K (ai en) H:=by
 rw [p5] at hs;obtain rfl:=osl hs;exact fV b [] hf (Ks h hv).1 (λG hG=>(Ks h hv).2 G hG) k
end
section
variable {P:Program} {nt b0:Nat} {Q:Exit->Env->AH->Prop} {e:Env} {H:AH}
def Kt (P:Program) (c:Code) (Q:Exit->Act->World->Prop) (a:Act) (w:World):Prop:=∀ (b:Frame) (k:List Item) (cs),∃ e a' w',Q e a' w'/\Arrives P (lone (b.at a (.code c :: .inLoop c::k)) cs w) b k cs e a' w'
theorem Kt.loop {c:Code} {Q:Exit->Act->World->Prop} {a:Act} {w:World} (h:Kt P c Q a w):(Code.loop c).wp P Q a w:=by
 intro b k cs;obtain ⟨e',a',w',hq',harr'⟩:=h b k cs;exact ⟨e',a',w',hq',.of_steps (.one step_loop) harr'⟩
theorem Kt.mk {c:Code} {Q:Exit->Act->World->Prop} {a:Act} {w:World} (h:c.wp P (Exit.then (λa w=>Kt P c Q a w) Q) a w):Kt P c Q a w:=by
 intro b k cs;obtain ⟨e,a₁,w₁,hq,harr⟩:=h b (.inLoop c::k) cs
 cases e with
 | normal=>
  obtain ⟨e₂,a₂,w₂,hq₂,harr₂⟩:=hq b k cs;exact ⟨e₂,a₂,w₂,hq₂,.of_steps (Steps.trans harr<|.one step_inLoop) harr₂⟩
 | exit id=>exact ⟨_,a₁,w₁,hq,.pass (x:=.inLoop c) rfl (λ_ _ => .inl<|by simp) harr⟩
 | goto l=>exact ⟨_,a₁,w₁,hq,.pass (x:=.inLoop c) rfl (λ_ _ => .inl<|by simp) harr⟩
 | ret=>exact ⟨_,a₁,w₁,hq,.pass (x:=.inLoop c) rfl (λ_ _ => .inl<|by simp) harr⟩
 | panic ch=>exact ⟨_,a₁,w₁,hq,.pass (x:=.inLoop c) rfl (λ_ _ => .inl<|by simp) harr⟩
 | outgrown=>exact ⟨_,a₁,w₁,hq,.pass (x:=.inLoop c) rfl (λ_ _ => .inl<|by simp) harr⟩
variable {en:List (Nat×AV)} {ops:Array Oper} {l:List Oper} {d:Tmp} {t:TypeId} {pos:String} {af:Array Edge}
theorem oI {fn:Func} {body:Code} {e0:Env} {cl:Call} {f:Operand} {g:FuncId} {p6 QV:List AV} (hfn:P.funcs[g]? = QZ fn) (hbd:fn.body=QZ body) (hcall:iH P g=QX) (hn:Nat.ble QV.length fn.ntmps=QX) (hok:codeOk fn.ntmps body=QX)
  (hc:cl.callee = .value f) (hf:rho (ai en) f = .fn (.func g) p6) (ha:cl.args.toList.map (rho<|ai en)++p6=QV) (hw:CV (KO QV) e0)
  (h:T P fn.ntmps H.length body (SQ H.length<|Fin P fn λr G=>TO P nt b0 ops l Q (ai ((d,r)::en)) G) e0 H):TO P nt b0 ops (⟨QZ d,.call cl,t,pos,af,Q0⟩::l) Q (ai en) H:=by
 subst ha;exact TO.runG (.free rfl) (DV rfl hc hf<|fG.mkS hfn hbd hcall hn hok hw h) λr' H' hk=>hk
variable {cls:Nat->Xc} {i:Nat} {K:Env->AH->Prop} {li:List Nat} {op:Op}
end
end
end Go.Proofs.YtabfkkjdfhbngaaGreatDoor
