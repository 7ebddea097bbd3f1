/- Texts joined. No conditions. -/
import Derived.Test.YtabfkkjdfhbngaaGreatDoorV5
namespace Go.Proofs.YtabfkkjdfhbngaaGreatDoor
noncomputable section
open _root_.Inhabited renaming default -> QW
open _root_.Bool renaming true -> QX
open _root_.Bool renaming false -> QY
open _root_.Option renaming some -> QZ
open _root_.Option renaming none -> Q0
open _root_.Decidable renaming decide -> Q3
open _root_.Option renaming bind -> TH
open _root_.List renaming replicate -> TJ, mem_append_left -> TM, mem_map -> TN, getElem_mem -> TP, mem_append -> TQ, mem_singleton -> TR, mem_append_right -> TS, length_singleton -> TT
open _root_.Nat renaming le_refl -> TK
open _root_.List.IsPrefix renaming trans -> TU
open Go.RowKit
set_option maxRecDepth 100000
def iI (x:QH):Option Bool:= TH (bif (x.Op==(1:Int)) then QZ QX else QZ (x.Op==(5:Int))) λs1=>QZ s1
def gH (x:QH):Option Bool:= TH (bif (x.Op==(2:Int)) then QZ QX else QZ (x.Op==(3:Int))) λs1=>TH (bif s1 then QZ QX else QZ (x.Op==(5:Int))) λs3=>QZ s3
def uD:LS ((List QJ)×Int) (List QJ):=λs7=>bif Q3 (s7.2<(3:Int)) then gd (bq (s7.1.length+1) 32) <|gd (QF .i64<|s7.2+(1:Int)) <|QZ (.inl ((s7.1++[(⟨(-1:Int),s7.2,s7.2,QY,QX⟩:QJ)]),(s7.2+(1:Int)))) else QZ (.inr s7.1)
def sO (p:List<|List QH) (s24:(List QJ)×Int):LS ((List QJ)×Int) (List QJ):=λs37=>bif Q3 (s37.2<((J p s24.2).length:Int)) then TH (gd (Q3<|0<=s37.2/\s37.2<((J p s24.2).length:Int)) <|bif (((J (J p s24.2) s37.2).Op) != (4:Int)) then TH (iI (⟨(J (J p s24.2) s37.2).Op,(J (J p s24.2) s37.2).Loc,(J (J p s24.2) s37.2).Reg,(J (J p s24.2) s37.2).Val⟩:QH)) λv46=>TH (gH (⟨(J (J p s24.2) s37.2).Op,(J (J p s24.2) s37.2).Loc,(J (J p s24.2) s37.2).Reg,(J (J p s24.2) s37.2).Val⟩:QH)) λv47=>gd (bq (s37.1.length+1) 32) <|QZ (s37.1++[(⟨s24.2,s37.2,(J (J p s24.2) s37.2).Loc,v46,v47⟩:QJ)]) else QZ s37.1) λs43=>gd (QF .i64<|s37.2+(1:Int)) <|QZ (.inl (s43,(s37.2+(1:Int)))) else QZ (.inr s37.1)
def sP (p:List<|List QH):LS ((List QJ)×Int) (List QJ):=λs24=>bif Q3 (s24.2<(p.length:Int)) then TH (gd (Q3<|0<=s24.2/\s24.2<(p.length:Int)) <|aB (sO p s24) (s24.1,(0:Int))) λs30=>gd (QF .i64<|s24.2+(1:Int)) <|QZ (.inl (s30,(s24.2+(1:Int)))) else QZ (.inr s24.1)
def gI (p:List<|List QH):Option (List QJ):= TH (aB uD (([]:List QJ),(0:Int))) λs1=>TH (aB (sP p) (s1,(0:Int))) λs18=>QZ s18
def qi (list:List QJ) (loc:Int):LS ((LI)×Int) (LI):=λs7=>bif Q3 (s7.2<(list.length:Int)) then TH (gd (Q3<|0<=s7.2/\s7.2<(list.length:Int)) <|TH (bif (J list s7.2).aH then QZ (((J list s7.2).Loc)==loc) else QZ QY) λs15=>bif s15 then gd (bq (s7.1.length+1) 8) <|QZ (s7.1++[s7.2]) else QZ s7.1) λs13=>gd (QF .i64<|s7.2+(1:Int)) <|QZ (.inl (s13,(s7.2+(1:Int)))) else QZ (.inr s7.1)
def gY (list:List QJ) (loc:Int):Option (LI):= TH (aB (qi list loc) (([]:LI),(0:Int))) λs1=>QZ s1
def eZ (s:LI) (v:Int):LS Int (Unit ⊕ Int):=λs4=>bif Q3 (s4<(s.length:Int)) then gd (Q3<|0<=s4/\s4<(s.length:Int)) <|bif (v==(J s s4)) then QZ (.inr<|.inr s4) else gd (QF .i64<|s4+(1:Int)) <|QZ (.inl<|s4+(1:Int)) else QZ (.inr<|.inl ())
def aZ (s:LI) (v:Int):Option Int:= sumK (aB (eZ s v) (0:Int)) λs1=>QZ (-1:Int)
def cz (s:LI) (v:Int):Option Bool:= TH (aZ s v) λv1=>QZ<|Q3<|(0:Int)<=v1
def bz (s:LI):Option (LI):= nilK (s.isEmpty) (QZ ([]:LI)) (gd (bq (([]:LI).length+s.length) 8) <|QZ<|([]:LI)++s)
def fe (s1_:LI) (s2_:LI):LS Int (Unit ⊕ Bool):=λs5=>bif Q3 (s5<(s1_.length:Int)) then gd (Q3<|0<=s5/\s5<(s1_.length:Int)) <|gd (Q3<|0<=s5/\s5<(s2_.length:Int)) <|bif ((J s1_ s5) != (J s2_ s5)) then QZ (.inr<|.inr QY) else gd (QF .i64<|s5+(1:Int)) <|QZ (.inl<|s5+(1:Int)) else QZ (.inr<|.inl ())
def dH (s1_:LI) (s2_:LI):Option Bool:= bif ((s1_.length:Int) != (s2_.length:Int)) then QZ QY else sumK (aB (fe s1_ s2_) (0:Int)) λs2=>QZ QX
def oU (x:QI) (v3:(List QJ)):LS Int (Unit ⊕ Bool):=λs10=>bif Q3 (s10<(v3.length:Int)) then gd (Q3<|0<=s10/\s10<(v3.length:Int)) <|gd (Q3<|0<=s10/\s10<(x.From.length:Int)) <|TH (bif !((J v3 s10).Reads) then QZ ((J x.From s10) != (-1:Int)) else QZ QY) λs15=>TH (bif s15 then QZ QX else TH (bif (J v3 s10).Reads then TH (bif ((J x.From s10)==s10) then QZ QX else TH (gY v3<|(J v3 s10).Loc) λv23=>TH (cz v23<|J x.From s10) λv24=>QZ<|!v24) λs21=>QZ s21 else QZ QY) λs19=>QZ s19) λs17=>bif s17 then QZ (.inr<|.inr QY) else gd (QF .i64<|s10+(1:Int)) <|QZ (.inl<|s10+(1:Int)) else QZ (.inr<|.inl ())
def oZ (x:QI) (v3:(List QJ)):LS Int (Unit ⊕ Bool):=λs30=>bif Q3 (s30<(x.Order.length:Int)) then gd (Q3<|0<=s30/\s30<(x.Order.length:Int)) <|TH (bz<|J x.Order s30) λv34=>TH (pG v34) λv38=>TH (gY v3 s30) λv39=>TH (dH v38 v39) λv40=>TH (bif !v40 then QZ QX else gd (Q3<|0<=(0:Int)/\(0:Int)<((J x.Order s30).length:Int)) <|QZ<|(J (J x.Order s30) (0:Int)) != s30) λs41=>bif s41 then QZ (.inr<|.inr QY) else gd (QF .i64<|s30+(1:Int)) <|QZ (.inl<|s30+(1:Int)) else QZ (.inr<|.inl ())
def bH (p:List<|List QH) (x:QI):Option Bool:= TH (dA p) λv1=>bif !v1 then QZ QY else TH (gI p) λv3=>TH (bif ((x.From.length:Int) != (v3.length:Int)) then QZ QX else QZ ((x.Order.length:Int) != (3:Int))) λs4=>bif s4 then QZ QY else sumK (aB (oU x v3) (0:Int)) λs7=>sumK (aB (oZ x v3) (0:Int)) λs27=>QZ QX
def nB (x:QH):Option Bool:= TH (bif (x.Op==(1:Int)) then QZ QX else QZ (x.Op==(5:Int))) λs1=>QZ s1
def lH (x:QH):Option Bool:= TH (bif (x.Op==(2:Int)) then QZ QX else QZ (x.Op==(3:Int))) λs1=>TH (bif s1 then QZ QX else QZ (x.Op==(5:Int))) λs3=>QZ s3
def qY:LS ((List QJ)×Int) (List QJ):=λs5=>bif Q3 (s5.2<=(2:Int)) then gd (bq (s5.1.length+1) 32) <|gd (QF .i64<|s5.2+(1:Int)) <|QZ (.inl ((s5.1++[(⟨(-1:Int),s5.2,s5.2,QY,QX⟩:QJ)]),(s5.2+(1:Int)))) else QZ (.inr s5.1)
def qj (p:List<|List QH) (s16:(List QJ)×Int):LS ((List QJ)×Int) (List QJ):=λs24=>gd (Q3<|0<=s16.2/\s16.2<(p.length:Int)) <|bif Q3 (s24.2<((J p s16.2).length:Int)) then TH (gd (Q3<|0<=s24.2/\s24.2<((J p s16.2).length:Int)) <|bif (((J (J p s16.2) s24.2).Op) != (4:Int)) then TH (nB (⟨(J (J p s16.2) s24.2).Op,(J (J p s16.2) s24.2).Loc,(J (J p s16.2) s24.2).Reg,(J (J p s16.2) s24.2).Val⟩:QH)) λv32=>TH (lH (⟨(J (J p s16.2) s24.2).Op,(J (J p s16.2) s24.2).Loc,(J (J p s16.2) s24.2).Reg,(J (J p s16.2) s24.2).Val⟩:QH)) λv33=>gd (bq (s24.1.length+1) 32) <|QZ (s24.1++[(⟨s16.2,s24.2,(J (J p s16.2) s24.2).Loc,v32,v33⟩:QJ)]) else QZ s24.1) λs29=>gd (QF .i64<|s24.2+(1:Int)) <|QZ (.inl (s29,(s24.2+(1:Int)))) else QZ (.inr s24.1)
def ql (p:List<|List QH):LS ((List QJ)×Int) (List QJ):=λs16=>bif Q3 (s16.2<(p.length:Int)) then TH (aB (qj p s16) (s16.1,(0:Int))) λs20=>gd (QF .i64<|s16.2+(1:Int)) <|QZ (.inl (s20,(s16.2+(1:Int)))) else QZ (.inr s16.1)
def cF (p:List<|List QH):Option (List QJ):= TH (aB qY (([]:List QJ),(0:Int))) λs1=>TH (aB (ql p) (s1,(0:Int))) λs12=>QZ s12
def qm (events:List QJ) (loc:Int):LS ((LI)×Int) (LI):=λs5=>bif Q3 (s5.2<(events.length:Int)) then TH (gd (Q3<|0<=s5.2/\s5.2<(events.length:Int)) <|TH (bif (J events s5.2).aH then QZ (((J events s5.2).Loc)==loc) else QZ QY) λs11=>bif s11 then gd (bq (s5.1.length+1) 8) <|QZ (s5.1++[s5.2]) else QZ s5.1) λs9=>gd (QF .i64<|s5.2+(1:Int)) <|QZ (.inl (s9,(s5.2+(1:Int)))) else QZ (.inr s5.1)
def bR (events:List QJ) (loc:Int):Option (LI):= TH (aB (qm events loc) (([]:LI),(0:Int))) λs1=>QZ s1
def sS (list:LI) (n:Int):LS Int (Unit ⊕ Int):=λs4=>bif Q3 (s4<(list.length:Int)) then gd (Q3<|0<=s4/\s4<(list.length:Int)) <|bif ((J list s4)==n) then QZ (.inr<|.inr s4) else gd (QF .i64<|s4+(1:Int)) <|QZ (.inl<|s4+(1:Int)) else QZ (.inr<|.inl ())
def fg (list:LI) (n:Int):Option Int:= sumK (aB (sS list n) (0:Int)) λs1=>QZ (-1:Int)
def qZ (list:LI) (writers:LI):LS Int (Unit ⊕ Bool):=λs10=>bif Q3 (s10<(writers.length:Int)) then gd (Q3<|0<=s10/\s10<(writers.length:Int)) <|TH (fg list<|J writers s10) λv14=>bif Q3 (v14<(0:Int)) then QZ (.inr<|.inr QY) else gd (QF .i64<|s10+(1:Int)) <|QZ (.inl<|s10+(1:Int)) else QZ (.inr<|.inl ())
def nC (list:LI) (writers:LI):Option Bool:= sumK (TH (bif ((list.length:Int) != (writers.length:Int)) then QZ QX else gd (Q3<|0<=(0:Int)/\(0:Int)<(list.length:Int)) <|gd (Q3<|0<=(0:Int)/\(0:Int)<(writers.length:Int)) <|QZ<|(J list (0:Int)) != (J writers (0:Int))) λs2=>bif s2 then QZ (.inr QY) else QZ (.inl ())) λs1=>sumK (aB (qZ list writers) (0:Int)) λs7=>QZ QX
def o5 (x:QI) (v3:(List QJ)):LS Int (Unit ⊕ Bool):=λs10=>bif Q3 (s10<(v3.length:Int)) then sumK (sumK (TH (gd (Q3<|0<=s10/\s10<(v3.length:Int)) <|bif (J v3 s10).Reads then TH (bR v3<|(J v3 s10).Loc) λv18=>gd (Q3<|0<=s10/\s10<(x.From.length:Int)) <|TH (fg v18<|J x.From s10) λv20=>QZ (Q3<|v20<(0:Int)) else QZ QY) λs15=>bif s15 then QZ (.inr<|.inr<|.inr<|.inr QY) else QZ (.inl ())) λs14=>gd (Q3<|0<=s10/\s10<(v3.length:Int)) <|TH (bif !((J v3 s10).Reads) then gd (Q3<|0<=s10/\s10<(x.From.length:Int)) <|QZ ((J x.From s10) != (-1:Int)) else QZ QY) λs23=>TH (bif s23 then QZ QX else gd (Q3<|0<=s10/\s10<(x.From.length:Int)) <|QZ<|(J x.From s10)==s10) λs26=>bif s26 then QZ (.inr<|.inr<|.inr QY) else QZ (.inl ())) λs13=>gd (QF .i64<|s10+(1:Int)) <|QZ (.inl<|s10+(1:Int)) else QZ (.inr<|.inl ())
def o6 (x:QI) (v3:(List QJ)):LS Int (Unit ⊕ Bool):=λs34=>bif Q3 (s34<=(2:Int)) then gd (Q3<|0<=s34/\s34<(x.Order.length:Int)) <|TH (bR v3 s34) λv38=>TH (nC (J x.Order s34) v38) λv39=>bif !v39 then QZ (.inr<|.inr QY) else gd (QF .i64<|s34+(1:Int)) <|QZ (.inl<|s34+(1:Int)) else QZ (.inr<|.inl ())
def gZ (p:List<|List QH) (x:QI):Option Bool:= TH (aV p) λv1=>bif !v1 then QZ QY else TH (cF p) λv3=>TH (bif ((x.From.length:Int) != (v3.length:Int)) then QZ QX else QZ ((x.Order.length:Int) != (3:Int))) λs4=>bif s4 then QZ QY else sumK (aB (o5 x v3) (0:Int)) λs7=>sumK (aB (o6 x v3) (0:Int)) λs31=>QZ QX
def dB (x:QI) (loc:Int) (i:Int) (k_:Int):Option Bool:= gd (Q3<|0<=loc/\loc<(x.Order.length:Int)) <|TH (fg (J x.Order loc) i) λv2=>TH (fg (J x.Order loc) k_) λv3=>QZ<|Q3<|v2<v3
def sU (list:List QH) (to:Int):LS Int (Unit ⊕ Bool):=λs5=>bif Q3 (s5<to) then gd (Q3<|0<=s5/\s5<(list.length:Int)) <|bif (((J list s5).Op)==(4:Int)) then QZ (.inr<|.inr QX) else gd (QF .i64<|s5+(1:Int)) <|QZ (.inl<|s5+(1:Int)) else QZ (.inr<|.inl ())
def ko (list:List QH) (from_:Int) (to:Int):Option Bool:= sumK (gd (QF .i64<|from_+(1:Int)) <|aB (sU list to)<|from_+(1:Int)) λs1=>QZ QY
def df (p:List<|List QH) (x:QI) (events:List QJ) (name:BA) (i:Int) (k_:Int):Option Bool:= gd (Q3<|0<=i/\i<(events.length:Int)) <|gd (Q3<|0<=k_/\k_<(events.length:Int)) <|TH (bif (((J events i).Thread)==((J events k_).Thread)) then QZ (Q3<|(0:Int)<=((J events i).Thread)) else QZ QY) λs3=>sumK (bif Q3 (name=(⟨#[112,111]⟩:BA)) then TH (bif s3 then QZ (Q3<|((J events i).Index)<((J events k_).Index)) else QZ QY) λs7=>QZ (.inr s7) else bif Q3 (name=(⟨#[108,111,99]⟩:BA)) then QZ (.inr<|((J events i).Loc)==((J events k_).Loc)) else bif Q3 (name=(⟨#[101,120,116]⟩:BA)) then QZ (.inr<|!s3) else bif Q3 (name=(⟨#[114,102]⟩:BA)) then TH (bif (J events k_).Reads then gd (Q3<|0<=k_/\k_<(x.From.length:Int)) <|QZ ((J x.From k_)==i) else QZ QY) λs12=>QZ (.inr s12) else bif Q3 (name=(⟨#[99,111]⟩:BA)) then TH (bif (J events i).aH then QZ ((J events k_).aH) else QZ QY) λs16=>TH (bif s16 then QZ (((J events i).Loc)==((J events k_).Loc)) else QZ QY) λs18=>TH (bif s18 then TH (dB x ((J events i).Loc) i k_) λv22=>QZ v22 else QZ QY) λs20=>QZ (.inr s20) else bif Q3 (name=(⟨#[102,114]⟩:BA)) then TH (bif (J events i).Reads then bif (J events k_).aH then bif (((J events i).Loc)==((J events k_).Loc)) then bif (i != k_) then gd (Q3<|0<=i/\i<(x.From.length:Int)) <|TH (dB x ((J events i).Loc) (J x.From i) k_) λv30=>QZ v30 else QZ QY else QZ QY else QZ QY else QZ QY) λs24=>QZ (.inr s24) else bif Q3 (name=(⟨#[102,101,110,99,101]⟩:BA)) then TH (bif s3 then bif Q3 (((J events i).Index)<((J events k_).Index)) then gd (Q3<|0<=(J events i).Thread/\(J events i).Thread<(p.length:Int)) <|TH (ko (J p<|(J events i).Thread) ((J events i).Index)<|(J events k_).Index) λv36=>QZ v36 else QZ QY else QZ QY) λs32=>QZ (.inr s32) else bif Q3 (name=(⟨#[119,114]⟩:BA)) then TH (bif (J events i).aH then QZ (!((J events i).Reads)) else QZ QY) λs38=>TH (bif s38 then QZ ((J events k_).Reads) else QZ QY) λs40=>TH (bif s40 then QZ (!((J events k_).aH)) else QZ QY) λs42=>QZ (.inr s42) else bif Q3 (name=(⟨#[119,119]⟩:BA)) then TH (bif (J events i).aH then QZ (!((J events i).Reads)) else QZ QY) λs45=>TH (bif s45 then QZ ((J events k_).aH) else QZ QY) λs47=>TH (bif s47 then QZ (!((J events k_).Reads)) else QZ QY) λs49=>QZ (.inr s49) else QZ (.inl ())) λs5=>TH (bif Q3 (name=(⟨#[105,100]⟩:BA)) then QZ (i==k_) else QZ QY) λs51=>QZ s51
def uE (p:List<|List QH) (x:QI) (name:BA) (v1:(List QJ)) (s6:(LI)×Int):LS (Int×Int) Int:=λs14=>bif Q3 (s14.1<(v1.length:Int)) then TH (TH (df p x v1 name s6.2 s14.1) λv18=>bif v18 then gd (Q3<|0<=s14.1) <|QZ (bOr .i64 s14.2<|De .i64 (1:Int) s14.1) else QZ s14.2) λs17=>gd (QF .i64<|s14.1+(1:Int)) <|QZ (.inl ((s14.1+(1:Int)),s17)) else QZ (.inr s14.2)
def vz (p:List<|List QH) (x:QI) (name:BA) (v1:(List QJ)):LS ((LI)×Int) (LI):=λs6=>bif Q3 (s6.2<(v1.length:Int)) then TH (TH (aB (uE p x name v1 s6) ((0:Int),(0:Int))) λs11=>gd (bq (s6.1.length+1) 8) <|QZ<|s6.1++[s11]) λs10=>gd (QF .i64<|s6.2+(1:Int)) <|QZ (.inl (s10,(s6.2+(1:Int)))) else QZ (.inr s6.1)
def d9 (p:List<|List QH) (x:QI) (name:BA):Option (LI):= TH (cF p) λv1=>TH (aB (vz p x name v1) (([]:LI),(0:Int))) λs2=>QZ s2
def mR (a:LI) (b:LI):LS ((LI)×Int) (LI):=λs5=>bif Q3 (s5.2<(a.length:Int)) then gd (Q3<|0<=s5.2/\s5.2<(a.length:Int)) <|gd (Q3<|0<=s5.2/\s5.2<(b.length:Int)) <|gd (bq (s5.1.length+1) 8) <|gd (QF .i64<|s5.2+(1:Int)) <|QZ (.inl ((s5.1++[(bOr .i64 (J a s5.2)<|J b s5.2)]),(s5.2+(1:Int)))) else QZ (.inr s5.1)
def nD (a:LI) (b:LI):Option (LI):= TH (aB (mR a b) (([]:LI),(0:Int))) λs1=>QZ s1
def eu (r_:LI) (i:Int) (k_:Int):Option Bool:= gd (Q3<|0<=i/\i<(r_.length:Int)) <|gd (Q3<|0<=k_) <|QZ<|(fH .i64 (jw .i64 (J r_ i) k_) (1:Int))==(1:Int)
def fP (s:List BA) (v:BA):LS Int (Unit ⊕ Int):=λs4=>bif Q3 (s4<(s.length:Int)) then gd (Q3<|0<=s4/\s4<(s.length:Int)) <|bif Q3 (v=(J s s4)) then QZ (.inr<|.inr s4) else gd (QF .i64<|s4+(1:Int)) <|QZ (.inl<|s4+(1:Int)) else QZ (.inr<|.inl ())
def bK (s:List BA) (v:BA):Option Int:= sumK (aB (fP s v) (0:Int)) λs1=>QZ (-1:Int)
def lI (op:Int):Option (Int×ByteArray×Int):= bif (op==(1:Int)) then QZ ((0:Int),(⟨#[]⟩:BA),(0:Int)) else bif (op==(2:Int)) then QZ ((3:Int),(⟨#[124]⟩:BA),(2:Int)) else bif (op==(3:Int)) then QZ ((2:Int),(⟨#[38]⟩:BA),(2:Int)) else bif (op==(4:Int)) then QZ ((2:Int),(⟨#[45]⟩:BA),(2:Int)) else bif (op==(5:Int)) then QZ ((1:Int),(⟨#[59]⟩:BA),(2:Int)) else bif (op==(6:Int)) then QZ ((0:Int),(⟨#[126]⟩:BA),(1:Int)) else bif (op==(7:Int)) then QZ ((0:Int),(⟨#[43]⟩:BA),(1:Int)) else QZ ((0:Int),(⟨#[]⟩:BA),(-1:Int))
def bX (s:List BA) (v:BA):Option Bool:= TH (bK s v) λv1=>QZ<|Q3<|(0:Int)<=v1
def ia (name:BA):Option Bool:= TH (bX Bh name) λv1=>QZ v1
def rf (rcf:aa->Int->Option Int) (e_:aa) (most:Int):LS (Int×Int) Int:=λs13=>bif Q3 (s13.1<(e_.Kids.length:Int)) then gd (Q3<|0<=s13.1/\s13.1<(e_.Kids.length:Int)) <|gd (QF .i64<|most-(1:Int)) <|TH (rcf (⟨((J e_.Kids s13.1).out).Op,((J e_.Kids s13.1).out).Name,((J e_.Kids s13.1).out).Kids⟩:aa)<|most-(1:Int)) λv18=>gd (QF .i64<|s13.2+v18) <|bif Q3 ((40:Int)<(s13.2+v18)) then QZ (.inr<|s13.2+v18) else gd (QF .i64<|s13.1+(1:Int)) <|QZ (.inl ((s13.1+(1:Int)),(s13.2+v18))) else QZ (.inr s13.2)
def kF (rcf:aa->Int->Option Int) (e_:aa) (most:Int):Option Int:= TH (lI e_.Op) λv1=>sumK (TH (bif (most==(0:Int)) then QZ QX else bif ((e_.Kids.length:Int) != v1.2.2) then QZ QX else TH (ia e_.Name) λv6=>bif (!((e_.Op==(1:Int))==v6)) then QZ QX else bif (e_.Op != (1:Int)) then QZ (!decide (e_.Name=(⟨#[]⟩:BA))) else QZ QY) λs3=>bif s3 then QZ (.inr (41:Int)) else QZ (.inl ())) λs2=>TH (aB (rf rcf e_ most) ((0:Int),(1:Int))) λs10=>QZ s10
def dO:Nat->aa->Int->Option Int
 | 0=>λ_ _=>Q0
 | n+1=>kF (dO n)
def wS (e_:aa) (most:Int):Option Int:=DU λnf=>dO nf e_ most
def gJ (e_:aa):Option Bool:= TH (wS e_ (12:Int)) λv1=>QZ<|Q3<|v1<=(40:Int)
def lJ (x:Int) (low:Int) (high:Int):Option Bool:= TH (bif Q3 (low<=x) then QZ (Q3<|x<=high) else QZ QY) λs1=>QZ s1
def kR (r_:ah):Option Bool:= TH (lJ r_.Kind (1:Int) (3:Int)) λv1=>TH (bif !v1 then QZ QX else TH (gJ r_.Expr) λv4=>QZ<|!v4) λs2=>QZ s2
def aR (s:List ah):LS Int (Unit ⊕ Int):=λs4=>bif Q3 (s4<(s.length:Int)) then gd (Q3<|0<=s4/\s4<(s.length:Int)) <|TH (kR<|J s s4) λv8=>bif v8 then QZ (.inr<|.inr s4) else gd (QF .i64<|s4+(1:Int)) <|QZ (.inl<|s4+(1:Int)) else QZ (.inr<|.inl ())
def aD (s:List ah):Option Int:= sumK (aB (aR s) (0:Int)) λs1=>QZ (-1:Int)
def aC (s:List ah):Option Bool:= TH (aD s) λv1=>QZ<|Q3<|(0:Int)<=v1
def bY (m:List ah):Option Bool:= TH (lJ (m.length:Int) (1:Int) (5:Int)) λv1=>TH (bif v1 then TH (aC m) λv4=>QZ (!v4) else QZ QY) λs2=>QZ s2
def cZ (x:QI) (loc:Int) (i:Int) (k_:Int):Option Bool:= gd (Q3<|0<=loc/\loc<(x.Order.length:Int)) <|TH (aZ (J x.Order loc) i) λv2=>TH (aZ (J x.Order loc) k_) λv3=>TH (bif Q3 ((0:Int)<=v2) then QZ (Q3<|(0:Int)<=v3) else QZ QY) λs4=>TH (bif s4 then QZ (Q3<|v2<v3) else QZ QY) λs6=>QZ s6
def qo (y:QH):Option Bool:= QZ<|y.Op==(4:Int)
def aT (s:List QH):LS Int (Unit ⊕ Int):=λs4=>bif Q3 (s4<(s.length:Int)) then gd (Q3<|0<=s4/\s4<(s.length:Int)) <|TH (qo<|J s s4) λv8=>bif v8 then QZ (.inr<|.inr s4) else gd (QF .i64<|s4+(1:Int)) <|QZ (.inl<|s4+(1:Int)) else QZ (.inr<|.inl ())
def aG (s:List QH):Option Int:= sumK (aB (aT s) (0:Int)) λs1=>QZ (-1:Int)
def az (s:List QH):Option Bool:= TH (aG s) λv1=>QZ<|Q3<|(0:Int)<=v1
def bZ (e_:QJ) (writes:Bool):Option Bool:= TH (bif (e_.aH==writes) then QZ (!(e_.Reads==writes)) else QZ QY) λs1=>QZ s1
def pI (p:List<|List QH) (x:QI) (list:List QJ) (name:BA) (i:Int) (k_:Int):Option Bool:= gd (Q3<|0<=i/\i<(list.length:Int)) <|gd (Q3<|0<=k_/\k_<(list.length:Int)) <|TH (bif Q3 ((0:Int)<=((J list i).Thread)) then QZ (((J list i).Thread)==((J list k_).Thread)) else QZ QY) λs3=>TH (bif s3 then QZ (Q3<|((J list i).Index)<((J list k_).Index)) else QZ QY) λs5=>sumK (bif Q3 (name=(⟨#[112,111]⟩:BA)) then QZ (.inr s5) else bif Q3 (name=(⟨#[108,111,99]⟩:BA)) then QZ (.inr<|((J list i).Loc)==((J list k_).Loc)) else bif Q3 (name=(⟨#[101,120,116]⟩:BA)) then TH (bif (((J list i).Thread) != ((J list k_).Thread)) then QZ QX else QZ (Q3<|((J list i).Thread)<(0:Int))) λs11=>QZ (.inr s11) else bif Q3 (name=(⟨#[114,102]⟩:BA)) then gd (Q3<|0<=k_/\k_<(x.From.length:Int)) <|QZ (.inr<|(J x.From k_)==i) else bif Q3 (name=(⟨#[99,111]⟩:BA)) then TH (cZ x ((J list i).Loc) i k_) λv16=>QZ (.inr v16) else bif Q3 (name=(⟨#[102,114]⟩:BA)) then TH (bif (J list i).Reads then bif (J list k_).aH then bif (i != k_) then gd (Q3<|0<=i/\i<(x.From.length:Int)) <|TH (cZ x ((J list i).Loc) (J x.From i) k_) λv23=>QZ v23 else QZ QY else QZ QY else QZ QY) λs18=>QZ (.inr s18) else bif Q3 (name=(⟨#[102,101,110,99,101]⟩:BA)) then TH (bif s5 then gd (Q3<|0<=(J list i).Thread/\(J list i).Thread<(p.length:Int)) <|gd (Q3<|0<=(J list i).Index/\(J list i).Index<=(J list k_).Index/\(J list k_).Index<=((J p<|(J list i).Thread).length:Int)) <|TH (az<|((J p<|(J list i).Thread).drop ((J list i).Index).toNat).take<|((J list k_).Index).toNat-((J list i).Index).toNat) λv29=>QZ v29 else QZ QY) λs25=>QZ (.inr s25) else bif Q3 (name=(⟨#[119,114]⟩:BA)) then TH (bZ (⟨(J list i).Thread,(J list i).Index,(J list i).Loc,(J list i).Reads,(J list i).aH⟩:QJ) QX) λv31=>TH (bif v31 then TH (bZ (⟨(J list k_).Thread,(J list k_).Index,(J list k_).Loc,(J list k_).Reads,(J list k_).aH⟩:QJ) QY) λv34=>QZ v34 else QZ QY) λs32=>QZ (.inr s32) else bif Q3 (name=(⟨#[119,119]⟩:BA)) then TH (bZ (⟨(J list i).Thread,(J list i).Index,(J list i).Loc,(J list i).Reads,(J list i).aH⟩:QJ) QX) λv36=>TH (bif v36 then TH (bZ (⟨(J list k_).Thread,(J list k_).Index,(J list k_).Loc,(J list k_).Reads,(J list k_).aH⟩:QJ) QX) λv39=>QZ v39 else QZ QY) λs37=>QZ (.inr s37) else QZ (.inl ())) λs7=>QZ<|i==k_
def rO (i:Int) (k_:Int) (a2:List<|List QH) (a3:QI) (a4:List QJ) (a5:BA):Option Bool:= TH (pI a2 a3 a4 a5 i k_) λv1=>QZ v1
def mF (n:Int) (is0:List<|List QH) (is1:QI) (is2:List QJ) (is3:BA) (s6:(LI)×Int):LS ((LI)×Int) (LI):=λs14=>bif Q3 (s14.2<n) then TH (TH (rO s6.2 s14.2 is0 is1 is2 is3) λv19=>bif v19 then gd (Q3<|0<=s6.2/\s6.2<(s14.1.length:Int)) <|gd (Q3<|0<=s14.2) <|QZ (s14.1.set s6.2.toNat<|bOr .i64 (J s14.1 s6.2)<|De .i64 (1:Int) s14.2) else QZ s14.1) λs18=>gd (QF .i64<|s14.2+(1:Int)) <|QZ (.inl (s18,(s14.2+(1:Int)))) else QZ (.inr s14.1)
def mS (n:Int) (is0:List<|List QH) (is1:QI) (is2:List QJ) (is3:BA):LS ((LI)×Int) (LI):=λs6=>bif Q3 (s6.2<n) then TH (aB (mF n is0 is1 is2 is3 s6) (s6.1,(0:Int))) λs10=>gd (QF .i64<|s6.2+(1:Int)) <|QZ (.inl (s10,(s6.2+(1:Int)))) else QZ (.inr s6.1)
def iJ (n:Int) (is0:List<|List QH) (is1:QI) (is2:List QJ) (is3:BA):Option (LI):= gd (Q3<|0<=n/\n<=n/\n*((8:Nat):Int)<=140737488355328/\n<=140737488355328) <|TH (aB (mS n is0 is1 is2 is3) ((TJ n.toNat (QW:Int)),(0:Int))) λs2=>QZ s2
def gG (p:List<|List QH) (x:QI) (name:BA):Option (LI):= TH (gI p) λv1=>TH (iJ (v1.length:Int) p x v1 name) λv2=>QZ v2
def mU (x:Int) (a1:LI):Option Bool:= TH (bif Q3 (x<(0:Int)) then QZ QX else gd (Q3<|0<=(a1.length:Int)) <|QZ<|Q3<|(0:Int)<(jw .i64 x (a1.length:Int))) λs1=>QZ s1
def bI (s:LI) (f0:LI):LS Int (Unit ⊕ Int):=λs4=>bif Q3 (s4<(s.length:Int)) then gd (Q3<|0<=s4/\s4<(s.length:Int)) <|TH (mU (J s s4) f0) λv8=>bif v8 then QZ (.inr<|.inr s4) else gd (QF .i64<|s4+(1:Int)) <|QZ (.inl<|s4+(1:Int)) else QZ (.inr<|.inl ())
def aW (s:LI) (f0:LI):Option Int:= sumK (aB (bI s f0) (0:Int)) λs1=>QZ (-1:Int)
def aQ (s:LI) (f0:LI):Option Bool:= TH (aW s f0) λv1=>QZ<|Q3<|(0:Int)<=v1
def bB (r_:LI):Option Bool:= TH (bif Q3 ((r_.length:Int)<=(16:Int)) then TH (aQ r_ r_) λv3=>QZ (!v3) else QZ QY) λs1=>QZ s1
def cA (r_:LI) (i:Int) (k_:Int):Option Bool:= gd (Q3<|0<=i/\i<(r_.length:Int)) <|gd (Q3<|0<=k_) <|QZ<|(fH .i64 (jw .i64 (J r_ i) k_) (1:Int))==(1:Int)
def kS (i:Int) (k_:Int) (a2:LI):Option Bool:= TH (cA a2 k_ i) λv1=>QZ v1
def jy (n:Int) (is0:LI) (s6:(LI)×Int):LS ((LI)×Int) (LI):=λs14=>bif Q3 (s14.2<n) then TH (TH (kS s6.2 s14.2 is0) λv19=>bif v19 then gd (Q3<|0<=s6.2/\s6.2<(s14.1.length:Int)) <|gd (Q3<|0<=s14.2) <|QZ (s14.1.set s6.2.toNat<|bOr .i64 (J s14.1 s6.2)<|De .i64 (1:Int) s14.2) else QZ s14.1) λs18=>gd (QF .i64<|s14.2+(1:Int)) <|QZ (.inl (s18,(s14.2+(1:Int)))) else QZ (.inr s14.1)
def kr (n:Int) (is0:LI):LS ((LI)×Int) (LI):=λs6=>bif Q3 (s6.2<n) then TH (aB (jy n is0 s6) (s6.1,(0:Int))) λs10=>gd (QF .i64<|s6.2+(1:Int)) <|QZ (.inl (s10,(s6.2+(1:Int)))) else QZ (.inr s6.1)
def ez (n:Int) (is0:LI):Option (LI):= gd (Q3<|0<=n/\n<=n/\n*((8:Nat):Int)<=140737488355328/\n<=140737488355328) <|TH (aB (kr n is0) ((TJ n.toNat (QW:Int)),(0:Int))) λs2=>QZ s2
def jk (r_:LI):Option (LI):= TH (bB r_) λv1=>bif !v1 then QZ ([]:LI) else TH (ez (r_.length:Int) r_) λv3=>QZ v3
def iS (s16:(LI)×Int):LS ((LI)×Int) (LI):=λs28=>bif Q3 (s28.2<(s16.1.length:Int)) then TH (TH (cA s28.1 s28.2 s16.2) λv35=>bif v35 then gd (Q3<|0<=s28.2/\s28.2<(s28.1.length:Int)) <|gd (Q3<|0<=s16.2/\s16.2<(s28.1.length:Int)) <|QZ (s28.1.set s28.2.toNat<|bOr .i64 (J s28.1 s28.2)<|J s28.1 s16.2) else QZ s28.1) λs34=>gd (QF .i64<|s28.2+(1:Int)) <|QZ (.inl (s34,(s28.2+(1:Int)))) else QZ (.inr s28.1)
def nS (v3:(LI)):LS ((LI)×Int) (LI):=λs16=>bif Q3 (s16.2<(v3.length:Int)) then TH (aB (iS s16) (s16.1,(0:Int))) λs22=>gd (QF .i64<|s16.2+(1:Int)) <|QZ (.inl (s22,(s16.2+(1:Int)))) else QZ (.inr s16.1)
def fQ (r_:LI):Option (LI):= TH (bB r_) λv1=>bif !v1 then QZ ([]:LI) else TH (bz r_) λv3=>TH (aB (nS v3) (v3,(0:Int))) λs7=>QZ s7
def di (a:LI) (b:LI):Option Bool:= TH (bif ((a.length:Int)==(b.length:Int)) then TH (bB a) λv3=>QZ v3 else QZ QY) λs1=>TH (bif s1 then TH (bB b) λv6=>QZ v6 else QZ QY) λs4=>QZ s4
def mV (x:Int) (y:Int):Option Int:= QZ<|bOr .i64 x y
def kT (a:LI) (b:LI):LS ((LI)×Int) (LI):=λs8=>bif Q3 (s8.2<(a.length:Int)) then gd (Q3<|0<=s8.2/\s8.2<(a.length:Int)) <|gd (Q3<|0<=s8.2/\s8.2<(b.length:Int)) <|TH (mV (J a s8.2)<|J b s8.2) λv14=>gd (Q3<|0<=s8.2/\s8.2<(s8.1.length:Int)) <|gd (QF .i64<|s8.2+(1:Int)) <|QZ (.inl ((s8.1.set s8.2.toNat v14),(s8.2+(1:Int)))) else QZ (.inr s8.1)
def fD (a:LI) (b:LI):Option (LI):= TH (di a b) λv1=>bif !v1 then QZ ([]:LI) else gd (Q3<|0<=(a.length:Int)/\(a.length:Int)<=(a.length:Int)/\(a.length:Int)*((8:Nat):Int)<=140737488355328/\(a.length:Int)<=140737488355328) <|TH (aB (kT a b) ((TJ (a.length:Int).toNat (QW:Int)),(0:Int))) λs4=>QZ s4
def lK (a:LI) (b:LI):Option (LI):= TH (fD a b) λv1=>QZ v1
def oh (x:Int) (y:Int):Option Int:= QZ<|fH .i64 x y
def lw (a:LI) (b:LI):LS ((LI)×Int) (LI):=λs8=>bif Q3 (s8.2<(a.length:Int)) then gd (Q3<|0<=s8.2/\s8.2<(a.length:Int)) <|gd (Q3<|0<=s8.2/\s8.2<(b.length:Int)) <|TH (oh (J a s8.2)<|J b s8.2) λv14=>gd (Q3<|0<=s8.2/\s8.2<(s8.1.length:Int)) <|gd (QF .i64<|s8.2+(1:Int)) <|QZ (.inl ((s8.1.set s8.2.toNat v14),(s8.2+(1:Int)))) else QZ (.inr s8.1)
def fS (a:LI) (b:LI):Option (LI):= TH (di a b) λv1=>bif !v1 then QZ ([]:LI) else gd (Q3<|0<=(a.length:Int)/\(a.length:Int)<=(a.length:Int)/\(a.length:Int)*((8:Nat):Int)<=140737488355328/\(a.length:Int)<=140737488355328) <|TH (aB (lw a b) ((TJ (a.length:Int).toNat (QW:Int)),(0:Int))) λs4=>QZ s4
def nG (a:LI) (b:LI):Option (LI):= TH (fS a b) λv1=>QZ v1
def mW (x:Int) (y:Int):Option Int:= QZ<|mP .i64 x y
def kU (a:LI) (b:LI):LS ((LI)×Int) (LI):=λs8=>bif Q3 (s8.2<(a.length:Int)) then gd (Q3<|0<=s8.2/\s8.2<(a.length:Int)) <|gd (Q3<|0<=s8.2/\s8.2<(b.length:Int)) <|TH (mW (J a s8.2)<|J b s8.2) λv14=>gd (Q3<|0<=s8.2/\s8.2<(s8.1.length:Int)) <|gd (QF .i64<|s8.2+(1:Int)) <|QZ (.inl ((s8.1.set s8.2.toNat v14),(s8.2+(1:Int)))) else QZ (.inr s8.1)
def fE (a:LI) (b:LI):Option (LI):= TH (di a b) λv1=>bif !v1 then QZ ([]:LI) else gd (Q3<|0<=(a.length:Int)/\(a.length:Int)<=(a.length:Int)/\(a.length:Int)*((8:Nat):Int)<=140737488355328/\(a.length:Int)<=140737488355328) <|TH (aB (kU a b) ((TJ (a.length:Int).toNat (QW:Int)),(0:Int))) λs4=>QZ s4
def lL (a:LI) (b:LI):Option (LI):= TH (fE a b) λv1=>QZ v1
def nT (a:LI) (b:LI) (s8:(LI)×Int):LS ((LI)×Int) (LI):=λs16=>bif Q3 (s16.2<(b.length:Int)) then TH (TH (cA a s8.2 s16.2) λv21=>bif v21 then gd (Q3<|0<=s8.2/\s8.2<(s16.1.length:Int)) <|gd (Q3<|0<=s16.2/\s16.2<(b.length:Int)) <|QZ (s16.1.set s8.2.toNat<|bOr .i64 (J s16.1 s8.2)<|J b s16.2) else QZ s16.1) λs20=>gd (QF .i64<|s16.2+(1:Int)) <|QZ (.inl (s20,(s16.2+(1:Int)))) else QZ (.inr s16.1)
def o7 (a:LI) (b:LI):LS ((LI)×Int) (LI):=λs8=>bif Q3 (s8.2<(a.length:Int)) then TH (aB (nT a b s8) (s8.1,(0:Int))) λs12=>gd (QF .i64<|s8.2+(1:Int)) <|QZ (.inl (s12,(s8.2+(1:Int)))) else QZ (.inr s8.1)
def jl (a:LI) (b:LI):Option (LI):= TH (di a b) λv1=>bif !v1 then QZ ([]:LI) else gd (Q3<|0<=(a.length:Int)/\(a.length:Int)<=(a.length:Int)/\(a.length:Int)*((8:Nat):Int)<=140737488355328/\(a.length:Int)<=140737488355328) <|TH (aB (o7 a b) ((TJ (a.length:Int).toNat (QW:Int)),(0:Int))) λs4=>QZ s4
def bS (rcf:(List<|List QH)->QI->aa->Option (LI)) (p:List<|List QH) (x:QI) (e_:aa):Option (LI):= bif (e_.Op==(1:Int)) then TH (gG p x e_.Name) λv2=>QZ v2 else gd (Q3<|0<=(0:Int)/\(0:Int)<(e_.Kids.length:Int)) <|TH (rcf p x<|(J e_.Kids (0:Int)).out) λv4=>bif (e_.Op==(6:Int)) then TH (jk v4) λv6=>QZ v6 else bif (e_.Op==(7:Int)) then TH (fQ v4) λv8=>QZ v8 else gd (Q3<|0<=(1:Int)/\(1:Int)<(e_.Kids.length:Int)) <|TH (rcf p x<|(J e_.Kids (1:Int)).out) λv10=>bif (e_.Op==(2:Int)) then TH (lK v4 v10) λv12=>QZ v12 else bif (e_.Op==(3:Int)) then TH (nG v4 v10) λv14=>QZ v14 else bif (e_.Op==(4:Int)) then TH (lL v4 v10) λv16=>QZ v16 else TH (jl v4 v10) λv17=>QZ v17
def bT:Nat->(List<|List QH)->QI->aa->Option (LI)
 | 0=>λ_ _ _=>Q0
 | n+1=>bS (bT n)
def rP (p:List<|List QH) (x:QI) (e_:aa):Option (LI):=DU λnf=>bT nf p x e_
def lM (r_:LI):LS Int (Unit ⊕ Bool):=λs4=>bif Q3 (s4<(r_.length:Int)) then TH (cA r_ s4 s4) λv7=>bif v7 then QZ (.inr<|.inr QY) else gd (QF .i64<|s4+(1:Int)) <|QZ (.inl<|s4+(1:Int)) else QZ (.inr<|.inl ())
def da (r_:LI):Option Bool:= sumK (aB (lM r_) (0:Int)) λs1=>QZ QX
def jm (r_:LI):Option Bool:= TH (bB r_) λv1=>TH (bif v1 then TH (fQ r_) λv4=>TH (da v4) λv5=>QZ v5 else QZ QY) λs2=>QZ s2
def gK (x:Int):Option Int:= gd (Q3<|0<=(1:Int)) <|gd (QF .u64<|(fH .u64 (jw .u64 x (1:Int)) (6148914691236517205:Int))+(fH .u64 x (6148914691236517205:Int))) <|gd (Q3<|0<=(2:Int)) <|gd (QF .u64<|(fH .u64 (jw .u64 ((fH .u64 (jw .u64 x (1:Int)) (6148914691236517205:Int))+(fH .u64 x (6148914691236517205:Int))) (2:Int)) (3689348814741910323:Int))+(fH .u64 ((fH .u64 (jw .u64 x (1:Int)) (6148914691236517205:Int))+(fH .u64 x (6148914691236517205:Int))) (3689348814741910323:Int))) <|gd (Q3<|0<=(4:Int)) <|gd (QF .u64<|(jw .u64 ((fH .u64 (jw .u64 ((fH .u64 (jw .u64 x (1:Int)) (6148914691236517205:Int))+(fH .u64 x (6148914691236517205:Int))) (2:Int)) (3689348814741910323:Int))+(fH .u64 ((fH .u64 (jw .u64 x (1:Int)) (6148914691236517205:Int))+(fH .u64 x (6148914691236517205:Int))) (3689348814741910323:Int))) (4:Int))+((fH .u64 (jw .u64 ((fH .u64 (jw .u64 x (1:Int)) (6148914691236517205:Int))+(fH .u64 x (6148914691236517205:Int))) (2:Int)) (3689348814741910323:Int))+(fH .u64 ((fH .u64 (jw .u64 x (1:Int)) (6148914691236517205:Int))+(fH .u64 x (6148914691236517205:Int))) (3689348814741910323:Int)))) <|TH (QZ<|(jw .u64 ((fH .u64 (jw .u64 ((fH .u64 (jw .u64 x (1:Int)) (6148914691236517205:Int))+(fH .u64 x (6148914691236517205:Int))) (2:Int)) (3689348814741910323:Int))+(fH .u64 ((fH .u64 (jw .u64 x (1:Int)) (6148914691236517205:Int))+(fH .u64 x (6148914691236517205:Int))) (3689348814741910323:Int))) (4:Int))+((fH .u64 (jw .u64 ((fH .u64 (jw .u64 x (1:Int)) (6148914691236517205:Int))+(fH .u64 x (6148914691236517205:Int))) (2:Int)) (3689348814741910323:Int))+(fH .u64 ((fH .u64 (jw .u64 x (1:Int)) (6148914691236517205:Int))+(fH .u64 x (6148914691236517205:Int))) (3689348814741910323:Int)))) λw7=>gd (Q3<|0<=(8:Int)) <|gd (QF .u64<|(fH .u64 w7 (1085102592571150095:Int))+(jw .u64 (fH .u64 w7 (1085102592571150095:Int)) (8:Int))) <|gd (Q3<|0<=(16:Int)) <|gd (QF .u64<|((fH .u64 w7 (1085102592571150095:Int))+(jw .u64 (fH .u64 w7 (1085102592571150095:Int)) (8:Int)))+(jw .u64 ((fH .u64 w7 (1085102592571150095:Int))+(jw .u64 (fH .u64 w7 (1085102592571150095:Int)) (8:Int))) (16:Int))) <|gd (Q3<|0<=(32:Int)) <|gd (QF .u64<|(((fH .u64 w7 (1085102592571150095:Int))+(jw .u64 (fH .u64 w7 (1085102592571150095:Int)) (8:Int)))+(jw .u64 ((fH .u64 w7 (1085102592571150095:Int))+(jw .u64 (fH .u64 w7 (1085102592571150095:Int)) (8:Int))) (16:Int)))+(jw .u64 (((fH .u64 w7 (1085102592571150095:Int))+(jw .u64 (fH .u64 w7 (1085102592571150095:Int)) (8:Int)))+(jw .u64 ((fH .u64 w7 (1085102592571150095:Int))+(jw .u64 (fH .u64 w7 (1085102592571150095:Int)) (8:Int))) (16:Int))) (32:Int))) <|gd (QF .i64<|(((fH .u64 w7 (1085102592571150095:Int))+(jw .u64 (fH .u64 w7 (1085102592571150095:Int)) (8:Int)))+(jw .u64 ((fH .u64 w7 (1085102592571150095:Int))+(jw .u64 (fH .u64 w7 (1085102592571150095:Int)) (8:Int))) (16:Int)))+(jw .u64 (((fH .u64 w7 (1085102592571150095:Int))+(jw .u64 (fH .u64 w7 (1085102592571150095:Int)) (8:Int)))+(jw .u64 ((fH .u64 w7 (1085102592571150095:Int))+(jw .u64 (fH .u64 w7 (1085102592571150095:Int)) (8:Int))) (16:Int))) (32:Int))) <|QZ<|fH .i64 ((((fH .u64 w7 (1085102592571150095:Int))+(jw .u64 (fH .u64 w7 (1085102592571150095:Int)) (8:Int)))+(jw .u64 ((fH .u64 w7 (1085102592571150095:Int))+(jw .u64 (fH .u64 w7 (1085102592571150095:Int)) (8:Int))) (16:Int)))+(jw .u64 (((fH .u64 w7 (1085102592571150095:Int))+(jw .u64 (fH .u64 w7 (1085102592571150095:Int)) (8:Int)))+(jw .u64 ((fH .u64 w7 (1085102592571150095:Int))+(jw .u64 (fH .u64 w7 (1085102592571150095:Int)) (8:Int))) (16:Int))) (32:Int))) (127:Int)
def eB (x:Int):Option Int:= TH (gK x) λv1=>QZ v1
def rq (r_:LI):LS (Int×Int) Int:=λs6=>bif Q3 (s6.1<(r_.length:Int)) then gd (Q3<|0<=s6.1/\s6.1<(r_.length:Int)) <|gd (QF .u64<|J r_ s6.1) <|TH (eB<|J r_ s6.1) λv11=>gd (QF .i64<|s6.2+v11) <|gd (QF .i64<|s6.1+(1:Int)) <|QZ (.inl ((s6.1+(1:Int)),(s6.2+v11))) else QZ (.inr s6.2)
def lN (r_:LI):Option Int:= TH (bB r_) λv1=>bif !v1 then QZ (0:Int) else TH (aB (rq r_) ((0:Int),(0:Int))) λs3=>QZ s3
def kG (kind:Int) (r_:LI):Option Bool:= bif (kind==(1:Int)) then TH (jm r_) λv2=>QZ v2 else bif (kind==(2:Int)) then TH (da r_) λv4=>QZ v4 else TH (lN r_) λv5=>QZ<|v5==(0:Int)
def o8 (p:List<|List QH) (x:QI) (m:List ah):LS Int (Unit ⊕ (Int×(LI))):=λs4=>bif Q3 (s4<(m.length:Int)) then gd (Q3<|0<=s4/\s4<(m.length:Int)) <|TH (rP p x (⟨((J m s4).Expr).Op,((J m s4).Expr).Name,((J m s4).Expr).Kids⟩:aa)) λv8=>TH (kG ((J m s4).Kind) v8) λv9=>bif !v9 then QZ (.inr<|.inr (s4,v8)) else gd (QF .i64<|s4+(1:Int)) <|QZ (.inl<|s4+(1:Int)) else QZ (.inr<|.inl ())
def cf (p:List<|List QH) (x:QI) (m:List ah):Option (Int×(LI)):= sumK (aB (o8 p x m) (0:Int)) λs1=>QZ ((-1:Int),([]:LI))
def dw (p:List<|List QH) (x:QI) (m:List ah):Option (Int×Bool):= TH (bH p x) λv1=>TH (bif !v1 then QZ QX else TH (bY m) λv4=>QZ<|!v4) λs2=>bif s2 then QZ ((-1:Int),QY) else TH (cf p x m) λv6=>QZ (v6.1,QX)
def ku (v:aA) (t:Int) (index:Int) (reg:Int):LS (Int×Int) Int:=λs4=>bif Q3 (s4.1<(v.events.length:Int)) then TH (gd (Q3<|0<=s4.1/\s4.1<(v.events.length:Int)) <|TH (bif (((J v.events s4.1).Thread)==t) then bif Q3 (((J v.events s4.1).Index)<index) then bif (J v.events s4.1).Reads then gd (Q3<|0<=t/\t<(v.p.length:Int)) <|gd (Q3<|0<=(J v.events s4.1).Index/\(J v.events s4.1).Index<((J v.p t).length:Int)) <|QZ (((J (J v.p t)<|(J v.events s4.1).Index).Reg)==reg) else QZ QY else QZ QY else QZ QY) λs9=>bif s9 then QZ s4.1 else QZ s4.2) λs7=>gd (QF .i64<|s4.1+(1:Int)) <|QZ (.inl ((s4.1+(1:Int)),s7)) else QZ (.inr s4.2)
def dI (v:aA) (t:Int) (index:Int) (reg:Int):Option (aA×Int):= TH (aB (ku v t index reg) ((0:Int),(-1:Int))) λs1=>QZ ((⟨v.p,(⟨v.x.From,v.x.Order⟩:QI),v.events,v.values,v.busy⟩:aA),s1)
def eC (rcf:aA->Int->Option (aA×Int×Bool)) (v:aA) (i:Int):Option (aA×Int×Bool):= gd (Q3<|0<=i/\i<(v.events.length:Int)) <|bif Q3 (((J v.events i).Thread)<(0:Int)) then QZ ((⟨v.p,(⟨v.x.From,v.x.Order⟩:QI),v.events,v.values,v.busy⟩:aA),(0:Int),QX) else gd (Q3<|0<=(J v.events i).Thread/\(J v.events i).Thread<(v.p.length:Int)) <|gd (Q3<|0<=(J v.events i).Index/\(J v.events i).Index<((J v.p<|(J v.events i).Thread).length:Int)) <|bif (((J (J v.p<|(J v.events i).Thread)<|(J v.events i).Index).Op) != (3:Int)) then QZ ((⟨v.p,(⟨v.x.From,v.x.Order⟩:QI),v.events,v.values,v.busy⟩:aA),(J (J v.p<|(J v.events i).Thread)<|(J v.events i).Index).Val,QX) else gd (Q3<|0<=i/\i<(v.busy.length:Int)) <|bif (J v.busy i) then QZ ((⟨v.p,(⟨v.x.From,v.x.Order⟩:QI),v.events,v.values,v.busy⟩:aA),(0:Int),QY) else TH (dI (⟨v.p,(⟨v.x.From,v.x.Order⟩:QI),v.events,v.values,v.busy⟩:aA) ((J v.events i).Thread) ((J v.events i).Index)<|(J (J v.p<|(J v.events i).Thread)<|(J v.events i).Index).Reg) λv8=>bif Q3 (v8.2<(0:Int)) then QZ ((⟨v8.1.p,(⟨v8.1.x.From,v8.1.x.Order⟩:QI),v8.1.events,v.values,v8.1.busy⟩:aA),(0:Int),QX) else gd (Q3<|0<=i/\i<(v8.1.busy.length:Int)) <|gd (Q3<|0<=v8.2/\v8.2<(v8.1.x.From.length:Int)) <|TH (rcf (⟨v8.1.p,(⟨v8.1.x.From,v8.1.x.Order⟩:QI),v8.1.events,v.values,(v8.1.busy.set i.toNat QX)⟩:aA)<|J v8.1.x.From v8.2) λv13=>gd (Q3<|0<=i/\i<(v13.1.busy.length:Int)) <|QZ ((⟨v13.1.p,(⟨v13.1.x.From,v13.1.x.Order⟩:QI),v13.1.events,v.values,(v13.1.busy.set i.toNat QY)⟩:aA),v13.2.1,v13.2.2)
def bg:Nat->aA->Int->Option (aA×Int×Bool)
 | 0=>λ_ _=>Q0
 | n+1=>eC (bg n)
def kV (v:aA) (i:Int):Option (aA×Int×Bool):=DU λnf=>bg nf v i
def qp (v1:(List QJ)):LS ((LI)×(List<|List QH)×(LI)×(LL)×(List QJ)×(List Bool)×Int) (((LI)×(List<|List QH)×(LI)×(LL)×(List QJ)×(List Bool)) ⊕ ((LI)×Bool)):=λs10=>bif Q3 (s10.2.2.2.2.2.2<(v1.length:Int)) then gd (Q3<|0<=s10.2.2.2.2.2.2/\s10.2.2.2.2.2.2<(v1.length:Int)) <|sumK (bif (J v1 s10.2.2.2.2.2.2).aH then TH (kV (⟨s10.2.1,(⟨s10.2.2.1,s10.2.2.2.1⟩:QI),s10.2.2.2.2.1,s10.1,s10.2.2.2.2.2.1⟩:aA) s10.2.2.2.2.2.2) λv20=>bif !v20.2.2 then QZ (.inr<|.inr<|.inr (([]:LI),QY)) else QZ (.inl (v20.1.p,v20.1.x.From,v20.1.x.Order,v20.1.events,v20.1.busy,v20.2.1)) else QZ (.inl (s10.2.1,s10.2.2.1,s10.2.2.2.1,s10.2.2.2.2.1,s10.2.2.2.2.2.1,(-1:Int)))) λs18=>gd (bq (s10.1.length+1) 8) <|gd (QF .i64<|s10.2.2.2.2.2.2+(1:Int)) <|QZ (.inl ((s10.1++[s18.2.2.2.2.2]),s18.1,s18.2.1,s18.2.2.1,s18.2.2.2.1,s18.2.2.2.2.1,(s10.2.2.2.2.2.2+(1:Int)))) else QZ (.inr<|.inl (s10.1,s10.2.1,s10.2.2.1,s10.2.2.2.1,s10.2.2.2.2.1,s10.2.2.2.2.2.1))
def cG (p:List<|List QH) (x:QI):Option ((LI)×Bool):= TH (gI p) λv1=>gd (Q3<|0<=(v1.length:Int)/\(v1.length:Int)<=(v1.length:Int)/\(v1.length:Int)*((1:Nat):Int)<=140737488355328/\(v1.length:Int)<=140737488355328) <|sumK (aB (qp v1) (([]:LI),p,x.From,x.Order,v1,(TJ (v1.length:Int).toNat (QW:Bool)),(0:Int))) λs3=>QZ (s3.1,QX)
def lq (i:Int):Option BA:= bif Q3 (i<(10:Int)) then gd (QF .i64<|i+(1:Int)) <|gd (Q3<|0<=i/\i<=(i+(1:Int))/\(i+(1:Int))<=((⟨#[48,49,50,51,52,53,54,55,56,57,97,98,99,100,101,102,103,104,105,106,107,108,109,110,111,112,113,114,115,116,117,118,119,120,121,122]⟩:BA).size:Int)) <|QZ ((⟨#[48,49,50,51,52,53,54,55,56,57,97,98,99,100,101,102,103,104,105,106,107,108,109,110,111,112,113,114,115,116,117,118,119,120,121,122]⟩:BA).extract i.toNat (i+(1:Int)).toNat) else gd (QF .i64<|i*(2:Int)) <|gd (QF .i64<|(i*(2:Int))+(2:Int)) <|gd (Q3<|0<=(i*(2:Int))/\(i*(2:Int))<=((i*(2:Int))+(2:Int))/\((i*(2:Int))+(2:Int))<=((⟨#[48,48,48,49,48,50,48,51,48,52,48,53,48,54,48,55,48,56,48,57,49,48,49,49,49,50,49,51,49,52,49,53,49,54,49,55,49,56,49,57,50,48,50,49,50,50,50,51,50,52,50,53,50,54,50,55,50,56,50,57,51,48,51,49,51,50,51,51,51,52,51,53,51,54,51,55,51,56,51,57,52,48,52,49,52,50,52,51,52,52,52,53,52,54,52,55,52,56,52,57,53,48,53,49,53,50,53,51,53,52,53,53,53,54,53,55,53,56,53,57,54,48,54,49,54,50,54,51,54,52,54,53,54,54,54,55,54,56,54,57,55,48,55,49,55,50,55,51,55,52,55,53,55,54,55,55,55,56,55,57,56,48,56,49,56,50,56,51,56,52,56,53,56,54,56,55,56,56,56,57,57,48,57,49,57,50,57,51,57,52,57,53,57,54,57,55,57,56,57,57]⟩:BA).size:Int)) <|QZ<|(⟨#[48,48,48,49,48,50,48,51,48,52,48,53,48,54,48,55,48,56,48,57,49,48,49,49,49,50,49,51,49,52,49,53,49,54,49,55,49,56,49,57,50,48,50,49,50,50,50,51,50,52,50,53,50,54,50,55,50,56,50,57,51,48,51,49,51,50,51,51,51,52,51,53,51,54,51,55,51,56,51,57,52,48,52,49,52,50,52,51,52,52,52,53,52,54,52,55,52,56,52,57,53,48,53,49,53,50,53,51,53,52,53,53,53,54,53,55,53,56,53,57,54,48,54,49,54,50,54,51,54,52,54,53,54,54,54,55,54,56,54,57,55,48,55,49,55,50,55,51,55,52,55,53,55,54,55,55,55,56,55,57,56,48,56,49,56,50,56,51,56,52,56,53,56,54,56,55,56,56,56,57,57,48,57,49,57,50,57,51,57,52,57,53,57,54,57,55,57,56,57,57]⟩:BA).extract (i*(2:Int)).toNat ((i*(2:Int))+(2:Int)).toNat
def iK (i:Int) (base:Int):Option BA:= bif (base==(10:Int)) then TH (bif Q3 ((0:Int)<=i) then QZ (Q3<|i<(100:Int)) else QZ QY) λs2=>bif s2 then TH (lq i) λv5=>QZ v5 else Q0 else Q0
def lQ (i:Int):Option BA:= TH (iK i (10:Int)) λv1=>QZ v1
def cE (i:Int):Option BA:= TH (lQ i) λv1=>QZ v1
def jJ (r_:LI) (s5:(LL)×Int):LS ((LL)×Int×Int) (((LL)×Int) ⊕ (((LL)×Int) ⊕ (Unit ⊕ (LI)))):=λs18=>bif Q3 (s18.2.1<(r_.length:Int)) then TH (TH (cA r_ (J (s5.1.getD ((0:Int).toNat) QW)<|((s5.1.getD ((0:Int).toNat) QW).length:Int)-(1:Int)) s18.2.1) λv23=>TH (bif v23 then gd (Q3<|0<=s18.2.1) <|QZ ((fH .i64 (jw .i64 s18.2.2 s18.2.1) (1:Int))==(0:Int)) else QZ QY) λs24=>bif s24 then gd (Q3<|0<=s18.2.1) <|TH (bz<|s5.1.getD ((0:Int).toNat) QW) λv29=>gd (bq (v29.length+1) 8) <|gd (bq (s18.1.length+1) 24) <|QZ ((s18.1++[(v29++[s18.2.1])]),(bOr .i64 s18.2.2<|De .i64 (1:Int) s18.2.1)) else QZ (s18.1,s18.2.2)) λs22=>gd (QF .i64<|s18.2.1+(1:Int)) <|QZ (.inl (s22.1,(s18.2.1+(1:Int)),s22.2)) else QZ (.inr<|.inl (s18.1,s18.2.2))
def qq (r_:LI) (start:Int):LS ((LL)×Int) (Unit ⊕ (LI)):=λs5=>bif Q3 ((0:Int)<(s5.1.length:Int)) then sumK (gd (Q3<|0<=(0:Int)/\(0:Int)<(s5.1.length:Int)) <|gd (QF .i64<|((s5.1.getD ((0:Int).toNat) QW).length:Int)-(1:Int)) <|gd (Q3<|0<=(((s5.1.getD ((0:Int).toNat) QW).length:Int)-(1:Int))/\(((s5.1.getD ((0:Int).toNat) QW).length:Int)-(1:Int))<((s5.1.getD ((0:Int).toNat) QW).length:Int)) <|TH (cA r_ (J (s5.1.getD ((0:Int).toNat) QW)<|((s5.1.getD ((0:Int).toNat) QW).length:Int)-(1:Int)) start) λv13=>bif v13 then gd (Q3<|0<((s5.1.getD ((0:Int).toNat) QW).length:Int)) <|QZ (.inr<|.inr<|.inr<|(s5.1.getD ((0:Int).toNat) QW)) else aB (jJ r_ s5) (s5.1,(0:Int),s5.2)) λs9=>gd (Q3<|0<=(1:Int)/\(1:Int)<=(s9.1.length:Int)/\(s9.1.length:Int)<=(s9.1.length:Int)) <|QZ (.inl (((s9.1.drop (1:Int).toNat).take<|(s9.1.length:Int).toNat-(1:Int).toNat),s9.2)) else QZ (.inr<|.inl ())
def kH (r_:LI) (start:Int):Option (LI):= sumK (aB (qq r_ start) (([([start]:LI)]:LL),(0:Int))) λs1=>QZ ([]:LI)
def qw (r_:LI):LS (Int×(LI)) (LI):=λs6=>bif Q3 (s6.1<(r_.length:Int)) then TH (TH (kH r_ s6.1) λv10=>TH (bif (!v10.isEmpty) then TH (bif s6.2.isEmpty then QZ QX else QZ (Q3<|(v10.length:Int)<(s6.2.length:Int))) λs13=>QZ s13 else QZ QY) λs11=>bif s11 then QZ v10 else QZ s6.2) λs9=>gd (QF .i64<|s6.1+(1:Int)) <|QZ (.inl ((s6.1+(1:Int)),s9)) else QZ (.inr s6.2)
def kI (r_:LI):Option (LI):= TH (bB r_) λv1=>bif !v1 then QZ ([]:LI) else TH (aB (qw r_) ((0:Int),[])) λs3=>QZ s3
def ib (x:QH):Option BA:= gd (QF .i64<|x.Loc+(1:Int)) <|gd (Q3<|0<=x.Loc/\x.Loc<=(x.Loc+(1:Int))/\(x.Loc+(1:Int))<=((⟨#[120,121,122]⟩:BA).size:Int)) <|gd (QF .i64<|x.Reg+(1:Int)) <|gd (Q3<|0<=x.Reg/\x.Reg<=(x.Reg+(1:Int))/\(x.Reg+(1:Int))<=((⟨#[97,98,99]⟩:BA).size:Int)) <|gd (QF .i64<|x.Val+(1:Int)) <|gd (Q3<|0<=x.Val/\x.Val<=(x.Val+(1:Int))/\(x.Val+(1:Int))<=((⟨#[48,49,50,51,52,53,54,55,56,57]⟩:BA).size:Int)) <|bif (x.Op==(1:Int)) then gd (Q3<|((⟨#[97,98,99]⟩:BA).extract x.Reg.toNat (x.Reg+(1:Int)).toNat).size+(⟨#[61]⟩:BA).size<=9223372036854775807) <|gd (Q3<|(((⟨#[97,98,99]⟩:BA).extract x.Reg.toNat (x.Reg+(1:Int)).toNat)++(⟨#[61]⟩:BA)).size+((⟨#[120,121,122]⟩:BA).extract x.Loc.toNat (x.Loc+(1:Int)).toNat).size<=9223372036854775807) <|QZ ((((⟨#[97,98,99]⟩:BA).extract x.Reg.toNat (x.Reg+(1:Int)).toNat)++(⟨#[61]⟩:BA))++((⟨#[120,121,122]⟩:BA).extract x.Loc.toNat (x.Loc+(1:Int)).toNat)) else bif (x.Op==(2:Int)) then gd (Q3<|((⟨#[120,121,122]⟩:BA).extract x.Loc.toNat (x.Loc+(1:Int)).toNat).size+(⟨#[61]⟩:BA).size<=9223372036854775807) <|gd (Q3<|(((⟨#[120,121,122]⟩:BA).extract x.Loc.toNat (x.Loc+(1:Int)).toNat)++(⟨#[61]⟩:BA)).size+((⟨#[48,49,50,51,52,53,54,55,56,57]⟩:BA).extract x.Val.toNat (x.Val+(1:Int)).toNat).size<=9223372036854775807) <|QZ ((((⟨#[120,121,122]⟩:BA).extract x.Loc.toNat (x.Loc+(1:Int)).toNat)++(⟨#[61]⟩:BA))++((⟨#[48,49,50,51,52,53,54,55,56,57]⟩:BA).extract x.Val.toNat (x.Val+(1:Int)).toNat)) else bif (x.Op==(3:Int)) then gd (Q3<|((⟨#[120,121,122]⟩:BA).extract x.Loc.toNat (x.Loc+(1:Int)).toNat).size+(⟨#[61]⟩:BA).size<=9223372036854775807) <|gd (Q3<|(((⟨#[120,121,122]⟩:BA).extract x.Loc.toNat (x.Loc+(1:Int)).toNat)++(⟨#[61]⟩:BA)).size+((⟨#[97,98,99]⟩:BA).extract x.Reg.toNat (x.Reg+(1:Int)).toNat).size<=9223372036854775807) <|QZ ((((⟨#[120,121,122]⟩:BA).extract x.Loc.toNat (x.Loc+(1:Int)).toNat)++(⟨#[61]⟩:BA))++((⟨#[97,98,99]⟩:BA).extract x.Reg.toNat (x.Reg+(1:Int)).toNat)) else bif (x.Op==(5:Int)) then gd (Q3<|((⟨#[97,98,99]⟩:BA).extract x.Reg.toNat (x.Reg+(1:Int)).toNat).size+(⟨#[61]⟩:BA).size<=9223372036854775807) <|gd (Q3<|(((⟨#[97,98,99]⟩:BA).extract x.Reg.toNat (x.Reg+(1:Int)).toNat)++(⟨#[61]⟩:BA)).size+((⟨#[120,121,122]⟩:BA).extract x.Loc.toNat (x.Loc+(1:Int)).toNat).size<=9223372036854775807) <|gd (Q3<|((((⟨#[97,98,99]⟩:BA).extract x.Reg.toNat (x.Reg+(1:Int)).toNat)++(⟨#[61]⟩:BA))++((⟨#[120,121,122]⟩:BA).extract x.Loc.toNat (x.Loc+(1:Int)).toNat)).size+(⟨#[58]⟩:BA).size<=9223372036854775807) <|gd (Q3<|(((((⟨#[97,98,99]⟩:BA).extract x.Reg.toNat (x.Reg+(1:Int)).toNat)++(⟨#[61]⟩:BA))++((⟨#[120,121,122]⟩:BA).extract x.Loc.toNat (x.Loc+(1:Int)).toNat))++(⟨#[58]⟩:BA)).size+((⟨#[48,49,50,51,52,53,54,55,56,57]⟩:BA).extract x.Val.toNat (x.Val+(1:Int)).toNat).size<=9223372036854775807) <|QZ ((((((⟨#[97,98,99]⟩:BA).extract x.Reg.toNat (x.Reg+(1:Int)).toNat)++(⟨#[61]⟩:BA))++((⟨#[120,121,122]⟩:BA).extract x.Loc.toNat (x.Loc+(1:Int)).toNat))++(⟨#[58]⟩:BA))++((⟨#[48,49,50,51,52,53,54,55,56,57]⟩:BA).extract x.Val.toNat (x.Val+(1:Int)).toNat)) else QZ (⟨#[102,101,110,99,101]⟩:BA)
def dP (p:List<|List QH) (e_:QJ):Option BA:= bif Q3 (e_.Thread<(0:Int)) then gd (QF .i64<|e_.Loc+(1:Int)) <|gd (Q3<|0<=e_.Loc/\e_.Loc<=(e_.Loc+(1:Int))/\(e_.Loc+(1:Int))<=((⟨#[120,121,122]⟩:BA).size:Int)) <|gd (Q3<|(⟨#[102,105,114,115,116,32]⟩:BA).size+((⟨#[120,121,122]⟩:BA).extract e_.Loc.toNat (e_.Loc+(1:Int)).toNat).size<=9223372036854775807) <|QZ ((⟨#[102,105,114,115,116,32]⟩:BA)++((⟨#[120,121,122]⟩:BA).extract e_.Loc.toNat (e_.Loc+(1:Int)).toNat)) else TH (cE e_.Thread) λv5=>gd (Q3<|v5.size+(⟨#[58]⟩:BA).size<=9223372036854775807) <|gd (Q3<|0<=e_.Thread/\e_.Thread<(p.length:Int)) <|gd (Q3<|0<=e_.Index/\e_.Index<((J p e_.Thread).length:Int)) <|TH (ib<|J (J p e_.Thread) e_.Index) λv9=>gd (Q3<|(v5++(⟨#[58]⟩:BA)).size+v9.size<=9223372036854775807) <|QZ<|(v5++(⟨#[58]⟩:BA))++v9
def lS (p:List<|List QH) (v9:(List QJ)) (v11:(LI)):LS ((List BA)×Int) (List BA):=λs17=>bif Q3 (s17.2<(v11.length:Int)) then gd (Q3<|0<=s17.2/\s17.2<(v11.length:Int)) <|gd (Q3<|0<=(J v11 s17.2)/\(J v11 s17.2)<(v9.length:Int)) <|TH (dP p<|J v9<|J v11 s17.2) λv25=>gd (bq (s17.1.length+1) 16) <|gd (QF .i64<|s17.2+(1:Int)) <|QZ (.inl ((s17.1++[v25]),(s17.2+(1:Int)))) else QZ (.inr s17.1)
def bC (p:List<|List QH) (x:QI) (m:List ah):Option BA:= TH (cG p x) λv1=>bif !v1.2 then QZ (⟨#[118,97,108,117,101,115]⟩:BA) else TH (cf p x m) λv3=>bif Q3 (v3.1<(0:Int)) then QZ (⟨#[97,108,108,111,119,101,100]⟩:BA) else TH (cE v3.1) λv5=>gd (Q3<|(⟨#[114,117,108,101,32]⟩:BA).size+v5.size<=9223372036854775807) <|gd (Q3<|0<=v3.1/\v3.1<(m.length:Int)) <|bif (((J m v3.1).Kind) != (1:Int)) then QZ ((⟨#[114,117,108,101,32]⟩:BA)++v5) else TH (gI p) λv9=>TH (TH (kI v3.2) λv11=>aB (lS p v9 v11) (([]:List BA),(0:Int))) λs10=>gd (Q3<|((⟨#[114,117,108,101,32]⟩:BA)++v5).size+(⟨#[58,32]⟩:BA).size<=9223372036854775807) <|TH (rN s10 (⟨#[44,32]⟩:BA)) λv32=>gd (Q3<|(((⟨#[114,117,108,101,32]⟩:BA)++v5)++(⟨#[58,32]⟩:BA)).size+v32.size<=9223372036854775807) <|QZ<|(((⟨#[114,117,108,101,32]⟩:BA)++v5)++(⟨#[58,32]⟩:BA))++v32
def aN (p:List<|List QH) (x:QI) (m:List ah):Option BA:= TH (bH p x) λv1=>TH (bif !v1 then QZ QX else TH (bY m) λv4=>QZ<|!v4) λs2=>bif s2 then QZ (⟨#[]⟩:BA) else TH (bC p x m) λv6=>QZ v6
def eD (op:Int):Option Int:= bif (op==(1:Int)) then QZ (0:Int) else TH (bif (op==(2:Int)) then QZ (op==(2:Int)) else bif (op==(3:Int)) then QZ (op==(3:Int)) else bif (op==(4:Int)) then QZ (op==(4:Int)) else QZ (op==(5:Int))) λs2=>bif s2 then QZ (2:Int) else TH (bif (op==(6:Int)) then QZ (op==(6:Int)) else QZ (op==(7:Int))) λs7=>bif s7 then QZ (1:Int) else QZ (-1:Int)
def dm:Option (List BA):= QZ ([(⟨#[112,111]⟩:BA),(⟨#[108,111,99]⟩:BA),(⟨#[101,120,116]⟩:BA),(⟨#[114,102]⟩:BA),(⟨#[99,111]⟩:BA),(⟨#[102,114]⟩:BA),(⟨#[102,101,110,99,101]⟩:BA),(⟨#[119,114]⟩:BA),(⟨#[119,119]⟩:BA),(⟨#[105,100]⟩:BA)]:List BA)
def jo (s:BA) (v1:(List BA)):LS Int (Unit ⊕ Bool):=λs5=>bif Q3 (s5<(v1.length:Int)) then gd (Q3<|0<=s5/\s5<(v1.length:Int)) <|bif Q3 ((J v1 s5)=s) then QZ (.inr<|.inr QX) else gd (QF .i64<|s5+(1:Int)) <|QZ (.inl<|s5+(1:Int)) else QZ (.inr<|.inl ())
def fo (s:BA):Option Bool:= TH (dm) λv1=>sumK (aB (jo s v1) (0:Int)) λs2=>QZ QY
def iL (rcf:aa->Int->Option Bool) (e_:aa) (depth:Int):LS Int (Unit ⊕ Bool):=λs13=>bif Q3 (s13<(e_.Kids.length:Int)) then gd (Q3<|0<=s13/\s13<(e_.Kids.length:Int)) <|gd (QF .i64<|depth-(1:Int)) <|TH (rcf ((J e_.Kids s13).out)<|depth-(1:Int)) λv18=>bif !v18 then QZ (.inr<|.inr QY) else gd (QF .i64<|s13+(1:Int)) <|QZ (.inl<|s13+(1:Int)) else QZ (.inr<|.inl ())
def dQ (rcf:aa->Int->Option Bool) (e_:aa) (depth:Int):Option Bool:= sumK (TH (bif Q3 (depth<(1:Int)) then QZ QX else TH (eD e_.Op) λv4=>bif ((e_.Kids.length:Int) != v4) then QZ QX else TH (fo e_.Name) λv6=>bif (!((e_.Op==(1:Int))==v6)) then QZ QX else bif (e_.Op != (1:Int)) then QZ (!decide (e_.Name=(⟨#[]⟩:BA))) else QZ QY) λs2=>bif s2 then QZ (.inr QY) else QZ (.inl ())) λs1=>sumK (aB (iL rcf e_ depth) (0:Int)) λs10=>QZ QX
def cT:Nat->aa->Int->Option Bool
 | 0=>λ_ _=>Q0
 | n+1=>dQ (cT n)
def rQ (e_:aa) (depth:Int):Option Bool:=DU λnf=>cT nf e_ depth
def jp (rcf:aa->Int->Option Int) (e_:aa) (most:Int):LS (Int×Int) Int:=λs4=>TH (bif Q3 (s4.1<(e_.Kids.length:Int)) then QZ (Q3<|s4.2<=most) else QZ QY) λs6=>bif s6 then gd (Q3<|0<=s4.1/\s4.1<(e_.Kids.length:Int)) <|gd (QF .i64<|most-s4.2) <|TH (rcf ((J e_.Kids s4.1).out)<|most-s4.2) λv11=>gd (QF .i64<|s4.2+v11) <|gd (QF .i64<|s4.1+(1:Int)) <|QZ (.inl ((s4.1+(1:Int)),(s4.2+v11))) else QZ (.inr s4.2)
def dR (rcf:aa->Int->Option Int) (e_:aa) (most:Int):Option Int:= TH (aB (jp rcf e_ most) ((0:Int),(1:Int))) λs1=>QZ s1
def cV:Nat->aa->Int->Option Int
 | 0=>λ_ _=>Q0
 | n+1=>dR (cV n)
def rR (e_:aa) (most:Int):Option Int:=DU λnf=>cV nf e_ most
def bJ (e_:aa):Option Bool:= TH (rQ e_ (12:Int)) λv1=>TH (bif v1 then TH (rR e_ (40:Int)) λv4=>QZ (Q3<|v4<=(40:Int)) else QZ QY) λs2=>QZ s2
def fI (m:List ah):LS Int (Unit ⊕ Bool):=λs4=>TH (bif Q3 (s4<(m.length:Int)) then QZ (Q3<|s4<=(5:Int)) else QZ QY) λs6=>bif s6 then gd (Q3<|0<=s4/\s4<(m.length:Int)) <|TH (bif Q3 (((J m s4).Kind)<(1:Int)) then QZ QX else QZ (Q3<|(3:Int)<((J m s4).Kind))) λs10=>TH (bif s10 then QZ QX else TH (bJ<|(J m s4).Expr) λv14=>QZ<|!v14) λs12=>bif s12 then QZ (.inr<|.inr QY) else gd (QF .i64<|s4+(1:Int)) <|QZ (.inl<|s4+(1:Int)) else QZ (.inr<|.inl ())
def cg (m:List ah):Option Bool:= sumK (aB (fI m) (0:Int)) λs1=>TH (bif Q3 ((0:Int)<(m.length:Int)) then QZ (Q3<|(m.length:Int)<=(5:Int)) else QZ QY) λs17=>QZ s17
def vA (p:List<|List QH) (events:List QJ) (t:Int) (index:Int) (reg:Int):LS (Int×Int) Int:=λs4=>bif Q3 (s4.1<(events.length:Int)) then TH (gd (Q3<|0<=s4.1/\s4.1<(events.length:Int)) <|TH (bif (((J events s4.1).Thread)==t) then bif Q3 (((J events s4.1).Index)<index) then bif (J events s4.1).Reads then gd (Q3<|0<=t/\t<(p.length:Int)) <|gd (Q3<|0<=(J events s4.1).Index/\(J events s4.1).Index<((J p t).length:Int)) <|QZ (((J (J p t)<|(J events s4.1).Index).Reg)==reg) else QZ QY else QZ QY else QZ QY) λs9=>bif s9 then QZ s4.1 else QZ s4.2) λs7=>gd (QF .i64<|s4.1+(1:Int)) <|QZ (.inl ((s4.1+(1:Int)),s7)) else QZ (.inr s4.2)
def ru (p:List<|List QH) (events:List QJ) (t:Int) (index:Int) (reg:Int):Option Int:= TH (aB (vA p events t index reg) ((0:Int),(-1:Int))) λs1=>QZ s1
def nH (p:List<|List QH) (events:List QJ) (x:QI) (i:Int) (known:LI):Option Int:= gd (Q3<|0<=i/\i<(events.length:Int)) <|bif Q3 (((J events i).Thread)<(0:Int)) then QZ (0:Int) else gd (Q3<|0<=(J events i).Thread/\(J events i).Thread<(p.length:Int)) <|gd (Q3<|0<=(J events i).Index/\(J events i).Index<((J p<|(J events i).Thread).length:Int)) <|bif (((J (J p<|(J events i).Thread)<|(J events i).Index).Op) != (3:Int)) then QZ ((J (J p<|(J events i).Thread)<|(J events i).Index).Val) else TH (ru p events ((J events i).Thread) ((J events i).Index)<|(J (J p<|(J events i).Thread)<|(J events i).Index).Reg) λv6=>bif Q3 (v6<(0:Int)) then QZ (0:Int) else gd (Q3<|0<=v6/\v6<(x.From.length:Int)) <|gd (Q3<|0<=(J x.From v6)/\(J x.From v6)<(known.length:Int)) <|QZ<|J known<|J x.From v6
def ry (v1:(List QJ)):LS ((LI)×Int) (LI):=λs6=>bif Q3 (s6.2<(v1.length:Int)) then gd (bq (s6.1.length+1) 8) <|gd (QF .i64<|s6.2+(1:Int)) <|QZ (.inl ((s6.1++[(-1:Int)]),(s6.2+(1:Int)))) else QZ (.inr s6.1)
def kW (p:List<|List QH) (x:QI) (v1:(List QJ)):LS ((LI)×Int) (LI):=λs25=>bif Q3 (s25.2<(v1.length:Int)) then TH (gd (Q3<|0<=s25.2/\s25.2<(v1.length:Int)) <|bif (J v1 s25.2).aH then TH (nH p v1 x s25.2 s25.1) λv32=>gd (Q3<|0<=s25.2/\s25.2<(s25.1.length:Int)) <|QZ (s25.1.set s25.2.toNat v32) else QZ s25.1) λs29=>gd (QF .i64<|s25.2+(1:Int)) <|QZ (.inl (s29,(s25.2+(1:Int)))) else QZ (.inr s25.1)
def qx (p:List<|List QH) (x:QI) (v1:(List QJ)):LS ((LI)×Int) (LI):=λs17=>bif Q3 (s17.2<(v1.length:Int)) then TH (aB (kW p x v1) (s17.1,(0:Int))) λs21=>gd (QF .i64<|s17.2+(1:Int)) <|QZ (.inl (s21,(s17.2+(1:Int)))) else QZ (.inr s17.1)
def qy (v1:(List QJ)) (s13:(LI)):LS Int (Unit ⊕ ((LI)×Bool)):=λs42=>bif Q3 (s42<(v1.length:Int)) then gd (Q3<|0<=s42/\s42<(v1.length:Int)) <|TH (bif (J v1 s42).aH then gd (Q3<|0<=s42/\s42<(s13.length:Int)) <|QZ (Q3<|(J s13 s42)<(0:Int)) else QZ QY) λs46=>bif s46 then QZ (.inr<|.inr (s13,QY)) else gd (QF .i64<|s42+(1:Int)) <|QZ (.inl<|s42+(1:Int)) else QZ (.inr<|.inl ())
def iT (p:List<|List QH) (x:QI):Option ((LI)×Bool):= TH (cF p) λv1=>TH (aB (ry v1) (([]:LI),(0:Int))) λs2=>TH (aB (qx p x v1) (s2,(0:Int))) λs13=>sumK (aB (qy v1 s13) (0:Int)) λs39=>QZ (s13,QX)
def o9 (r_:LI) (s6:(LI)×Int):LS ((LI)×Int) (LI):=λs14=>bif Q3 (s14.2<(r_.length:Int)) then TH (TH (eu r_ s6.2 s14.2) λv19=>bif v19 then gd (Q3<|0<=s14.2/\s14.2<(s14.1.length:Int)) <|gd (Q3<|0<=s6.2) <|QZ (s14.1.set s14.2.toNat<|bOr .i64 (J s14.1 s14.2)<|De .i64 (1:Int) s6.2) else QZ s14.1) λs18=>gd (QF .i64<|s14.2+(1:Int)) <|QZ (.inl (s18,(s14.2+(1:Int)))) else QZ (.inr s14.1)
def qz (r_:LI):LS ((LI)×Int) (LI):=λs6=>bif Q3 (s6.2<(r_.length:Int)) then TH (aB (o9 r_ s6) (s6.1,(0:Int))) λs10=>gd (QF .i64<|s6.2+(1:Int)) <|QZ (.inl (s10,(s6.2+(1:Int)))) else QZ (.inr s6.1)
def kJ (r_:LI):Option (LI):= gd (Q3<|0<=(r_.length:Int)/\(r_.length:Int)<=(r_.length:Int)/\(r_.length:Int)*((8:Nat):Int)<=140737488355328/\(r_.length:Int)<=140737488355328) <|TH (aB (qz r_) ((TJ (r_.length:Int).toNat (QW:Int)),(0:Int))) λs2=>QZ s2
def jS (s6:(LI)×Int):LS ((LI)×Int) (LI):=λs14=>bif Q3 (s14.2<(s14.1.length:Int)) then TH (TH (eu s14.1 s14.2 s6.2) λv19=>bif v19 then gd (Q3<|0<=s14.2/\s14.2<(s14.1.length:Int)) <|gd (Q3<|0<=s6.2/\s6.2<(s14.1.length:Int)) <|QZ (s14.1.set s14.2.toNat<|bOr .i64 (J s14.1 s14.2)<|J s14.1 s6.2) else QZ s14.1) λs18=>gd (QF .i64<|s14.2+(1:Int)) <|QZ (.inl (s18,(s14.2+(1:Int)))) else QZ (.inr s14.1)
def qA:LS ((LI)×Int) (LI):=λs6=>bif Q3 (s6.2<(s6.1.length:Int)) then TH (aB (jS s6) (s6.1,(0:Int))) λs10=>gd (QF .i64<|s6.2+(1:Int)) <|QZ (.inl (s10,(s6.2+(1:Int)))) else QZ (.inr s6.1)
def ic (r_:LI):Option (LI):= gd (bq (([]:LI).length+r_.length) 8) <|TH (aB qA ((([]:LI)++r_),(0:Int))) λs2=>QZ s2
def ol (a:LI) (b:LI):LS ((LI)×Int) (LI):=λs5=>bif Q3 (s5.2<(a.length:Int)) then gd (Q3<|0<=s5.2/\s5.2<(a.length:Int)) <|gd (Q3<|0<=s5.2/\s5.2<(b.length:Int)) <|gd (bq (s5.1.length+1) 8) <|gd (QF .i64<|s5.2+(1:Int)) <|QZ (.inl ((s5.1++[(fH .i64 (J a s5.2)<|J b s5.2)]),(s5.2+(1:Int)))) else QZ (.inr s5.1)
def pJ (a:LI) (b:LI):Option (LI):= TH (aB (ol a b) (([]:LI),(0:Int))) λs1=>QZ s1
def jq (a:LI) (b:LI):LS ((LI)×Int) (LI):=λs5=>bif Q3 (s5.2<(a.length:Int)) then gd (Q3<|0<=s5.2/\s5.2<(a.length:Int)) <|gd (Q3<|0<=s5.2/\s5.2<(b.length:Int)) <|gd (bq (s5.1.length+1) 8) <|gd (QF .i64<|s5.2+(1:Int)) <|QZ (.inl ((s5.1++[(mP .i64 (J a s5.2)<|J b s5.2)]),(s5.2+(1:Int)))) else QZ (.inr s5.1)
def nI (a:LI) (b:LI):Option (LI):= TH (aB (jq a b) (([]:LI),(0:Int))) λs1=>QZ s1
def pg (a:LI) (b:LI) (s5:(LI)×Int):LS (Int×Int) Int:=λs13=>bif Q3 (s13.1<(a.length:Int)) then TH (TH (eu a s5.2 s13.1) λv17=>bif v17 then gd (Q3<|0<=s13.1/\s13.1<(b.length:Int)) <|QZ (bOr .i64 s13.2<|J b s13.1) else QZ s13.2) λs16=>gd (QF .i64<|s13.1+(1:Int)) <|QZ (.inl ((s13.1+(1:Int)),s16)) else QZ (.inr s13.2)
def kX (a:LI) (b:LI):LS ((LI)×Int) (LI):=λs5=>bif Q3 (s5.2<(a.length:Int)) then TH (TH (aB (pg a b s5) ((0:Int),(0:Int))) λs10=>gd (bq (s5.1.length+1) 8) <|QZ<|s5.1++[s10]) λs9=>gd (QF .i64<|s5.2+(1:Int)) <|QZ (.inl (s9,(s5.2+(1:Int)))) else QZ (.inr s5.1)
def kK (a:LI) (b:LI):Option (LI):= TH (aB (kX a b) (([]:LI),(0:Int))) λs1=>QZ s1
def cH (rcf:(List<|List QH)->QI->aa->Option (LI)) (p:List<|List QH) (x:QI) (e_:aa):Option (LI):= bif (e_.Op==(1:Int)) then TH (d9 p x e_.Name) λv2=>QZ v2 else gd (Q3<|0<=(0:Int)/\(0:Int)<(e_.Kids.length:Int)) <|TH (rcf p x<|(J e_.Kids (0:Int)).out) λv4=>bif (e_.Op==(6:Int)) then TH (kJ v4) λv6=>QZ v6 else bif (e_.Op==(7:Int)) then TH (ic v4) λv8=>QZ v8 else gd (Q3<|0<=(1:Int)/\(1:Int)<(e_.Kids.length:Int)) <|TH (rcf p x<|(J e_.Kids (1:Int)).out) λv10=>bif (e_.Op==(2:Int)) then TH (nD v4 v10) λv12=>QZ v12 else bif (e_.Op==(3:Int)) then TH (pJ v4 v10) λv14=>QZ v14 else bif (e_.Op==(4:Int)) then TH (nI v4 v10) λv16=>QZ v16 else TH (kK v4 v10) λv17=>QZ v17
def cJ:Nat->(List<|List QH)->QI->aa->Option (LI)
 | 0=>λ_ _ _=>Q0
 | n+1=>cH (cJ n)
def pK (p:List<|List QH) (x:QI) (e_:aa):Option (LI):=DU λnf=>cJ nf p x e_
def ze (r_:LI):LS Int (Unit ⊕ Bool):=λs4=>bif Q3 (s4<(r_.length:Int)) then TH (eu r_ s4 s4) λv7=>bif v7 then QZ (.inr<|.inr QY) else gd (QF .i64<|s4+(1:Int)) <|QZ (.inl<|s4+(1:Int)) else QZ (.inr<|.inl ())
def nJ (r_:LI):Option Bool:= sumK (aB (ze r_) (0:Int)) λs1=>QZ QX
def kL (r_:LI):Option Bool:= TH (ic r_) λv1=>TH (nJ v1) λv2=>QZ v2
def rz (r_:LI) (s4:Int×Int):LS (Int×Int) Int:=λs10=>bif Q3 (s10.1<(r_.length:Int)) then TH (TH (eu r_ s4.1 s10.1) λv14=>bif v14 then gd (QF .i64<|s10.2+(1:Int)) <|QZ (s10.2+(1:Int)) else QZ s10.2) λs13=>gd (QF .i64<|s10.1+(1:Int)) <|QZ (.inl ((s10.1+(1:Int)),s13)) else QZ (.inr s10.2)
def sV (r_:LI):LS (Int×Int) Int:=λs4=>bif Q3 (s4.1<(r_.length:Int)) then TH (aB (rz r_ s4) ((0:Int),s4.2)) λs7=>gd (QF .i64<|s4.1+(1:Int)) <|QZ (.inl ((s4.1+(1:Int)),s7)) else QZ (.inr s4.2)
def nK (r_:LI):Option Int:= TH (aB (sV r_) ((0:Int),(0:Int))) λs1=>QZ s1
def nL (kind:Int) (r_:LI):Option Bool:= bif (kind==(1:Int)) then TH (kL r_) λv2=>QZ v2 else bif (kind==(2:Int)) then TH (nJ r_) λv4=>QZ v4 else TH (nK r_) λv5=>QZ<|v5==(0:Int)
def rA (p:List<|List QH) (x:QI) (m:List ah):LS Int (Unit ⊕ Int):=λs4=>bif Q3 (s4<(m.length:Int)) then gd (Q3<|0<=s4/\s4<(m.length:Int)) <|TH (pK p x<|(J m s4).Expr) λv8=>TH (nL ((J m s4).Kind) v8) λv9=>bif !v9 then QZ (.inr<|.inr s4) else gd (QF .i64<|s4+(1:Int)) <|QZ (.inl<|s4+(1:Int)) else QZ (.inr<|.inl ())
def lT (p:List<|List QH) (x:QI) (m:List ah):Option Int:= sumK (aB (rA p x m) (0:Int)) λs1=>QZ (-1:Int)
def sW:LS (ByteArray×Int) (ByteArray×Int):=λs9=>bif Q3 ((9:Int)<s9.2) then gd (Q3<|(10:Int)≠0) <|gd (QF .i64<|(48:Int)+(s9.2.tmod (10:Int))) <|gd (QF .u8<|(48:Int)+(s9.2.tmod (10:Int))) <|gd (Q3<|(strOfNums ([((48:Int)+(s9.2.tmod (10:Int)))]:LI)).size+s9.1.size<=9223372036854775807) <|gd (QF .i64<|s9.2.tdiv (10:Int)) <|QZ (.inl (((strOfNums ([((48:Int)+(s9.2.tmod (10:Int)))]:LI))++s9.1),(s9.2.tdiv (10:Int)))) else QZ (.inr (s9.1,s9.2))
def lV (rcf:Int->Option BA) (n:Int):Option BA:= bif Q3 (n<(-9223372036854775807:Int)) then QZ (⟨#[45,57,50,50,51,51,55,50,48,51,54,56,53,52,55,55,53,56,48,56]⟩:BA) else bif Q3 (n<(0:Int)) then gd (QF .i64<|0-n) <|TH (rcf<|0-n) λv4=>gd (Q3<|(⟨#[45]⟩:BA).size+v4.size<=9223372036854775807) <|QZ ((⟨#[45]⟩:BA)++v4) else TH (aB sW ((⟨#[]⟩:BA),n)) λs6=>gd (QF .i64<|(48:Int)+s6.2) <|gd (QF .u8<|(48:Int)+s6.2) <|gd (Q3<|(strOfNums ([((48:Int)+s6.2)]:LI)).size+s6.1.size<=9223372036854775807) <|QZ<|(strOfNums ([((48:Int)+s6.2)]:LI))++s6.1
def iU:Nat->Int->Option BA
 | 0=>λ_=>Q0
 | n+1=>lV (iU n)
def eH (n:Int):Option BA:=DU λnf=>iU nf n
def mX (r_:LI) (s5:(LL)×Int×Int):LS ((LL)×Int×Int) (((LL)×Int) ⊕ (((LL)×Int×Int) ⊕ ((LL) ⊕ (LI)))):=λs18=>bif Q3 (s18.2.1<(r_.length:Int)) then TH (TH (eu r_ (J (J s5.1 s5.2.1)<|((J s5.1 s5.2.1).length:Int)-(1:Int)) s18.2.1) λv23=>TH (bif v23 then gd (Q3<|0<=s18.2.1) <|QZ ((fH .i64 (jw .i64 s18.2.2 s18.2.1) (1:Int))==(0:Int)) else QZ QY) λs24=>bif s24 then gd (Q3<|0<=s18.2.1) <|gd (Q3<|0<=s5.2.1/\s5.2.1<(s18.1.length:Int)) <|gd (bq (([]:LI).length+(J s18.1 s5.2.1).length) 8) <|gd (bq ((([]:LI)++(J s18.1 s5.2.1)).length+1) 8) <|gd (bq (s18.1.length+1) 24) <|QZ ((s18.1++[((([]:LI)++(J s18.1 s5.2.1))++[s18.2.1])]),(bOr .i64 s18.2.2<|De .i64 (1:Int) s18.2.1)) else QZ (s18.1,s18.2.2)) λs22=>gd (QF .i64<|s18.2.1+(1:Int)) <|QZ (.inl (s22.1,(s18.2.1+(1:Int)),s22.2)) else QZ (.inr<|.inl (s18.1,s18.2.2))
def uF (r_:LI) (from_:Int):LS ((LL)×Int×Int) ((LL) ⊕ (LI)):=λs5=>bif Q3 (s5.2.1<(s5.1.length:Int)) then sumK (gd (Q3<|0<=s5.2.1/\s5.2.1<(s5.1.length:Int)) <|gd (QF .i64<|((J s5.1 s5.2.1).length:Int)-(1:Int)) <|gd (Q3<|0<=(((J s5.1 s5.2.1).length:Int)-(1:Int))/\(((J s5.1 s5.2.1).length:Int)-(1:Int))<((J s5.1 s5.2.1).length:Int)) <|TH (eu r_ (J (J s5.1 s5.2.1)<|((J s5.1 s5.2.1).length:Int)-(1:Int)) from_) λv13=>bif v13 then QZ (.inr<|.inr<|.inr<|J s5.1 s5.2.1) else aB (mX r_ s5) (s5.1,(0:Int),s5.2.2)) λs9=>gd (QF .i64<|s5.2.1+(1:Int)) <|QZ (.inl (s9.1,(s5.2.1+(1:Int)),s9.2)) else QZ (.inr<|.inl s5.1)
def pO (r_:LI) (from_:Int):Option (LI):= sumK (aB (uF r_ from_) (([([from_]:LI)]:LL),(0:Int),(0:Int))) λs1=>QZ ([]:LI)
def sZ (r_:LI):LS (Int×(LI)) (LI):=λs4=>bif Q3 (s4.1<(r_.length:Int)) then TH (TH (pO r_ s4.1) λv8=>TH (bif Q3 ((0:Int)<(v8.length:Int)) then TH (bif ((s4.2.length:Int)==(0:Int)) then QZ QX else QZ (Q3<|(v8.length:Int)<(s4.2.length:Int))) λs11=>QZ s11 else QZ QY) λs9=>bif s9 then QZ v8 else QZ s4.2) λs7=>gd (QF .i64<|s4.1+(1:Int)) <|QZ (.inl ((s4.1+(1:Int)),s7)) else QZ (.inr s4.2)
def nM (r_:LI):Option (LI):= TH (aB (sZ r_) ((0:Int),([]:LI))) λs1=>QZ s1
def dC (from_:Int) (n:Int):Option BA:= gd (QF .u8 n) <|gd (QF .u8<|from_+n) <|QZ<|strOfNums ([(from_+n)]:LI)
def jr (x:QH):Option BA:= TH (dC (120:Int) x.Loc) λv1=>TH (dC (97:Int) x.Reg) λv2=>bif (x.Op==(1:Int)) then gd (Q3<|v2.size+(⟨#[61]⟩:BA).size<=9223372036854775807) <|gd (Q3<|(v2++(⟨#[61]⟩:BA)).size+v1.size<=9223372036854775807) <|QZ ((v2++(⟨#[61]⟩:BA))++v1) else bif (x.Op==(2:Int)) then gd (Q3<|v1.size+(⟨#[61]⟩:BA).size<=9223372036854775807) <|TH (eH x.Val) λv8=>gd (Q3<|(v1++(⟨#[61]⟩:BA)).size+v8.size<=9223372036854775807) <|QZ ((v1++(⟨#[61]⟩:BA))++v8) else bif (x.Op==(3:Int)) then gd (Q3<|v1.size+(⟨#[61]⟩:BA).size<=9223372036854775807) <|gd (Q3<|(v1++(⟨#[61]⟩:BA)).size+v2.size<=9223372036854775807) <|QZ ((v1++(⟨#[61]⟩:BA))++v2) else bif (x.Op==(5:Int)) then gd (Q3<|v2.size+(⟨#[61]⟩:BA).size<=9223372036854775807) <|gd (Q3<|(v2++(⟨#[61]⟩:BA)).size+v1.size<=9223372036854775807) <|gd (Q3<|((v2++(⟨#[61]⟩:BA))++v1).size+(⟨#[58]⟩:BA).size<=9223372036854775807) <|TH (eH x.Val) λv17=>gd (Q3<|(((v2++(⟨#[61]⟩:BA))++v1)++(⟨#[58]⟩:BA)).size+v17.size<=9223372036854775807) <|QZ ((((v2++(⟨#[61]⟩:BA))++v1)++(⟨#[58]⟩:BA))++v17) else QZ (⟨#[102,101,110,99,101]⟩:BA)
def fT (p:List<|List QH) (e_:QJ):Option BA:= bif Q3 (e_.Thread<(0:Int)) then TH (dC (120:Int) e_.Loc) λv2=>gd (Q3<|(⟨#[102,105,114,115,116,32]⟩:BA).size+v2.size<=9223372036854775807) <|QZ ((⟨#[102,105,114,115,116,32]⟩:BA)++v2) else TH (eH e_.Thread) λv4=>gd (Q3<|v4.size+(⟨#[58]⟩:BA).size<=9223372036854775807) <|gd (Q3<|0<=e_.Thread/\e_.Thread<(p.length:Int)) <|gd (Q3<|0<=e_.Index/\e_.Index<((J p e_.Thread).length:Int)) <|TH (jr<|J (J p e_.Thread) e_.Index) λv8=>gd (Q3<|(v4++(⟨#[58]⟩:BA)).size+v8.size<=9223372036854775807) <|QZ<|(v4++(⟨#[58]⟩:BA))++v8
def rB (p:List<|List QH) (list:LI) (v1:(List QJ)):LS (Int×BA) BA:=λs5=>bif Q3 (s5.1<(list.length:Int)) then TH (bif Q3 ((0:Int)<s5.1) then gd (Q3<|s5.2.size+(⟨#[44,32]⟩:BA).size<=9223372036854775807) <|QZ (s5.2++(⟨#[44,32]⟩:BA)) else QZ s5.2) λs8=>gd (Q3<|0<=s5.1/\s5.1<(list.length:Int)) <|gd (Q3<|0<=(J list s5.1)/\(J list s5.1)<(v1.length:Int)) <|TH (fT p<|J v1<|J list s5.1) λv13=>gd (Q3<|s8.size+v13.size<=9223372036854775807) <|gd (QF .i64<|s5.1+(1:Int)) <|QZ (.inl ((s5.1+(1:Int)),(s8++v13))) else QZ (.inr s5.2)
def lW (p:List<|List QH) (list:LI):Option BA:= TH (cF p) λv1=>TH (aB (rB p list v1) ((0:Int),(⟨#[]⟩:BA))) λs2=>QZ s2
def fq (p:List<|List QH) (x:QI) (m:List ah):Option BA:= TH (iT p x) λv1=>bif !v1.2 then QZ (⟨#[118,97,108,117,101,115]⟩:BA) else TH (lT p x m) λv3=>bif Q3 (v3<(0:Int)) then QZ (⟨#[97,108,108,111,119,101,100]⟩:BA) else TH (eH v3) λv5=>gd (Q3<|(⟨#[114,117,108,101,32]⟩:BA).size+v5.size<=9223372036854775807) <|TH (gd (Q3<|0<=v3/\v3<(m.length:Int)) <|bif (((J m v3).Kind)==(1:Int)) then gd (Q3<|((⟨#[114,117,108,101,32]⟩:BA)++v5).size+(⟨#[58,32]⟩:BA).size<=9223372036854775807) <|TH (pK p x<|(J m v3).Expr) λv11=>TH (nM v11) λv12=>TH (lW p v12) λv13=>gd (Q3<|(((⟨#[114,117,108,101,32]⟩:BA)++v5)++(⟨#[58,32]⟩:BA)).size+v13.size<=9223372036854775807) <|QZ ((((⟨#[114,117,108,101,32]⟩:BA)++v5)++(⟨#[58,32]⟩:BA))++v13) else QZ ((⟨#[114,117,108,101,32]⟩:BA)++v5)) λs7=>QZ s7
def bv (p:List<|List QH) (x:QI) (m:List ah):Option BA:= TH (gZ p x) λv1=>TH (bif !v1 then QZ QX else TH (cg m) λv4=>QZ<|!v4) λs2=>bif s2 then QZ (⟨#[]⟩:BA) else TH (fq p x m) λv6=>QZ v6
def lY (p:List<|List QH) (x:QI):Option ((LI)×Bool):= TH (bH p x) λv1=>bif !v1 then QZ (([]:LI),QY) else TH (cG p x) λv3=>QZ (v3.1,v3.2)
def iM (i:Int) (v3:(LL)) (s4:(LI)) (s12:(LL)×Int):LS ((LL)×Int) (LL):=λs20=>TH (bif Q3 (s20.2<(v3.length:Int)) then gd (Q3<|0<=s12.2/\s12.2<(s4.length:Int)) <|QZ ((J s4 s12.2) != i) else QZ QY) λs23=>bif s23 then gd (Q3<|0<=s12.2/\s12.2<(s4.length:Int)) <|gd (Q3<|0<=s20.2/\s20.2<(v3.length:Int)) <|gd (bq (([(J s4 s12.2)]:LI).length+(J v3 s20.2).length) 8) <|gd (bq (s20.1.length+1) 24) <|gd (QF .i64<|s20.2+(1:Int)) <|QZ (.inl ((s20.1++[(([(J s4 s12.2)]:LI)++(J v3 s20.2))]),(s20.2+(1:Int)))) else QZ (.inr s20.1)
def iN (i:Int) (v3:(LL)) (s4:(LI)):LS ((LL)×Int) (LL):=λs12=>bif Q3 (s12.2<(s4.length:Int)) then TH (aB (iM i v3 s4 s12) (s12.1,(0:Int))) λs16=>gd (QF .i64<|s12.2+(1:Int)) <|QZ (.inl (s16,(s12.2+(1:Int)))) else QZ (.inr s12.1)
def dS (rcf:(List QJ)->Int->Option (LL)) (events:List QJ) (i:Int):Option (LL):= bif (i==(events.length:Int)) then QZ ([([]:LI)]:LL) else gd (QF .i64<|i+(1:Int)) <|TH (rcf events<|i+(1:Int)) λv3=>TH (gd (Q3<|0<=i/\i<(events.length:Int)) <|bif (J events i).Reads then TH (bR events<|(J events i).Loc) λv7=>QZ v7 else QZ ([(-1:Int)]:LI)) λs4=>TH (aB (iN i v3 s4) (([]:LL),(0:Int))) λs8=>QZ s8
def ig:Nat->(List QJ)->Int->Option (LL)
 | 0=>λ_ _=>Q0
 | n+1=>dS (ig n)
def rS (events:List QJ) (i:Int):Option (LL):=DU λnf=>ig nf events i
def rC (list:LI) (s6:(LL)×Int) (v16:(LL)):LS ((LL)×Int) (LL):=λs20=>bif Q3 (s20.2<(v16.length:Int)) then gd (Q3<|0<=s6.2/\s6.2<(list.length:Int)) <|gd (Q3<|0<=s20.2/\s20.2<(v16.length:Int)) <|gd (bq (([(J list s6.2)]:LI).length+(J v16 s20.2).length) 8) <|gd (bq (s20.1.length+1) 24) <|gd (QF .i64<|s20.2+(1:Int)) <|QZ (.inl ((s20.1++[(([(J list s6.2)]:LI)++(J v16 s20.2))]),(s20.2+(1:Int)))) else QZ (.inr s20.1)
def mY (rcf:(LI)->Option (LL)) (list:LI):((LL)×Int)->Option (((LL)×Int) ⊕ (LL)):=λs6=>bif Q3 (s6.2<(list.length:Int)) then TH (gd (Q3<|0<=(0:Int)/\(0:Int)<=s6.2/\s6.2<=(list.length:Int)) <|gd (bq (([]:LI).length+((list.drop (0:Int).toNat).take<|s6.2.toNat-(0:Int).toNat).length) 8) <|gd (QF .i64<|s6.2+(1:Int)) <|gd (Q3<|0<=(s6.2+(1:Int))/\(s6.2+(1:Int))<=(list.length:Int)/\(list.length:Int)<=(list.length:Int)) <|gd (bq ((([]:LI)++((list.drop (0:Int).toNat).take<|s6.2.toNat-(0:Int).toNat)).length+((list.drop (s6.2+(1:Int)).toNat).take<|(list.length:Int).toNat-(s6.2+(1:Int)).toNat).length) 8) <|TH (rcf<|(([]:LI)++((list.drop (0:Int).toNat).take<|s6.2.toNat-(0:Int).toNat))++((list.drop (s6.2+(1:Int)).toNat).take<|(list.length:Int).toNat-(s6.2+(1:Int)).toNat)) λv16=>aB (rC list s6 v16) (s6.1,(0:Int))) λs10=>gd (QF .i64<|s6.2+(1:Int)) <|QZ (.inl (s10,(s6.2+(1:Int)))) else QZ (.inr s6.1)
def dU (rcf:(LI)->Option (LL)) (list:LI):Option (LL):= bif ((list.length:Int)==(0:Int)) then QZ ([([]:LI)]:LL) else TH (aB (mY rcf list) (([]:LL),(0:Int))) λs2=>QZ s2
def ij:Nat->(LI)->Option (LL)
 | 0=>λ_=>Q0
 | n+1=>dU (ij n)
def rT (list:LI):Option (LL):=DU λnf=>ij nf list
def gL (v3:(List<|LL)) (v4:(LI)) (v6:(LL)) (s11:(List<|LL)×Int):LS ((List<|LL)×Int) (List<|LL):=λs22=>bif Q3 (s22.2<(v3.length:Int)) then gd (Q3<|0<=s22.2/\s22.2<(v3.length:Int)) <|gd (bq (([(([(J v4 (0:Int))]:LI)++(J v6 s11.2))]:LL).length+(J v3 s22.2).length) 24) <|gd (bq (s22.1.length+1) 24) <|gd (QF .i64<|s22.2+(1:Int)) <|QZ (.inl ((s22.1++[(([(([(J v4 (0:Int))]:LI)++(J v6 s11.2))]:LL)++(J v3 s22.2))]),(s22.2+(1:Int)))) else QZ (.inr s22.1)
def gM (v3:(List<|LL)) (v4:(LI)) (v6:(LL)):LS ((List<|LL)×Int) (List<|LL):=λs11=>bif Q3 (s11.2<(v6.length:Int)) then TH (gd (Q3<|0<=(0:Int)/\(0:Int)<(v4.length:Int)) <|gd (Q3<|0<=s11.2/\s11.2<(v6.length:Int)) <|gd (bq (([(J v4 (0:Int))]:LI).length+(J v6 s11.2).length) 8) <|aB (gL v3 v4 v6 s11) (s11.1,(0:Int))) λs15=>gd (QF .i64<|s11.2+(1:Int)) <|QZ (.inl (s15,(s11.2+(1:Int)))) else QZ (.inr s11.1)
def dx (rcf:(List QJ)->Int->Option (List<|LL)) (events:List QJ) (loc:Int):Option (List<|LL):= bif Q3 ((2:Int)<loc) then QZ ([([]:LL)]:List<|LL) else gd (QF .i64<|loc+(1:Int)) <|TH (rcf events<|loc+(1:Int)) λv3=>TH (bR events loc) λv4=>gd (Q3<|0<=(1:Int)/\(1:Int)<=(v4.length:Int)/\(v4.length:Int)<=(v4.length:Int)) <|TH (rT<|(v4.drop (1:Int).toNat).take<|(v4.length:Int).toNat-(1:Int).toNat) λv6=>TH (aB (gM v3 v4 v6) (([]:List<|LL),(0:Int))) λs7=>QZ s7
def fU:Nat->(List QJ)->Int->Option (List<|LL)
 | 0=>λ_ _=>Q0
 | n+1=>dx (fU n)
def qB (events:List QJ) (loc:Int):Option (List<|LL):=DU λnf=>fU nf events loc
def om (x:QI):LS ((LL)×Int) (LL):=λs8=>bif Q3 (s8.2<(x.Order.length:Int)) then gd (Q3<|0<=s8.2/\s8.2<(x.Order.length:Int)) <|gd (bq (([]:LI).length+(J x.Order s8.2).length) 8) <|gd (bq (s8.1.length+1) 24) <|gd (QF .i64<|s8.2+(1:Int)) <|QZ (.inl ((s8.1++[(([]:LI)++(J x.Order s8.2))]),(s8.2+(1:Int)))) else QZ (.inr s8.1)
def lZ (x:QI):Option QI:= gd (bq (([]:LI).length+x.From.length) 8) <|TH (aB (om x) (([]:LL),(0:Int))) λs2=>QZ (⟨(([]:LI)++x.From),s2⟩:QI)
def ik (v2:(LL)) (v3:(List<|LL)) (s8:(List QI)×Int):LS ((List QI)×Int) (List QI):=λs16=>bif Q3 (s16.2<(v3.length:Int)) then gd (Q3<|0<=s8.2/\s8.2<(v2.length:Int)) <|gd (Q3<|0<=s16.2/\s16.2<(v3.length:Int)) <|TH (lZ (⟨(J v2 s8.2),(J v3 s16.2)⟩:QI)) λv22=>gd (bq (s16.1.length+1) 48) <|gd (QF .i64<|s16.2+(1:Int)) <|QZ (.inl ((s16.1++[v22]),(s16.2+(1:Int)))) else QZ (.inr s16.1)
def iV (v2:(LL)) (v3:(List<|LL)):LS ((List QI)×Int) (List QI):=λs8=>bif Q3 (s8.2<(v2.length:Int)) then TH (aB (ik v2 v3 s8) (s8.1,(0:Int))) λs12=>gd (QF .i64<|s8.2+(1:Int)) <|QZ (.inl (s12,(s8.2+(1:Int)))) else QZ (.inr s8.1)
def rD (p:List<|List QH):Option (List QI):= TH (cF p) λv1=>TH (rS v1 (0:Int)) λv2=>TH (qB v1 (0:Int)) λv3=>TH (aB (iV v2 v3) (([]:List QI),(0:Int))) λs4=>QZ s4
structure ZSt where
 at_:LI
 regs:LI
 mem:LI
 buf:LL
instance:Inhabited ZSt:=⟨⟨QW,QW,QW,QW⟩⟩
def QM {α:Type} (x:Option α) (P:α->Prop):Prop:=∃ v,x=QZ v/\P v
section
variable {α β S E:Type} {P:α->Prop} {Q:β->Prop} {x y:Option α}
theorem QM.pure {v:α} (h:P v):QM (QZ v) P:=⟨v,rfl,h⟩
theorem QM.mono {P':α->Prop} (h:QM x P) (k:∀ v,P v->P' v):QM x P':=by
 obtain ⟨v,e,p⟩:=h;exact ⟨v,e,k v p⟩
theorem QM.bind {o:Option α} {f:α->Option β} (h:QM o P) (k:∀ v,P v->QM (f v) Q):QM (o.bind f) Q:=by
 obtain ⟨v,rfl,p⟩:=h;exact k v p
theorem QM.gd {b:Bool} (hb:b=QX) (h:QM x P):QM (gd b x) P:=by rw [tV hb];exact h
theorem QM.gdD {A:Prop} [Decidable A] (hb:A) (h:QM x P):QM (Go.Proofs.YtabfkkjdfhbngaaGreatDoor.gd (decide A) x) P:=QM.gd (decide_eq_true hb) h
theorem QM.gdI {n:Int} (hb : -9223372036854775808<=n/\n<=9223372036854775807) (h:QM x P):QM (Go.Proofs.YtabfkkjdfhbngaaGreatDoor.gd (QF .i64 n) x) P:=QM.gd (LJ hb) h
theorem QM.gdY {n:Int} (hb:0<=n/\n<=255) (h:QM x P):QM (Go.Proofs.YtabfkkjdfhbngaaGreatDoor.gd (QF .u8 n) x) P:=QM.gd (N9 hb) h
theorem KW {n m:Nat} (hn:n<=1048576) (hm:Nat.ble m 1000=QX):bq n m=QX:=by
 have h1:=nlb hm;have h2:n*m<=1048576*1000:=Nat.mul_le_mul hn h1;exact decide_eq_true ⟨by omega,by omega⟩
theorem QM.gdC {n m:Nat} (hn:n<=1048576) (hm:Nat.ble m 1000=QX) (h:QM x P):QM (Go.Proofs.YtabfkkjdfhbngaaGreatDoor.gd (bq n m) x) P:=QM.gd (KW hn hm) h
theorem QM.bif {b:Bool} (h1:b=QX->QM x P) (h2:b=QY->QM y P):QM (bif b then x else y) P:=by
 cases b with
 | true=>exact h1 rfl
 | false=>exact h2 rfl
theorem QM.bifD {A:Prop} [Decidable A] (h1:A->QM x P) (h2 : ¬ A->QM y P):QM (_root_.cond (decide A) x y) P:=
 QM.bif (λh=>h1<|of_decide_eq_true h) (λh=>h2<|of_decide_eq_false h)
theorem QM.sum {W:Type} {PS:S->Prop} {PW:W->Prop} {a:Option (S ⊕ W)} {f:S->Option W} (h:QM a λz=>match z with
  | .inl s=>PS s
  | .inr w=>PW w) (k:∀ s,PS s->QM (f s) PW):QM (sumK a f) PW:=by
 obtain ⟨v,rfl,p⟩:=h
 match v,p with
 | .inl s,p=>exact k s p
 | .inr w,p=>exact ⟨w,rfl,p⟩
theorem QM.loop {step:S->Option (S ⊕ E)} {R:E->Prop} (J:S->Prop) (mu:S->Nat) {s0:S} (h0:J s0) (h:∀ s,J s->QM (step s) λz=>match z with
  | .inl s'=>J s'/\mu s'<mu s
  | .inr x=>R x):QM (aB step s0) R:=by
 have key:∀ (n:Nat) (s:S),mu s=n->J s->QM (aB step s) R:=by
  intro n
  induction n using Nat.strongRecOn with
  | _ n ih=>
   intro s hs hj;obtain ⟨z,e,hz⟩:=h s hj;rw [yg,e]
   match z,hz with
   | .inl s',hz=>exact ih (mu s') (by omega) s' rfl hz.1
   | .inr x,hz=>exact ⟨x,rfl,hz⟩
 exact key _ s0 rfl h0
theorem QM.eq {v:α} (h:QM x (· = v)):x=QZ v:=by
 obtain ⟨u,e,rfl⟩:=h;exact e
theorem QM.of {v:α} (h:x=QZ v) (p:P v):QM x P:=⟨v,h,p⟩
end

structure Mac (σ:Type) where
 mv:σ->LI
 af:σ->Int->σ
 ky:σ->BA
 dn:σ->Bool
 oc:σ->LI
section
variable {σ:Type} (M:Mac σ)
inductive Rea (s0:σ):σ->Prop
 | base:Rea s0 s0
 | step {s:σ} {m:Int} (h:Rea s0 s) (hm:m∈M.mv s):Rea s0 (M.af s m)
variable {M} {s0:σ} {N:Nat}
def Done (M:Mac σ) (V:List σ) (outs:LL) (v:σ):Prop:=(∀ m∈M.mv v,M.af v m∈V)/\(M.dn v=QX->M.oc v∈outs)
structure Srch (M:Mac σ) (s0:σ) (V stack:List σ) (outs:List (List Int)) (cur:Option (σ×Nat)):Prop where
 rea:∀ v∈V,Rea M s0 v
 base:s0∈V
 nd:V.Nodup
 sub:∀ v∈stack,v∈V
 all:∀ v∈V,v∈stack\/(∃ n,cur=QZ (v,n))\/Done M V outs v
 out:∀ o∈outs,∃ v∈V,M.dn v=QX/\M.oc v=o
 len:outs.length+stack.length<=V.length
 cur_:∀ s n,cur=QZ (s,n)->s∈V/\(M.dn s=QX->M.oc s∈outs)/\∀ j,j<n->∀ m,(M.mv s)[j]? = QZ m->M.af s m∈V
theorem Srch.new {V stack:List σ} {s:σ} {outs:LL} {n:Nat} {m:Int} (h:Srch M s0 V stack outs<|QZ (s,n)) (hm:(M.mv s)[n]? = QZ m) (hv:M.af s m∉V):Srch M s0 (V++[M.af s m]) (stack++[M.af s m]) outs (QZ (s,n+1)) where
 rea:=λv hv=>by
  rcases TQ.1 hv with hv | hv
  ·exact h.rea v hv
  rw [TR.1 hv];exact .step (h.rea s (h.cur_ s n rfl).1)<|List.mem_of_getElem? hm
 base:=TM _ h.base
 nd:=by
  rw [List.nodup_append];exact ⟨h.nd,by simp,λa ha b hb e=>hv<|by rw [<- TR.1 hb,<- e];exact ha⟩
 sub:=λv hv=>by
  rcases TQ.1 hv with hv | hv
  ·exact TM _<|h.sub v hv
  exact TS _ hv
 all:=λv hv=>by
  rcases TQ.1 hv with hv | hv
  ·rcases h.all v hv with h1 | ⟨k,h1⟩ | ⟨h1,h2⟩
   ·exact .inl<|TM _ h1
   ·injection h1 with h1;injection h1 with h1 _;subst h1;exact .inr<|.inl ⟨n+1,rfl⟩
   exact .inr<|.inr ⟨λm hm=>TM _<|h1 m hm,h2⟩
  exact .inl<|TS _ hv
 out:=λo ho=>by
  obtain ⟨v,g1,g2⟩:=h.out o ho;exact ⟨v,TM _ g1,g2⟩
 len:=by
  have := h.len;simp only [lla,TT];omega
 cur_:=λt k e=>by
  injection e with e;injection e with e1 e2;subst e1 e2;obtain ⟨g1,g2,g3⟩:=h.cur_ s n rfl;refine ⟨TM _ g1,g2,λj hj m' hm' => ?_⟩;rcases Nat.lt_or_ge j n with h' | h'
  ·exact TM _<|g3 j h' m' hm'
  obtain rfl:j=n:=by omega
  rw [hm] at hm';obtain rfl:=osl hm';exact TS _<|TR.2 rfl
end
theorem KX {σ:Type} (f:σ->Nat) (m:Nat):∀ (V:List σ),V.Nodup->(∀ v∈V,f v<m)->(∀ u∈V,∀ v∈V,f u=f v->u=v)->V.length<=m:=λV hn hl hi=>by
 have h1:(V.map f).Nodup:=by
  rw [List.nodup_iff_pairwise_ne] at hn ⊢;rw [List.pairwise_map];exact hn.imp_of_mem λ{a b} ha hb hne e=>hne<|hi a ha b hb e
 have := List.Nodup.length_le_of_subset h1 (l₂:=List.range m) λx hx=>by
  obtain ⟨v,hv,rfl⟩:=TN.1 hx;exact List.mem_range.2<|hl v hv
 simpa using this
def rdX (x:QH):Bool:=x.Op==1||x.Op==5
def wrX (x:QH):Bool:=x.Op==2||x.Op==3||x.Op==5
theorem Oj (x:QH):QM (iI x) (· = rdX x):=by
 unfold iI rdX;exact QM.bind (P:=(· = (x.Op==1||x.Op==5))) (.bif (λh => .pure<|by rw [h];rfl) λh => .pure<|by rw [h];rfl) λv hv => .pure hv
theorem MI (x:QH):QM (gH x) (· = wrX x):=by
 unfold gH wrX;exact QM.bind (P:=(· = (x.Op==2||x.Op==3))) (.bif (λh => .pure<|by rw [h];rfl) λh => .pure<|by rw [h];rfl) λv hv=>QM.bind (P:=(· = (x.Op==2||x.Op==3||x.Op==5))) (.bif (λh => .pure<|by rw [<- hv,h];rfl) λh => .pure<|by rw [<- hv,h];rfl) λv hv => .pure hv
def Vs (p:List<|List QH):Prop:=p.length<=3/\∀ n,(p.getD n QW).length<=7
theorem Vs.of {p:List (List QH)} (h:bf (p.map λr=>r.map iQ)=QX):Vs p/\∀ t k:Nat,t<p.length->k<(p.getD t QW).length->dZ (iQ<|(p.getD t QW).getD k QW)=QX:=by
 simp only [bf,sN,bae,dte,List.all_eq_true,rowOk] at h;have hl:p.length<=3:=by simpa using h.1.1.1.1
 have hr:=h.1.1.1.2;refine ⟨⟨hl,λn=>?_⟩,λt k ht hk=>?_⟩
 ·by_cases hn:n<p.length
  ·have e:p.getD n QW=p[n]:=by simp [hn]
   rw [e];have := (hr (p[n].map iQ)<|TN.2 ⟨p[n],TP hn,rfl⟩).1;simpa using this
  rw [gdq,gen (by omega)];exact Nat.zero_le _
 have e:p.getD t QW=p[t]:=by simp [ht]
 rw [e] at hk ⊢;have h1:=(hr (p[t].map iQ)<|TN.2 ⟨p[t],TP ht,rfl⟩).2;have e2:p[t].getD k QW=p[t][k]:=by simp [hk]
 rw [e2];exact h1 _<|TN.2 ⟨_,TP hk,rfl⟩
def InR (x:QH):Prop:=0<=x.Loc/\x.Loc<=2/\0<=x.Reg/\x.Reg<=2/\0<=x.Val/\x.Val<=3
theorem Jm {x:QH} (h:dZ (iQ x)=QX):InR x:=by
 obtain ⟨o,l,r,v⟩:=x;unfold InR;simp only;unfold dZ iQ at h;simp only [QK] at h
 split at h
 ·simp only [bae,dte,beq_iff_eq] at h;omega
 split at h
 ·simp only [bae,dte,beq_iff_eq] at h;omega
 split at h
 ·simp only [bae,dte,beq_iff_eq] at h;omega
 split at h
 ·simp only [bae,dte] at h;omega
 cases h
structure PV (p:List (List QH)):Prop where
 vs:Vs p
 pos:0<p.length
 ins:∀ t k:Nat,t<p.length->k<(p.getD t QW).length->InR ((p.getD t QW).getD k QW)
theorem PV.of {p:List (List QH)} (h:bf (p.map λr=>r.map iQ)=QX):PV p:=by
 have h1:=Vs.of h;refine ⟨h1.1,?_,λt k ht hk=>Jm<|h1.2 t k ht hk⟩;simp only [bf,bae,dte,llm] at h;exact h.1.2
theorem aU {n m:Nat} (hn:n<=4000000) (hm:Nat.ble m 1000=QX):bq n m=QX:=by
 have h1:=nlb hm;have h2:n*m<=4000000*1000:=Nat.mul_le_mul hn h1;exact decide_eq_true ⟨by omega,by omega⟩
theorem QM.sumR {S W:Type} {a:Option (S ⊕ W)} {f:S->Option W} {w:W} (h:QM a (· = .inr w)):QM (sumK a f) (· = w):=by
 obtain ⟨v,rfl,rfl⟩:=h;exact ⟨w,rfl,rfl⟩

def evX (t k:Nat) (x:QH):List QJ:=if x.Op=4 then [] else [⟨t,k,x.Loc,rdX x,wrX x⟩]
def evR (t:Nat) (row:List QH):Nat->List QJ
 | 0=>[]
 | n+1=>evR t row n++evX t n (row.getD n QW)
def ev0:List QJ:=[⟨-1,0,0,QY,QX⟩,⟨-1,1,1,QY,QX⟩,⟨-1,2,2,QY,QX⟩]
def evP (p:List<|List QH):Nat->List QJ
 | 0=>ev0
 | n+1=>evP p n++evR n (p.getD n QW) (p.getD n QW).length
def evs (p:List<|List QH):List QJ:=evP p p.length
theorem Jn (t k:Nat) (x:QH):(evX t k x).length<=1:=by unfold evX;grind
theorem FY (t:Nat) (row:List QH) (n:Nat):(evR t row n).length<=n:=by
 induction n with
 | zero=>exact TK _
 | succ n ih=>
  have := Jn t n<|row.getD n QW;simp only [evR,lla];omega
theorem FZ {p:List (List QH)} (h:Vs p) (n:Nat):(evP p n).length<=3+7*n:=by
 induction n with
 | zero=>exact TK _
 | succ n ih=>
  have h1:=FY n (p.getD n QW) (p.getD n QW).length;have h2:=h.2 n;simp only [evP,lla];omega
theorem Ol (x:QH):QM (nB x) (· = rdX x):=by
 unfold nB rdX;exact QM.bind (P:=(· = (x.Op==1||x.Op==5))) (.bif (λh => .pure<|by simp_all) λh => .pure<|by simp_all) λv hv => .pure hv
theorem MJ (x:QH):QM (lH x) (· = wrX x):=by
 unfold lH wrX;exact QM.bind (P:=(· = (x.Op==2||x.Op==3))) (.bif (λh => .pure<|by simp_all) λh => .pure<|by simp_all) λv hv=>QM.bind (P:=(· = (x.Op==2||x.Op==3||x.Op==5))) (.bif (λh => .pure<|by simp_all) λh => .pure<|by simp_all) λv hv => .pure hv
theorem D5 {p:List (List QH)} (hp:Vs p):QM (gI p) (· = evs p):=by
 have hpl:=hp.1;unfold gI;refine QM.bind (P:=(· = ev0)) ?_ λl hl=>QM.bind (P:=(· = evs p)) ?_ λv hv => .pure hv
 ·refine QM.loop (λs=>∃ n:Nat,n<=3/\s=(ev0.take n,(n:Int))) (λs=>(3-s.2).toNat) ⟨0,by omega,rfl⟩ λs ⟨n,h1,h2⟩ => ?_;subst h2;unfold uD;refine .bifD (λh=>?_) λh => .pure ?_
  ·match n,h1,h with
   | 0,_,_=>exact .gdC (by decide) rfl (.gdI (by decide)<|.pure ⟨⟨1,by omega,rfl⟩,by decide⟩)
   | 1,_,_=>exact .gdC (by decide) rfl (.gdI (by decide)<|.pure ⟨⟨2,by omega,rfl⟩,by decide⟩)
   | 2,_,_=>exact .gdC (by decide) rfl (.gdI (by decide)<|.pure ⟨⟨3,by omega,rfl⟩,by decide⟩)
   | 3,_,h=>omega
  have : n=3:=by simp only [] at h;omega
  subst this
  rfl
 subst hl;refine QM.loop (λs=>∃ n:Nat,n<=p.length/\s=(evP p n,(n:Int))) (λs=>((p.length:Int)-s.2).toNat) ⟨0,by omega,rfl⟩ λs ⟨n,h1,h2⟩ => ?_;subst h2;unfold sP;refine .bifD (λh=>?_) λh => .pure ?_
 ·have hlen:=FZ hp n;have hrow:=hp.2 n;simp only [] at h;refine QM.bind (P:=(· = evP p (n+1))) (.gdD ⟨by omega,h⟩ ?_) λv hv => .gdI (by omega)<|.pure ⟨⟨n+1,by omega,by simp_all⟩,by omega⟩;refine QM.loop (λt=>∃ k:Nat,k<=(p.getD n QW).length/\t=(evP p n++evR n (p.getD n QW) k,(k:Int))) (λt=>(((p.getD n QW).length:Int)-t.2).toNat) ⟨0,by omega,by simp [evR]⟩ λt ⟨k,k1,k2⟩ => ?_;subst k2;unfold sO J;simp only [tnn];refine .bifD (λhk=>?_) λhk => .pure ?_
  ·have hl2:=FY n (p.getD n QW) k;refine QM.bind (P:=(· = evP p n++evR n (p.getD n QW) (k+1))) (.gdD ⟨by omega,hk⟩ ?_) λv hv => .gdI (by omega)<|.pure ⟨⟨k+1,by omega,by simp_all⟩,by omega⟩;refine .bif (λho=>?_) λho => .pure ?_
   ·refine (Oj _).bind λa ha=>(MI _).bind λb hb => .gdC (by grind) rfl<|.pure ?_;have h4 : ¬ ((p.getD n QW).getD k QW).Op=4:=by simpa using ho
    subst ha hb;simp only [evR,evX,if_neg h4,List.append_assoc]
   have h4:((p.getD n QW).getD k QW).Op=4:=by simpa using ho
   simp only [evR,evX,if_pos h4,List.append_nil]
  have : k=(p.getD n QW).length:=by omega
  subst this
  rfl
 have : n=p.length:=by simp only [] at h;omega
 subst this
 rfl
theorem Cc {p:List (List QH)} (hp:Vs p):QM (cF p) (· = evs p):=by
 have hpl:=hp.1;unfold cF;refine QM.bind (P:=(· = ev0)) ?_ λl hl=>QM.bind (P:=(· = evs p)) ?_ λv hv => .pure hv
 ·refine QM.loop (λs=>∃ n:Nat,n<=3/\s=(ev0.take n,(n:Int))) (λs=>(3-s.2).toNat) ⟨0,by omega,rfl⟩ λs ⟨n,h1,h2⟩ => ?_;subst h2;unfold qY;refine .bifD (λh=>?_) λh => .pure ?_
  ·match n,h1,h with
   | 0,_,_=>exact .gdC (by decide) rfl (.gdI (by decide)<|.pure ⟨⟨1,by omega,rfl⟩,by decide⟩)
   | 1,_,_=>exact .gdC (by decide) rfl (.gdI (by decide)<|.pure ⟨⟨2,by omega,rfl⟩,by decide⟩)
   | 2,_,_=>exact .gdC (by decide) rfl (.gdI (by decide)<|.pure ⟨⟨3,by omega,rfl⟩,by decide⟩)
   | 3,_,h=>omega
  have : n=3:=by simp only [] at h;omega
  subst this
  rfl
 subst hl;refine QM.loop (λs=>∃ n:Nat,n<=p.length/\s=(evP p n,(n:Int))) (λs=>((p.length:Int)-s.2).toNat) ⟨0,by omega,rfl⟩ λs ⟨n,h1,h2⟩ => ?_;subst h2;unfold ql;refine .bifD (λh=>?_) λh => .pure ?_
 ·have hlen:=FZ hp n;have hrow:=hp.2 n;simp only [] at h;refine QM.bind (P:=(· = evP p (n+1))) ?_ λv hv => .gdI (by omega)<|.pure ⟨⟨n+1,by omega,by simp_all⟩,by omega⟩;refine QM.loop (λt=>∃ k:Nat,k<=(p.getD n QW).length/\t=(evP p n++evR n (p.getD n QW) k,(k:Int))) (λt=>(((p.getD n QW).length:Int)-t.2).toNat) ⟨0,by omega,by simp [evR]⟩ λt ⟨k,k1,k2⟩ => ?_;subst k2;unfold qj J;simp only [tnn];refine .gdD ⟨by omega,h⟩<|.bifD (λhk=>?_) λhk => .pure ?_
  ·have hl2:=FY n (p.getD n QW) k;refine QM.bind (P:=(· = evP p n++evR n (p.getD n QW) (k+1))) (.gdD ⟨by omega,hk⟩ ?_) λv hv => .gdI (by omega)<|.pure ⟨⟨k+1,by omega,by simp_all⟩,by omega⟩;refine .bif (λho=>?_) λho => .pure ?_
   ·refine (Ol _).bind λa ha=>(MJ _).bind λb hb => .gdC (by grind) rfl<|.pure ?_;have h4 : ¬ ((p.getD n QW).getD k QW).Op=4:=by simpa using ho
    subst ha hb;simp only [evR,evX,if_neg h4,List.append_assoc]
   have h4:((p.getD n QW).getD k QW).Op=4:=by simpa using ho
   simp only [evR,evX,if_pos h4,List.append_nil]
  have : k=(p.getD n QW).length:=by omega
  subst this
  rfl
 have : n=p.length:=by simp only [] at h;omega
 subst this
 rfl
theorem vB {l:LI} {i:Nat} (h:i<l.length):l.getD i QW∈l:=by
 simp_all
section
variable {p:List (List QH)} {u:ZVa} {z:ZSt}
theorem ET (s:LI) (v:Int) (hs:s.length<=1048576):QM (cz s v) (· = Q3 (v∈s)):=by
 unfold cz;refine QM.bind (P:=λr:Int=>0<=r↔v∈s) ?_ λr hr => .pure<|decide_eq_decide.2 hr;unfold aZ;refine QM.sum (PS:=λ_=>v∉s) (PW:=λr:Int=>0<=r↔v∈s) ?_ λ_ hn => .pure ⟨λh=>absurd h (by decide),λh=>absurd h hn⟩;refine QM.loop (λi=>0<=i/\i<=(s.length:Int)/\∀ j:Nat,(j:Int)<i->s[j]? ≠ QZ v) (λi=>((s.length:Int)-i).toNat) ⟨Int.le_refl _,by omega,λj hj=>absurd hj<|by omega⟩ λi ⟨h1,h2,h3⟩ => ?_;unfold eZ J;refine .bifD (λhlt => .gdD ⟨h1,hlt⟩ ?_) λhge => .pure λhm=>?_
 ·have hi:i.toNat<s.length:=by omega
  have e:s.getD i.toNat QW=s[i.toNat]:=by rw [gdq,geq hi];rfl
  rw [e];refine .bif (λhb => .pure ⟨λ_=>?_,λ_=>h1⟩) λhb => .gdI (by omega)<|.pure ⟨⟨by omega,by omega,λj hj=>?_⟩,by omega⟩
  ·have : v=s[i.toNat]:=by simpa using hb
   rw [this];exact TP _
  grind
 obtain ⟨j,hj,rfl⟩:=List.getElem_of_mem hm
 grind
def Good (p:List<|List QH) (s:LI) (n:Nat):Prop:=∀ j,j<n->(0<=s.getD j QW/\s.getD j QW<(p.length:Int))/\(s.take j).count (s.getD j QW)<(p.getD (s.getD j QW).toNat QW).length
theorem Ia {s:LI} {i:Nat} (h:i<s.length) (v:Int):(s.take<|i+1).count v=(s.take i).count v+if s.getD i QW=v then 1 else 0:=by
 have e:s.getD i QW=s[i]:=by rw [gdq,geq h];rfl
 rw [<- List.take_append_getElem h,List.count_append,List.count_singleton,e]
 simp_all
end

section
variable {α β W:Type} [Inhabited α]
theorem Om {a b:List α} [DecidableEq α] (hl:a.length=b.length) {bad:W} {step:Int->Option (Int ⊕ (Unit ⊕ W))}
  (hs:∀ i:Int,0<=i->i<(a.length:Int)->QM (step i) (· = if a.getD i.toNat QW=b.getD i.toNat QW then .inl (i+1) else .inr (.inr bad)))
  (he:∀ i:Int,¬ i<(a.length:Int)->step i=QZ (.inr<|.inl ())):QM (aB step 0) (· = if a=b then .inl () else .inr bad):=by
 refine QM.loop (λi=>0<=i/\i<=(a.length:Int)/\∀ j:Nat,(j:Int)<i->a[j]? = b[j]?) (λi=>((a.length:Int)-i).toNat) ⟨Int.le_refl _,by omega,λi hi=>absurd hi<|by omega⟩ λi ⟨h1,h2,h3⟩ => ?_
 by_cases h:i<(a.length:Int)
 ·refine (hs i h1 h).mono ?_
  grind
 rw [he i h];refine .pure ?_;show _=_;rw [if_pos];refine List.ext_getElem? λj=>?_
 grind
end
instance:DecidableEq QH:=λa b=>decidable_of_iff (a.Op=b.Op/\a.Loc=b.Loc/\a.Reg=b.Reg/\a.Val=b.Val) ⟨λ⟨h1,h2,h3,h4⟩=>by cases a;cases b;simp only at h1 h2 h3 h4;subst h1 h2 h3 h4;rfl,λh=>by subst h;exact ⟨rfl,rfl,rfl,rfl⟩⟩
section
variable {p:List (List QH)}
def base (p:List<|List QH) (t k:Nat):Nat:=(evP p t).length+(evR t (p.getD t QW) k).length
theorem MK (t:Nat) (row:List QH):∀ {n m:Nat},n<=m->evR t row n <+: evR t row m:=by
 intro n m h
 induction h with
 | refl=>simp_all
 | step _ ih=>exact ih.trans (List.prefix_append _ _)
theorem F3 (p:List<|List QH):∀ {n m:Nat},n<=m->evP p n <+: evP p m:=by
 intro n m h
 induction h with
 | refl=>simp_all
 | step _ ih=>exact ih.trans (List.prefix_append _ _)
theorem GZ {l m:List QJ} (h:l <+: m) {i:Nat} (hi:i<l.length):m.getD i QW=l.getD i QW/\i<m.length:=by
 obtain ⟨r,rfl⟩:=h
 grind
theorem Oo {t k:Nat} (ht:t<p.length) (hk:k<(p.getD t QW).length) (ho : ¬ ((p.getD t QW).getD k QW).Op=4) :
  (evs p).getD (base p t k) QW=⟨t,k,((p.getD t QW).getD k QW).Loc,rdX<|(p.getD t QW).getD k QW,wrX<|(p.getD t QW).getD k QW⟩/\base p t k<(evs p).length:=by
 have h1:evP p t++(evR t (p.getD t QW) k++[⟨t,k,((p.getD t QW).getD k QW).Loc,rdX<|(p.getD t QW).getD k QW,wrX<|(p.getD t QW).getD k QW⟩]) <+: evs p:=by
  refine TU ?_<|F3 p (show t+1<=p.length by omega);refine (List.prefix_append_right_inj _).2 ?_;refine TU ?_<|MK t (p.getD t QW) (show k+1<=(p.getD t QW).length by omega);show _ <+: evR t (p.getD t QW) k++evX t k ((p.getD t QW).getD k QW);unfold evX;rw [if_neg ho];exact List.prefix_refl _
 obtain ⟨e1,e2⟩:=GZ h1 (i:=base p t k) (by simp only [base,lla,TT];omega);refine ⟨e1.trans ?_,e2⟩;rw [gdq,base,gar (by omega),Nat.add_sub_cancel_left,gar (by omega),Nat.sub_self]
 rfl
def KY (p:List<|List QH) (t k:Nat):LI:=if ((p.getD t QW).getD k QW).Op=4 then [] else [(base p t k:Int)]
def sTh (s:LI) (j:Nat):Nat:=(s.getD j QW).toNat
def stK (s:LI) (j:Nat):Nat:=(s.take j).count<|s.getD j QW
def ML (p:List<|List QH) (s:LI):Nat->LI
 | 0=>[]
 | n+1=>ML p s n++KY p (sTh s n) (stK s n)
theorem jT {p:List (List QH)} (h:Vs p):(evs p).length<=24:=by
 have h1:=FZ h p.length;have h2:=h.1;unfold evs;omega
end
section
variable {p:List (List QH)}
theorem KZ (l:LL) (i:Nat):l.getD i QW=l.getD i []:=rfl
theorem Jo {l:LL} {i j:Nat} {v:LI} (hi:i<l.length):(l.set i v).getD j []=if j=i then v else l.getD j []:=by
 grind
abbrev XS:=List Int×LL
def stX (p:List<|List QH) (st:XS) (n:Int):XS:=
  (if ((evs p).getD n.toNat QW).Reads=QX then st.1.set n.toNat ((st.2.getD ((evs p).getD n.toNat QW).Loc.toNat []).getD (((st.2.getD ((evs p).getD n.toNat QW).Loc.toNat []).length:Int)-1).toNat QW) else st.1,
   st.2.set ((evs p).getD n.toNat QW).Loc.toNat (if ((evs p).getD n.toNat QW).aH=QX then st.2.getD ((evs p).getD n.toNat QW).Loc.toNat []++[n] else st.2.getD ((evs p).getD n.toNat QW).Loc.toNat []))
def x0 (p:List<|List QH):XS:=(TJ (evs p).length<|-1,[[0],[1],[2]])
def Qp (p:List<|List QH) (l:LI):XS:=l.foldl (stX p)<|x0 p
def OkN (p:List<|List QH) (n:Int):Prop:=(0<=n/\n<((evs p).length:Int))/\0<=((evs p).getD n.toNat QW).Loc/\((evs p).getD n.toNat QW).Loc<=2
structure InX (p:List (List QH)) (m:Nat) (st:XS):Prop where
 f:st.1.length=(evs p).length
 o:st.2.length=3
 r:∀ i:Nat,i<3->1<=(st.2.getD i []).length/\(st.2.getD i []).length<=m+1
theorem InX.x0:InX p 0 (x0 p):=⟨by simp [YtabfkkjdfhbngaaGreatDoor.x0],rfl,λi hi=>by
 match i,hi with
 | 0,_=>exact ⟨TK 1,TK 1⟩
 | 1,_=>exact ⟨TK 1,TK 1⟩
 | 2,_=>exact ⟨TK 1,TK 1⟩⟩
theorem InX.step {m:Nat} {st:XS} {n:Int} (h:InX p m st) (hn:OkN p n):InX p (m+1) (stX p st n):=by
 obtain ⟨_,h2,h3⟩:=hn;unfold stX;refine ⟨?_,by simp only [List.length_set];exact h.o,λi hi=>?_⟩
 ·simp only []
  split
  ·rw [List.length_set];exact h.f
  exact h.f
 simp only [];rw [Jo (by rw [h.o];omega)];have hr:=h.r ((evs p).getD n.toNat QW).Loc.toNat (by omega);have hi':=h.r i hi
 grind
theorem InX.runs:∀ {l:LI} {m:Nat} {st:XS},InX p m st->(∀ n∈l,OkN p n)->InX p (m+l.length) (l.foldl (stX p) st)
 | [],_,_,h,_=>h
 | n::l,m,st,h,k=>by
  have := InX.runs (h.step<|k n<|List.mem_cons_self) λx hx=>k x<|List.mem_cons_of_mem _ hx
  grind
theorem InX.run {l:LI} (h:∀ n∈l,OkN p n):InX p l.length (Qp p l):=by
 have := InX.runs InX.x0 h
 rwa [Nat.zero_add] at this
theorem MM {s:LI} (hg:Good p s s.length) {j:Nat} (hj:j<s.length):sTh s j<p.length/\((sTh s j:Nat):Int)=s.getD j QW/\stK s j<(p.getD (sTh s j) QW).length:=by
 obtain ⟨g1,g2⟩:=hg j hj;unfold sTh stK;omega
end
theorem Ib {a b:LI} (h:a.length<=4000000):QM (dH a b) (· = Q3 (a=b)):=by
 unfold dH;refine .bif (λhn => .pure ?_) λhn=>?_
 ·grind
 have hl:a.length=b.length:=by
  have : (a.length:Int)=(b.length:Int):=by simpa using hn
  omega
 refine QM.sum (PS:=λ_=>a=b) (PW:=(· = Q3 (a=b))) ((Om hl (bad:=false) (λi h1 h2=>?_) λi hi=>?_).mono λv hv=>?_) λ_ e => .pure (decide_eq_true e).symm
 ·unfold fe J;refine .bifD (λ_ => .gdD ⟨h1,h2⟩<|.gdD ⟨h1,by omega⟩<|.bif (λhb => .pure ?_) λhb => .gdI (by omega)<|.pure ?_) λh=>absurd h2 h
  ·rw [if_neg (by simpa using hb)]
  rw [if_pos (by simpa using hb)]
 ·unfold fe J;rw [decide_eq_false hi]
  rfl
 grind
def same (a b:QI):Bool:=Q3 (a.From=b.From)&&Q3 (a.Order=b.Order)
end
end Go.Proofs.YtabfkkjdfhbngaaGreatDoor
