/- Texts joined. No conditions. -/
import Derived.Test.YtlmjnhnpahicmaaGreatProg
import Derived.Test.YtlmjnhnpahicmaaGreatW9
namespace Go.Proofs.YtlmjnhnpahicmaaGreat
noncomputable section
open Go.RowKit
set_option maxRecDepth 100000
def fo:Option (List ByteArray):= some ([(⟨#[120,61,49,59,97,61,121,124,121,61,49,59,97,61,120]⟩:ByteArray),(⟨#[120,61,49,59,102,101,110,99,101,59,97,61,121,124,121,61,49,59,102,101,110,99,101,59,97,61,120]⟩:ByteArray),(⟨#[120,61,49,59,121,61,49,124,97,61,121,59,98,61,120]⟩:ByteArray),(⟨#[120,61,49,59,121,61,49,124,97,61,121,59,102,101,110,99,101,59,98,61,120]⟩:ByteArray),(⟨#[120,61,49,59,102,101,110,99,101,59,121,61,49,124,97,61,121,59,98,61,120]⟩:ByteArray),(⟨#[97,61,120,59,121,61,49,124,97,61,121,59,120,61,49]⟩:ByteArray),(⟨#[97,61,120,59,121,61,97,124,97,61,121,59,120,61,97]⟩:ByteArray),(⟨#[120,61,49,124,120,61,50,124,97,61,120,59,98,61,120]⟩:ByteArray),(⟨#[120,61,49,124,121,61,49,124,97,61,120,59,98,61,121,124,97,61,121,59,98,61,120]⟩:ByteArray),(⟨#[120,61,49,124,97,61,120,59,121,61,49,124,97,61,121,59,98,61,120]⟩:ByteArray),(⟨#[120,61,49,124,121,61,49,124,97,61,120,59,98,61,121]⟩:ByteArray),(⟨#[97,61,120,58,49,124,97,61,120,58,50,124,120,61,51]⟩:ByteArray),(⟨#[120,61,49,59,97,61,120,59,98,61,121,124,121,61,49,59,97,61,121,59,98,61,120]⟩:ByteArray),(⟨#[120,61,50,59,121,61,49,124,121,61,50,59,120,61,49]⟩:ByteArray),(⟨#[97,61,120,58,49,59,98,61,121,124,97,61,121,58,49,59,98,61,120]⟩:ByteArray),(⟨#[120,61,49,59,120,61,50,124,97,61,120,59,98,61,120]⟩:ByteArray),(⟨#[120,61,49,59,121,61,49,59,97,61,122,124,122,61,49,59,97,61,121,59,98,61,120]⟩:ByteArray),(⟨#[97,61,120,58,49,124,98,61,120,58,49]⟩:ByteArray),(⟨#[102,101,110,99,101]⟩:ByteArray),(⟨#[]⟩:ByteArray),(⟨#[120,61,49,59,97,61,121,124,121,61,49,59,102,101,110,99,101,59,97,61,120]⟩:ByteArray)]:List ByteArray)
def ig (s:ByteArray) (c:Int):((List ByteArray)×Int×Int)->Option (((List ByteArray)×Int×Int) ⊕ (List ByteArray)):=fun s5=>bif decide (s5.2.1<=(s.size:Int)) then Option.bind (Option.bind (bif (s5.2.1==(s.size:Int)) then some true else gd (decide (0<=s5.2.1/\s5.2.1<(s.size:Int))) <|some (((s.data.getD s5.2.1.toNat 0).toNat:Int)==c)) fun s10=>bif s10 then gd (decide (0<=s5.2.2/\s5.2.2<=s5.2.1/\s5.2.1<=(s.size:Int))) <|gd (aS (s5.1.length+1) 16) <|gd (L8 .i64 (s5.2.1+(1:Int))) <|some ((s5.1++[(s.extract s5.2.2.toNat s5.2.1.toNat)]),(s5.2.1+(1:Int))) else some (s5.1,s5.2.2)) fun s9=>gd (L8 .i64 (s5.2.1+(1:Int))) <|some (.inl (s9.1,(s5.2.1+(1:Int)),s9.2)) else some (.inr s5.1)
def jg (s:ByteArray) (c:Int):Option (List ByteArray):= Option.bind (loopO (ig s c) (([]:List ByteArray),(0:Int),(0:Int))) fun s1=>some s1
def bv (s:ByteArray) (at_:Int) (from_:Int) (most:Int):Option Int:= Option.bind (bif decide ((s.size:Int)<=at_) then some true else gd (decide (0<=at_/\at_<(s.size:Int))) <|some (decide (((s.data.getD at_.toNat 0).toNat:Int)<from_))) fun s1=>Option.bind (bif s1 then some true else gd (decide (0<=at_/\at_<(s.size:Int))) <|gd (L8 .u8 (((s.data.getD at_.toNat 0).toNat:Int)-from_)) <|gd (L8 .i64 (((s.data.getD at_.toNat 0).toNat:Int)-from_)) <|some (decide (most<(((s.data.getD at_.toNat 0).toNat:Int)-from_)))) fun s4=>bif s4 then some (-1:Int) else gd (decide (0<=at_/\at_<(s.size:Int))) <|gd (L8 .u8 (((s.data.getD at_.toNat 0).toNat:Int)-from_)) <|gd (L8 .i64 (((s.data.getD at_.toNat 0).toNat:Int)-from_)) <|some (((s.data.getD at_.toNat 0).toNat:Int)-from_)
def jN (s:ByteArray):Option Ma:= bif decide (s=(⟨#[102,101,110,99,101]⟩:ByteArray)) then some (⟨(4:Int),(0:Int),(0:Int),(0:Int)⟩:Ma) else Option.bind (bv s (0:Int) (97:Int) (2:Int)) fun v2=>Option.bind (bv s (0:Int) (120:Int) (2:Int)) fun v3=>Option.bind (bif decide ((0:Int)<=v2) then some ((s.size:Int)==(3:Int)) else some false) fun s4=>bif s4 then Option.bind (bv s (2:Int) (120:Int) (2:Int)) fun v7=>some (⟨(1:Int),v7,v2,(0:Int)⟩:Ma) else Option.bind (bif decide ((0:Int)<=v2) then some ((s.size:Int)==(5:Int)) else some false) fun s8=>bif s8 then Option.bind (bv s (2:Int) (120:Int) (2:Int)) fun v11=>Option.bind (bv s (4:Int) (48:Int) (3:Int)) fun v12=>some (⟨(5:Int),v11,v2,v12⟩:Ma) else Option.bind (bif decide ((0:Int)<=v3) then Option.bind (bv s (2:Int) (97:Int) (2:Int)) fun v15=>some (decide ((0:Int)<=v15)) else some false) fun s13=>bif s13 then Option.bind (bv s (2:Int) (97:Int) (2:Int)) fun v17=>some (⟨(3:Int),v3,v17,(0:Int)⟩:Ma) else Option.bind (bv s (2:Int) (48:Int) (3:Int)) fun v18=>some (⟨(2:Int),v3,(0:Int),v18⟩:Ma)
def fP (from_:Int) (n:Int):Option ByteArray:= gd (L8 .u8 n) <|gd (L8 .u8 (from_+n)) <|some (strOfNums ([(from_+n)]:LI))
def mG:(ByteArray×Int)->Option ((ByteArray×Int) ⊕ (ByteArray×Int)):=fun s9=>bif decide ((9:Int)<s9.2) then gd (decide ((10:Int)≠0)) <|gd (L8 .i64 ((48:Int)+(s9.2.tmod (10:Int)))) <|gd (L8 .u8 ((48:Int)+(s9.2.tmod (10:Int)))) <|gd (decide ((strOfNums ([((48:Int)+(s9.2.tmod (10:Int)))]:LI)).size+s9.1.size<=9223372036854775807)) <|gd (L8 .i64 (s9.2.tdiv (10:Int))) <|some (.inl (((strOfNums ([((48:Int)+(s9.2.tmod (10:Int)))]:LI))++s9.1),(s9.2.tdiv (10:Int)))) else some (.inr (s9.1,s9.2))
def jh (rcf:Int->Option ByteArray) (n:Int):Option ByteArray:= bif decide (n<(-9223372036854775807:Int)) then some (⟨#[45,57,50,50,51,51,55,50,48,51,54,56,53,52,55,55,53,56,48,56]⟩:ByteArray) else bif decide (n<(0:Int)) then gd (L8 .i64 (0-n)) <|Option.bind (rcf (0-n)) fun v4=>gd (decide ((⟨#[45]⟩:ByteArray).size+v4.size<=9223372036854775807)) <|some ((⟨#[45]⟩:ByteArray)++v4) else Option.bind (loopO mG ((⟨#[]⟩:ByteArray),n)) fun s6=>gd (L8 .i64 ((48:Int)+s6.2)) <|gd (L8 .u8 ((48:Int)+s6.2)) <|gd (decide ((strOfNums ([((48:Int)+s6.2)]:LI)).size+s6.1.size<=9223372036854775807)) <|some ((strOfNums ([((48:Int)+s6.2)]:LI))++s6.1)
def fQ:Nat->Int->Option ByteArray
 | 0=>fun _=>none
 | n+1=>jh (fQ n)
def kN (n:Int):Option ByteArray:=Ey fun nf=>fQ nf n
def kO (x:Ma):Option ByteArray:= Option.bind (fP (120:Int) x.Loc) fun v1=>Option.bind (fP (97:Int) x.Reg) fun v2=>bif (x.Op==(1:Int)) then gd (decide (v2.size+(⟨#[61]⟩:ByteArray).size<=9223372036854775807)) <|gd (decide ((v2++(⟨#[61]⟩:ByteArray)).size+v1.size<=9223372036854775807)) <|some ((v2++(⟨#[61]⟩:ByteArray))++v1) else bif (x.Op==(2:Int)) then gd (decide (v1.size+(⟨#[61]⟩:ByteArray).size<=9223372036854775807)) <|Option.bind (kN x.Val) fun v8=>gd (decide ((v1++(⟨#[61]⟩:ByteArray)).size+v8.size<=9223372036854775807)) <|some ((v1++(⟨#[61]⟩:ByteArray))++v8) else bif (x.Op==(3:Int)) then gd (decide (v1.size+(⟨#[61]⟩:ByteArray).size<=9223372036854775807)) <|gd (decide ((v1++(⟨#[61]⟩:ByteArray)).size+v2.size<=9223372036854775807)) <|some ((v1++(⟨#[61]⟩:ByteArray))++v2) else bif (x.Op==(5:Int)) then gd (decide (v2.size+(⟨#[61]⟩:ByteArray).size<=9223372036854775807)) <|gd (decide ((v2++(⟨#[61]⟩:ByteArray)).size+v1.size<=9223372036854775807)) <|gd (decide (((v2++(⟨#[61]⟩:ByteArray))++v1).size+(⟨#[58]⟩:ByteArray).size<=9223372036854775807)) <|Option.bind (kN x.Val) fun v17=>gd (decide ((((v2++(⟨#[61]⟩:ByteArray))++v1)++(⟨#[58]⟩:ByteArray)).size+v17.size<=9223372036854775807)) <|some ((((v2++(⟨#[61]⟩:ByteArray))++v1)++(⟨#[58]⟩:ByteArray))++v17) else some (⟨#[102,101,110,99,101]⟩:ByteArray)
def gD (p:List (List Ma)) (s4:Int×ByteArray):(Int×ByteArray)->Option ((Int×ByteArray) ⊕ ByteArray):=fun s13=>gd (decide (0<=s4.1/\s4.1<(p.length:Int))) <|bif decide (s13.1<((p.getD s4.1.toNat default).length:Int)) then Option.bind (bif decide ((0:Int)<s13.1) then gd (decide (s13.2.size+(⟨#[59]⟩:ByteArray).size<=9223372036854775807)) <|some (s13.2++(⟨#[59]⟩:ByteArray)) else some s13.2) fun s17=>gd (decide (0<=s13.1/\s13.1<((p.getD s4.1.toNat default).length:Int))) <|Option.bind (kO ((p.getD s4.1.toNat default).getD s13.1.toNat default)) fun v21=>gd (decide (s17.size+v21.size<=9223372036854775807)) <|gd (L8 .i64 (s13.1+(1:Int))) <|some (.inl ((s13.1+(1:Int)),(s17++v21))) else some (.inr s13.2)
def iC (p:List (List Ma)):(Int×ByteArray)->Option ((Int×ByteArray) ⊕ ByteArray):=fun s4=>bif decide (s4.1<(p.length:Int)) then Option.bind (Option.bind (bif decide ((0:Int)<s4.1) then gd (decide (s4.2.size+(⟨#[124]⟩:ByteArray).size<=9223372036854775807)) <|some (s4.2++(⟨#[124]⟩:ByteArray)) else some s4.2) fun s8=>loopO (gD p s4) ((0:Int),s8)) fun s7=>gd (L8 .i64 (s4.1+(1:Int))) <|some (.inl ((s4.1+(1:Int)),s7)) else some (.inr s4.2)
def ij (p:List (List Ma)):Option ByteArray:= Option.bind (loopO (iC p) ((0:Int),(⟨#[]⟩:ByteArray))) fun s1=>some s1
def bT (v1:(List ByteArray)) (s6:(List (List Ma))×Int) (v14:(List ByteArray)):((List Ma)×Int)->Option (((List Ma)×Int) ⊕ (List Ma)):=fun s19=>Option.bind (bif decide (s19.2<(v14.length:Int)) then some (decide (s19.2<=(7:Int))) else some false) fun s22=>Option.bind (bif s22 then some (!decide ((v1.getD s6.2.toNat default)=(⟨#[]⟩:ByteArray))) else some false) fun s24=>bif s24 then gd (decide (0<=s19.2/\s19.2<(v14.length:Int))) <|Option.bind (jN (v14.getD s19.2.toNat default)) fun v28=>gd (aS (s19.1.length+1) 32) <|gd (L8 .i64 (s19.2+(1:Int))) <|some (.inl ((s19.1++[v28]),(s19.2+(1:Int)))) else some (.inr s19.1)
def cH (v1:(List ByteArray)):((List (List Ma))×Int)->Option (((List (List Ma))×Int) ⊕ (List (List Ma))):=fun s6=>Option.bind (bif decide (s6.2<(v1.length:Int)) then some (decide (s6.2<=(3:Int))) else some false) fun s9=>bif s9 then Option.bind (gd (decide (0<=s6.2/\s6.2<(v1.length:Int))) <|Option.bind (jg (v1.getD s6.2.toNat default) (59:Int)) fun v14=>Option.bind (loopO (bT v1 s6 v14) (([]:List Ma),(0:Int))) fun s15=>gd (aS (s6.1.length+1) 24) <|some (s6.1++[s15])) fun s12=>gd (L8 .i64 (s6.2+(1:Int))) <|some (.inl (s12,(s6.2+(1:Int)))) else some (.inr s6.1)
def aY (text:ByteArray):Option ((List (List Ma))×Bool):= Option.bind (jg text (124:Int)) fun v1=>Option.bind (loopO (cH v1) (([]:List (List Ma)),(0:Int))) fun s2=>Option.bind (aV s2) fun v36=>Option.bind (bif !v36 then some true else Option.bind (ij s2) fun v39=>some (!decide (v39=text))) fun s37=>bif s37 then some (([]:List (List Ma)),false) else some (s2,true)
def gM (r_:ae):Option (ae×Ma):= Option.bind (aA (⟨r_.b,r_.p⟩:ae) (2:Int)) fun v1=>Option.bind (aA (⟨v1.1.b,v1.1.p⟩:ae) (7:Int)) fun v2=>bif (v2.2==(0:Int)) then some ((⟨v2.1.b,v2.1.p⟩:ae),(⟨(4:Int),(0:Int),(0:Int),(0:Int)⟩:Ma)) else bif (v2.2==(1:Int)) then Option.bind (aA (⟨v2.1.b,v2.1.p⟩:ae) (2:Int)) fun v5=>some ((⟨v5.1.b,v5.1.p⟩:ae),(⟨(3:Int),v1.2,v5.2,(0:Int)⟩:Ma)) else bif (v2.2==(2:Int)) then Option.bind (aA (⟨v2.1.b,v2.1.p⟩:ae) (2:Int)) fun v7=>Option.bind (aA (⟨v7.1.b,v7.1.p⟩:ae) (3:Int)) fun v8=>gd (L8 .i64 ((1:Int)+v8.2)) <|some ((⟨v8.1.b,v8.1.p⟩:ae),(⟨(5:Int),v1.2,v7.2,((1:Int)+v8.2)⟩:Ma)) else Option.bind (bif (v2.2==(3:Int)) then some (v2.2==(3:Int)) else some (v2.2==(4:Int))) fun s10=>bif s10 then Option.bind (aA (⟨v2.1.b,v2.1.p⟩:ae) (3:Int)) fun v13=>gd (L8 .i64 ((1:Int)+v13.2)) <|some ((⟨v13.1.b,v13.1.p⟩:ae),(⟨(2:Int),v1.2,(0:Int),((1:Int)+v13.2)⟩:Ma)) else Option.bind (aA (⟨v2.1.b,v2.1.p⟩:ae) (2:Int)) fun v15=>some ((⟨v15.1.b,v15.1.p⟩:ae),(⟨(1:Int),v1.2,v15.2,(0:Int)⟩:Ma))
def gp:((LI)×Int×(List Ma)×Int)->Option (((LI)×Int×(List Ma)×Int) ⊕ ((LI)×Int×(List Ma))):=fun s24=>bif decide ((0:Int)<s24.2.2.2) then Option.bind (gM (⟨s24.1,s24.2.1⟩:ae)) fun v28=>gd (aS (s24.2.2.1.length+1) 32) <|gd (L8 .i64 (s24.2.2.2-(1:Int))) <|some (.inl (v28.1.b,v28.1.p,(s24.2.2.1++[v28.2]),(s24.2.2.2-(1:Int)))) else some (.inr (s24.1,s24.2.1,s24.2.2.1))
def gq:((LI)×Int×(List (List Ma))×Int)->Option (((LI)×Int×(List (List Ma))×Int) ⊕ ((LI)×Int×(List (List Ma)))):=fun s14=>bif decide ((0:Int)<s14.2.2.2) then Option.bind (Option.bind (Option.bind (bz (⟨s14.1,s14.2.1⟩:ae) ([(2:Int),(1:Int),(3:Int),(2:Int),(0:Int)]:LI)) fun v20=>loopO gp (v20.1.b,v20.1.p,([]:List Ma),v20.2)) fun s19=>gd (aS (s14.2.2.1.length+1) 24) <|some (s19.1,s19.2.1,(s14.2.2.1++[s19.2.2]))) fun s18=>gd (L8 .i64 (s14.2.2.2-(1:Int))) <|some (.inl (s18.1,s18.2.1,s18.2.2,(s14.2.2.2-(1:Int)))) else some (.inr (s14.1,s14.2.1,s14.2.2.1))
def kP (r_:ae):Option (ae×(List (List Ma))):= Option.bind (fo) fun v1=>sumK (Option.bind (aA (⟨r_.b,r_.p⟩:ae) (3:Int)) fun v3=>bif decide ((0:Int)<v3.2) then Option.bind (aA (⟨v3.1.b,v3.1.p⟩:ae) (v1.length:Int)) fun v5=>gd (decide (0<=v5.2/\v5.2<(v1.length:Int))) <|Option.bind (aY (v1.getD v5.2.toNat default)) fun v7=>bif v7.2 then some (.inr ((⟨v5.1.b,v5.1.p⟩:ae),v7.1)) else some (.inl (v5.1.b,v5.1.p)) else some (.inl (v3.1.b,v3.1.p))) fun s2=>Option.bind (Option.bind (bz (⟨s2.1,s2.2⟩:ae) ([(2:Int),(3:Int),(1:Int)]:LI)) fun v10=>loopO gq (v10.1.b,v10.1.p,([]:List (List Ma)),v10.2)) fun s9=>Option.bind (aV s9.2.2) fun v36=>bif v36 then some ((⟨s9.1,s9.2.1⟩:ae),s9.2.2) else Option.bind (gM (⟨s9.1,s9.2.1⟩:ae)) fun v38=>some ((⟨v38.1.b,v38.1.p⟩:ae),([([v38.2]:List Ma)]:List (List Ma)))
def lQ (p:List (List Ma)) (loc:Int) (writes:Bool) (s4:Int×Int):(Int×Int)->Option ((Int×Int) ⊕ Int):=fun s10=>gd (decide (0<=s4.1/\s4.1<(p.length:Int))) <|bif decide (s10.1<((p.getD s4.1.toNat default).length:Int)) then Option.bind (gd (decide (0<=s10.1/\s10.1<((p.getD s4.1.toNat default).length:Int))) <|Option.bind (bif ((((p.getD s4.1.toNat default).getD s10.1.toNat default).Loc)==loc) then Option.bind (bif writes then Option.bind (bZ (⟨((p.getD s4.1.toNat default).getD s10.1.toNat default).Op,((p.getD s4.1.toNat default).getD s10.1.toNat default).Loc,((p.getD s4.1.toNat default).getD s10.1.toNat default).Reg,((p.getD s4.1.toNat default).getD s10.1.toNat default).Val⟩:Ma)) fun v20=>some v20 else some false) fun s18=>Option.bind (bif s18 then some true else Option.bind (bif !writes then Option.bind (dF (⟨((p.getD s4.1.toNat default).getD s10.1.toNat default).Op,((p.getD s4.1.toNat default).getD s10.1.toNat default).Loc,((p.getD s4.1.toNat default).getD s10.1.toNat default).Reg,((p.getD s4.1.toNat default).getD s10.1.toNat default).Val⟩:Ma)) fun v25=>some v25 else some false) fun s23=>some s23) fun s21=>some s21 else some false) fun s16=>bif s16 then gd (L8 .i64 (s10.2+(1:Int))) <|some (s10.2+(1:Int)) else some s10.2) fun s14=>gd (L8 .i64 (s10.1+(1:Int))) <|some (.inl ((s10.1+(1:Int)),s14)) else some (.inr s10.2)
def mH (p:List (List Ma)) (loc:Int) (writes:Bool):(Int×Int)->Option ((Int×Int) ⊕ Int):=fun s4=>bif decide (s4.1<(p.length:Int)) then Option.bind (loopO (lQ p loc writes s4) ((0:Int),s4.2)) fun s7=>gd (L8 .i64 (s4.1+(1:Int))) <|some (.inl ((s4.1+(1:Int)),s7)) else some (.inr s4.2)
def gP (p:List (List Ma)) (loc:Int) (writes:Bool):Option Int:= Option.bind (loopO (mH p loc writes) ((0:Int),(0:Int))) fun s1=>some s1
def lS (p:List (List Ma)) (most:Int) (s4:Int×Int) (v8:Int):(Int×Int)->Option ((Int×Int) ⊕ Int):=fun s12=>Option.bind (gP p s4.1 false) fun v14=>Option.bind (bif decide (s12.1<v14) then some (decide (s12.2<=most)) else some false) fun s15=>bif s15 then gd (L8 .i64 (v8+(1:Int))) <|gd (L8 .i64 (s12.2*(v8+(1:Int)))) <|gd (L8 .i64 (s12.1+(1:Int))) <|some (.inl ((s12.1+(1:Int)),(s12.2*(v8+(1:Int))))) else some (.inr s12.2)
def lT (most:Int) (v8:Int):(Int×Int)->Option ((Int×Int) ⊕ Int):=fun s23=>Option.bind (bif decide (s23.1<=v8) then some (decide (s23.2<=most)) else some false) fun s25=>bif s25 then gd (L8 .i64 (s23.2*s23.1)) <|gd (L8 .i64 (s23.1+(1:Int))) <|some (.inl ((s23.1+(1:Int)),(s23.2*s23.1))) else some (.inr s23.2)
def mI (p:List (List Ma)) (most:Int):(Int×Int)->Option ((Int×Int) ⊕ Int):=fun s4=>bif decide (s4.1<=(2:Int)) then Option.bind (Option.bind (gP p s4.1 true) fun v8=>Option.bind (loopO (lS p most s4 v8) ((0:Int),s4.2)) fun s9=>loopO (lT most v8) ((2:Int),s9)) fun s7=>gd (L8 .i64 (s4.1+(1:Int))) <|some (.inl ((s4.1+(1:Int)),s7)) else some (.inr s4.2)
def jO (p:List (List Ma)) (most:Int):Option Int:= Option.bind (loopO (mI p most) ((0:Int),(1:Int))) fun s1=>bif decide (most<s1) then gd (L8 .i64 (most+(1:Int))) <|some (most+(1:Int)) else some s1
def jP (r_:ae):Option (ae×(List (List Ma))):= Option.bind (kP (⟨r_.b,r_.p⟩:ae)) fun v1=>Option.bind (jO v1.2 (200:Int)) fun v2=>bif decide (v2<=(200:Int)) then some ((⟨v1.1.b,v1.1.p⟩:ae),v1.2) else Option.bind (aY (⟨#[120,61,49,59,97,61,121,124,121,61,49,59,97,61,120]⟩:ByteArray)) fun v4=>some ((⟨v1.1.b,v1.1.p⟩:ae),v4.1)
def Le {α:Type} (a b:Option α):Prop:=∀ q,a=some q->b=some q
theorem Le.refl {α:Type} (a:Option α):Le a a:=fun _ h=>h
theorem Le.bind {α β:Type} {a b:Option α} {k l:α->Option β} (h:Le a b) (hk:∀ x,Le (k x) (l x)):Le (a.bind k) (b.bind l):=fun q hq=>by
 obtain ⟨x,h1,h2⟩:=Option.bind_eq_some_iff.1 hq;exact Option.bind_eq_some_iff.2 ⟨x,h x h1,hk x q h2⟩
theorem Le.gd {α:Type} {a b:Option α} (c:Bool) (h:Le a b):Le (gd c a) (gd c b):=fun q hq=>by
 obtain ⟨h1,h2⟩:=gdL hq;rw [kV h1];exact h q h2
theorem Le.bif {α:Type} {a b a' b':Option α} (c:Bool) (h:Le a a') (h':Le b b'):Le (bif c then a else b) (bif c then a' else b'):=by
 cases c
 ·exact h'
 ·exact h
theorem Le.ifc {α:Type} {a b a' b':Option α} (c:Prop) [Decidable c] (h:Le a a') (h':Le b b'):Le (if c then a else b) (if c then a' else b'):=by
 split
 ·exact h
 ·exact h'
theorem Le.sumK {S W:Type} {a b:Option (S ⊕ W)} {k l:S->Option W} (h:Le a b) (hk:∀ x,Le (k x) (l x)):Le (sumK a k) (sumK b l):=fun q hq=>by
 cases a with
 | none=>cases hq
 | some z=>
  rw [h z rfl]
  cases z with
  | inl s=>exact hk s q hq
  | inr w=>exact hq
def vS {S E:Type} (n:Nat) (step:S->Option (S ⊕ E)) (s:S):Option E:=
 Nat.rec (motive:=fun _=>S->Option E) (fun _=>none) (fun _ ih s=>match step s with
  | none=>none
  | some (.inl s')=>ih s'
  | some (.inr e)=>some e) n s
theorem Le.loop {S E:Type} {n:Nat} {step step':S->Option (S ⊕ E)} (h:∀ s,Le (step s) (step' s)) (s:S):Le (vS n step s) (loopO step' s):=by
 induction n generalizing s with
 | zero=>intro q hq;cases hq
 | succ n ih=>
  intro q hq;rw [pq]
  change (match step s with
   | none=>none
   | some (.inl s')=>vS n step s'
   | some (.inr e)=>some e)=some q at hq
  match hs:step s with
  | none=>rw [hs] at hq;cases hq
  | some (.inl s')=>
   rw [hs] at hq;rw [h s _ hs];exact ih s' q hq
  | some (.inr e)=>
   rw [hs] at hq;rw [h s _ hs];exact hq
def Li {α:Type} (e:Bool) (_ b:Option α):Option α:=bif e then none else b
theorem Le.nilK {α:Type} {e:Bool} {a b a' b':Option α} (_:Le a a') (h:Le b b'):Le (Li e a b) (nilK e a' b'):=fun q hq=>by
 cases e with
 | true=>cases hq
 | false=>
  unfold Go.Proofs.YtlmjnhnpahicmaaGreat.nilK;exact h q hq
def kQ (n:Int):Option ByteArray:=bif decide (0<=n/\n<=9) then some (strOfNums ([((48:Int)+n)]:LI)++(⟨#[]⟩:ByteArray)) else none
theorem strOfNums_size (l:LI):(strOfNums l).size=l.length:=by
 simp [strOfNums,ByteArray.size]
theorem tX (n:Int):Le (kQ n) (kN n):=by
 intro v h;unfold kQ at h
 by_cases hn:0<=n/\n<=9
 ·rw [decide_eq_true hn] at h;obtain rfl:=osl h;refine ym 1 fun k hk=>?_
  match k,hk with
  | k+1,_=>
   show jh (fQ k) n=_;refine Mg.eq ?_;unfold jh;refine .bifD (fun h=>by omega) fun _ => .bifD (fun h=>by omega) fun _=>?_;refine Mg.bind (P:=(· = ((⟨#[]⟩:ByteArray),n))) ?_ fun s hs=>?_
   ·refine Mg.loop (fun s=>s=((⟨#[]⟩:ByteArray),n)) (fun _=>0) rfl fun s hs=>?_;subst hs;unfold mG;exact .bifD (fun h=>by simp only [] at h;omega) fun _ => .pure rfl
   ·subst hs;refine .gdI (by simp only [];omega) (.gdY (by simp only [];omega) (.gdD ?_ (.pure rfl)));rw [strOfNums_size];exact nlb rfl
 ·rw [decide_eq_false hn] at h
  cases h
def kE (s:ByteArray) (c:Int):((List ByteArray)×Int×Int)->Option (((List ByteArray)×Int×Int) ⊕ (List ByteArray)):=fun s5=>
 bif decide (s5.2.1<=(s.size:Int)) then
  Option.bind (
   Option.bind (bif (s5.2.1==(s.size:Int)) then
    some true
   else
    gd (decide (0<=s5.2.1/\s5.2.1<(s.size:Int))) <|
    some (((s.data.getD s5.2.1.toNat 0).toNat:Int)==c)
   ) fun s10=>
   bif s10 then
    gd (decide (0<=s5.2.2/\s5.2.2<=s5.2.1/\s5.2.1<=(s.size:Int))) <|
    gd (aS (s5.1.length+1) 16) <|
    gd (L8 .i64 (s5.2.1+(1:Int))) <|
    some ((s5.1++[(s.extract s5.2.2.toNat s5.2.1.toNat)]),(s5.2.1+(1:Int)))
   else
    some (s5.1,s5.2.2)
  ) fun s9=>
  gd (L8 .i64 (s5.2.1+(1:Int))) <|
  some (.inl (s9.1,(s5.2.1+(1:Int)),s9.2))
 else
  some (.inr s5.1)
theorem ql (s:ByteArray) (c:Int) (sQ:_):Le (kE s c sQ) (ig s c sQ):=by
 unfold kE ig
 repeat' (first | with_reducible exact Le.refl _ | with_reducible refine Le.gd _ ?_ | with_reducible refine Le.bif _ ?_ ?_ | with_reducible refine Le.bind ?_ (fun _=>?_) | with_reducible refine Le.sumK ?_ (fun _=>?_) | with_reducible refine Le.loop (fun _=>?_) _ | with_reducible refine Le.nilK ?_ ?_ | with_reducible refine Le.ifc _ ?_ ?_)
def kR (s:ByteArray) (c:Int):Option (List ByteArray):=
 Option.bind (
  vS 40 (kE s c) (([]:List ByteArray),(0:Int),(0:Int))
 ) fun s1=>
 some s1
theorem nJ (s:ByteArray) (c:Int):Le (kR s c) (jg s c):=by
 unfold kR jg
 repeat' (first | with_reducible exact Le.refl _ | with_reducible exact ql .. | with_reducible refine Le.gd _ ?_ | with_reducible refine Le.bif _ ?_ ?_ | with_reducible refine Le.bind ?_ (fun _=>?_) | with_reducible refine Le.sumK ?_ (fun _=>?_) | with_reducible refine Le.loop (fun _=>?_) _ | with_reducible refine Le.nilK ?_ ?_ | with_reducible refine Le.ifc _ ?_ ?_)
def bF (s:ByteArray) (at_:Int) (from_:Int) (most:Int):Option Int:=
 Option.bind (bif decide ((s.size:Int)<=at_) then
  some true
 else
  gd (decide (0<=at_/\at_<(s.size:Int))) <|
  some (decide (((s.data.getD at_.toNat 0).toNat:Int)<from_))
 ) fun s1=>
 Option.bind (bif s1 then
  some true
 else
  gd (decide (0<=at_/\at_<(s.size:Int))) <|
  gd (L8 .u8 (((s.data.getD at_.toNat 0).toNat:Int)-from_)) <|
  gd (L8 .i64 (((s.data.getD at_.toNat 0).toNat:Int)-from_)) <|
  some (decide (most<(((s.data.getD at_.toNat 0).toNat:Int)-from_)))
 ) fun s4=>
 bif s4 then
  some (-1:Int)
 else
  gd (decide (0<=at_/\at_<(s.size:Int))) <|
  gd (L8 .u8 (((s.data.getD at_.toNat 0).toNat:Int)-from_)) <|
  gd (L8 .i64 (((s.data.getD at_.toNat 0).toNat:Int)-from_)) <|
  some (((s.data.getD at_.toNat 0).toNat:Int)-from_)
theorem sO (s:ByteArray) (at_:Int) (from_:Int) (most:Int):Le (bF s at_ from_ most) (bv s at_ from_ most):=by
 unfold bF bv
 repeat' (first | with_reducible exact Le.refl _ | with_reducible refine Le.gd _ ?_ | with_reducible refine Le.bif _ ?_ ?_ | with_reducible refine Le.bind ?_ (fun _=>?_) | with_reducible refine Le.sumK ?_ (fun _=>?_) | with_reducible refine Le.loop (fun _=>?_) _ | with_reducible refine Le.nilK ?_ ?_ | with_reducible refine Le.ifc _ ?_ ?_)
def l7 (s:ByteArray):Option Ma:=
 bif decide (s=(⟨#[102,101,110,99,101]⟩:ByteArray)) then
  some (⟨(4:Int),(0:Int),(0:Int),(0:Int)⟩:Ma)
 else
  Option.bind (bF s (0:Int) (97:Int) (2:Int)) fun v2=>
  Option.bind (bF s (0:Int) (120:Int) (2:Int)) fun v3=>
  Option.bind (bif decide ((0:Int)<=v2) then
   some ((s.size:Int)==(3:Int))
  else
   some false
  ) fun s4=>
  bif s4 then
   Option.bind (bF s (2:Int) (120:Int) (2:Int)) fun v7=>
   some (⟨(1:Int),v7,v2,(0:Int)⟩:Ma)
  else
   Option.bind (bif decide ((0:Int)<=v2) then
    some ((s.size:Int)==(5:Int))
   else
    some false
   ) fun s8=>
   bif s8 then
    Option.bind (bF s (2:Int) (120:Int) (2:Int)) fun v11=>
    Option.bind (bF s (4:Int) (48:Int) (3:Int)) fun v12=>
    some (⟨(5:Int),v11,v2,v12⟩:Ma)
   else
    Option.bind (bif decide ((0:Int)<=v3) then
     Option.bind (bF s (2:Int) (97:Int) (2:Int)) fun v15=>
     some (decide ((0:Int)<=v15))
    else
     some false
    ) fun s13=>
    bif s13 then
     Option.bind (bF s (2:Int) (97:Int) (2:Int)) fun v17=>
     some (⟨(3:Int),v3,v17,(0:Int)⟩:Ma)
    else
     Option.bind (bF s (2:Int) (48:Int) (3:Int)) fun v18=>
     some (⟨(2:Int),v3,(0:Int),v18⟩:Ma)
theorem sP (s:ByteArray):Le (l7 s) (jN s):=by
 unfold l7 jN
 repeat' (first | with_reducible exact Le.refl _ | with_reducible exact sO .. | with_reducible refine Le.gd _ ?_ | with_reducible refine Le.bif _ ?_ ?_ | with_reducible refine Le.bind ?_ (fun _=>?_) | with_reducible refine Le.sumK ?_ (fun _=>?_) | with_reducible refine Le.loop (fun _=>?_) _ | with_reducible refine Le.nilK ?_ ?_ | with_reducible refine Le.ifc _ ?_ ?_)
def eT (v1:(List ByteArray)) (s6:(List (List Ma))×Int) (v14:(List ByteArray)):((List Ma)×Int)->Option (((List Ma)×Int) ⊕ (List Ma)):=fun s19=>
 Option.bind (bif decide (s19.2<(v14.length:Int)) then
  some (decide (s19.2<=(7:Int)))
 else
  some false
 ) fun s22=>
 Option.bind (bif s22 then
  some (!decide ((v1.getD s6.2.toNat default)=(⟨#[]⟩:ByteArray)))
 else
  some false
 ) fun s24=>
 bif s24 then
  gd (decide (0<=s19.2/\s19.2<(v14.length:Int))) <|
  Option.bind (l7 (v14.getD s19.2.toNat default)) fun v28=>
  gd (aS (s19.1.length+1) 32) <|
  gd (L8 .i64 (s19.2+(1:Int))) <|
  some (.inl ((s19.1++[v28]),(s19.2+(1:Int))))
 else
  some (.inr s19.1)
theorem lD (v1:(List ByteArray)) (s6:(List (List Ma))×Int) (v14:(List ByteArray)) (sQ:_):Le (eT v1 s6 v14 sQ) (bT v1 s6 v14 sQ):=by
 unfold eT bT
 repeat' (first | with_reducible exact Le.refl _ | with_reducible exact sP .. | with_reducible refine Le.gd _ ?_ | with_reducible refine Le.bif _ ?_ ?_ | with_reducible refine Le.bind ?_ (fun _=>?_) | with_reducible refine Le.sumK ?_ (fun _=>?_) | with_reducible refine Le.loop (fun _=>?_) _ | with_reducible refine Le.nilK ?_ ?_ | with_reducible refine Le.ifc _ ?_ ?_)
def fq (v1:(List ByteArray)):((List (List Ma))×Int)->Option (((List (List Ma))×Int) ⊕ (List (List Ma))):=fun s6=>
 Option.bind (bif decide (s6.2<(v1.length:Int)) then
  some (decide (s6.2<=(3:Int)))
 else
  some false
 ) fun s9=>
 bif s9 then
  Option.bind (
   gd (decide (0<=s6.2/\s6.2<(v1.length:Int))) <|
   Option.bind (kR (v1.getD s6.2.toNat default) (59:Int)) fun v14=>
   Option.bind (
    vS 40 (eT v1 s6 v14) (([]:List Ma),(0:Int))
   ) fun s15=>
   gd (aS (s6.1.length+1) 24) <|
   some (s6.1++[s15])
  ) fun s12=>
  gd (L8 .i64 (s6.2+(1:Int))) <|
  some (.inl (s12,(s6.2+(1:Int))))
 else
  some (.inr s6.1)
theorem l8 (v1:(List ByteArray)) (sQ:_):Le (fq v1 sQ) (cH v1 sQ):=by
 unfold fq cH
 repeat' (first | with_reducible exact Le.refl _ | with_reducible exact nJ .. | with_reducible exact lD .. | with_reducible refine Le.gd _ ?_ | with_reducible refine Le.bif _ ?_ ?_ | with_reducible refine Le.bind ?_ (fun _=>?_) | with_reducible refine Le.sumK ?_ (fun _=>?_) | with_reducible refine Le.loop (fun _=>?_) _ | with_reducible refine Le.nilK ?_ ?_ | with_reducible refine Le.ifc _ ?_ ?_)
def ji (from_:Int) (n:Int):Option ByteArray:=
 gd (L8 .u8 n) <|
 gd (L8 .u8 (from_+n)) <|
 some (strOfNums ([(from_+n)]:LI))
theorem rz (from_:Int) (n:Int):Le (ji from_ n) (fP from_ n):=by
 unfold ji fP
 repeat' (first | with_reducible exact Le.refl _ | with_reducible refine Le.gd _ ?_ | with_reducible refine Le.bif _ ?_ ?_ | with_reducible refine Le.bind ?_ (fun _=>?_) | with_reducible refine Le.sumK ?_ (fun _=>?_) | with_reducible refine Le.loop (fun _=>?_) _ | with_reducible refine Le.nilK ?_ ?_ | with_reducible refine Le.ifc _ ?_ ?_)
def nu (x:Ma):Option ByteArray:=
 Option.bind (ji (120:Int) x.Loc) fun v1=>
 Option.bind (ji (97:Int) x.Reg) fun v2=>
 bif (x.Op==(1:Int)) then
  gd (decide (v2.size+(⟨#[61]⟩:ByteArray).size<=9223372036854775807)) <|
  gd (decide ((v2++(⟨#[61]⟩:ByteArray)).size+v1.size<=9223372036854775807)) <|
  some ((v2++(⟨#[61]⟩:ByteArray))++v1)
 else
  bif (x.Op==(2:Int)) then
   gd (decide (v1.size+(⟨#[61]⟩:ByteArray).size<=9223372036854775807)) <|
   Option.bind (kQ x.Val) fun v8=>
   gd (decide ((v1++(⟨#[61]⟩:ByteArray)).size+v8.size<=9223372036854775807)) <|
   some ((v1++(⟨#[61]⟩:ByteArray))++v8)
  else
   bif (x.Op==(3:Int)) then
    gd (decide (v1.size+(⟨#[61]⟩:ByteArray).size<=9223372036854775807)) <|
    gd (decide ((v1++(⟨#[61]⟩:ByteArray)).size+v2.size<=9223372036854775807)) <|
    some ((v1++(⟨#[61]⟩:ByteArray))++v2)
   else
    bif (x.Op==(5:Int)) then
     gd (decide (v2.size+(⟨#[61]⟩:ByteArray).size<=9223372036854775807)) <|
     gd (decide ((v2++(⟨#[61]⟩:ByteArray)).size+v1.size<=9223372036854775807)) <|
     gd (decide (((v2++(⟨#[61]⟩:ByteArray))++v1).size+(⟨#[58]⟩:ByteArray).size<=9223372036854775807)) <|
     Option.bind (kQ x.Val) fun v17=>
     gd (decide ((((v2++(⟨#[61]⟩:ByteArray))++v1)++(⟨#[58]⟩:ByteArray)).size+v17.size<=9223372036854775807)) <|
     some ((((v2++(⟨#[61]⟩:ByteArray))++v1)++(⟨#[58]⟩:ByteArray))++v17)
    else
     some (⟨#[102,101,110,99,101]⟩:ByteArray)
theorem tY (x:Ma):Le (nu x) (kO x):=by
 unfold nu kO
 repeat' (first | with_reducible exact Le.refl _ | with_reducible exact rz .. | with_reducible exact tX .. | with_reducible refine Le.gd _ ?_ | with_reducible refine Le.bif _ ?_ ?_ | with_reducible refine Le.bind ?_ (fun _=>?_) | with_reducible refine Le.sumK ?_ (fun _=>?_) | with_reducible refine Le.loop (fun _=>?_) _ | with_reducible refine Le.nilK ?_ ?_ | with_reducible refine Le.ifc _ ?_ ?_)
def gF (p:List (List Ma)) (s4:Int×ByteArray):(Int×ByteArray)->Option ((Int×ByteArray) ⊕ ByteArray):=fun s13=>
 gd (decide (0<=s4.1/\s4.1<(p.length:Int))) <|
 bif decide (s13.1<((p.getD s4.1.toNat default).length:Int)) then
  Option.bind (
   bif decide ((0:Int)<s13.1) then
    gd (decide (s13.2.size+(⟨#[59]⟩:ByteArray).size<=9223372036854775807)) <|
    some (s13.2++(⟨#[59]⟩:ByteArray))
   else
    some s13.2
  ) fun s17=>
  gd (decide (0<=s13.1/\s13.1<((p.getD s4.1.toNat default).length:Int))) <|
  Option.bind (nu ((p.getD s4.1.toNat default).getD s13.1.toNat default)) fun v21=>
  gd (decide (s17.size+v21.size<=9223372036854775807)) <|
  gd (L8 .i64 (s13.1+(1:Int))) <|
  some (.inl ((s13.1+(1:Int)),(s17++v21)))
 else
  some (.inr s13.2)
theorem ny (p:List (List Ma)) (s4:Int×ByteArray) (sQ:_):Le (gF p s4 sQ) (gD p s4 sQ):=by
 unfold gF gD
 repeat' (first | with_reducible exact Le.refl _ | with_reducible exact tY .. | with_reducible refine Le.gd _ ?_ | with_reducible refine Le.bif _ ?_ ?_ | with_reducible refine Le.bind ?_ (fun _=>?_) | with_reducible refine Le.sumK ?_ (fun _=>?_) | with_reducible refine Le.loop (fun _=>?_) _ | with_reducible refine Le.nilK ?_ ?_ | with_reducible refine Le.ifc _ ?_ ?_)
def iD (p:List (List Ma)):(Int×ByteArray)->Option ((Int×ByteArray) ⊕ ByteArray):=fun s4=>
 bif decide (s4.1<(p.length:Int)) then
  Option.bind (
   Option.bind (
    bif decide ((0:Int)<s4.1) then
     gd (decide (s4.2.size+(⟨#[124]⟩:ByteArray).size<=9223372036854775807)) <|
     some (s4.2++(⟨#[124]⟩:ByteArray))
    else
     some s4.2
   ) fun s8=>
   vS 40 (gF p s4) ((0:Int),s8)
  ) fun s7=>
  gd (L8 .i64 (s4.1+(1:Int))) <|
  some (.inl ((s4.1+(1:Int)),s7))
 else
  some (.inr s4.2)
theorem nR (p:List (List Ma)) (sQ:_):Le (iD p sQ) (iC p sQ):=by
 unfold iD iC
 repeat' (first | with_reducible exact Le.refl _ | with_reducible exact ny .. | with_reducible refine Le.gd _ ?_ | with_reducible refine Le.bif _ ?_ ?_ | with_reducible refine Le.bind ?_ (fun _=>?_) | with_reducible refine Le.sumK ?_ (fun _=>?_) | with_reducible refine Le.loop (fun _=>?_) _ | with_reducible refine Le.nilK ?_ ?_ | with_reducible refine Le.ifc _ ?_ ?_)
def kF (p:List (List Ma)):Option ByteArray:=
 Option.bind (
  vS 40 (iD p) ((0:Int),(⟨#[]⟩:ByteArray))
 ) fun s1=>
 some s1
theorem qm (p:List (List Ma)):Le (kF p) (ij p):=by
 unfold kF ij
 repeat' (first | with_reducible exact Le.refl _ | with_reducible exact nR .. | with_reducible refine Le.gd _ ?_ | with_reducible refine Le.bif _ ?_ ?_ | with_reducible refine Le.bind ?_ (fun _=>?_) | with_reducible refine Le.sumK ?_ (fun _=>?_) | with_reducible refine Le.loop (fun _=>?_) _ | with_reducible refine Le.nilK ?_ ?_ | with_reducible refine Le.ifc _ ?_ ?_)
def eU (text:ByteArray):Option ((List (List Ma))×Bool):=
 Option.bind (kR text (124:Int)) fun v1=>
 Option.bind (
  vS 40 (fq v1) (([]:List (List Ma)),(0:Int))
 ) fun s2=>
 Option.bind (aV s2) fun v36=>
 Option.bind (bif !v36 then
  some true
 else
  Option.bind (kF s2) fun v39=>
  some (!decide (v39=text))
 ) fun s37=>
 bif s37 then
  some (([]:List (List Ma)),false)
 else
  some (s2,true)
theorem nS (text:ByteArray):Le (eU text) (aY text):=by
 unfold eU aY
 repeat' (first | with_reducible exact Le.refl _ | with_reducible exact nJ .. | with_reducible exact l8 .. | with_reducible exact qm .. | with_reducible refine Le.gd _ ?_ | with_reducible refine Le.bif _ ?_ ?_ | with_reducible refine Le.bind ?_ (fun _=>?_) | with_reducible refine Le.sumK ?_ (fun _=>?_) | with_reducible refine Le.loop (fun _=>?_) _ | with_reducible refine Le.nilK ?_ ?_ | with_reducible refine Le.ifc _ ?_ ?_)
def smI (x:Ma):Bool:=decide ((-1<=x.Op/\x.Op<=6)/\(-1<=x.Loc/\x.Loc<=3)/\(-1<=x.Reg/\x.Reg<=3)/\(-1<=x.Val/\x.Val<=4))
def smP (p:List (List Ma)):Bool:=decide (p.length<=4)&&p.all fun r=>decide (r.length<=8)&&r.all smI
def uG (t:ByteArray):Bool:=match eU t with
 | some v=>smP v.1
 | none=>false
theorem Dy:∀ l,fo=some l->l.all uG=true:=by
 intro l h;obtain rfl:=osl h
 decide +kernel
theorem xM {t:ByteArray} (h:uG t=true):Mg (aY t) fun v=>smP v.1=true:=by
 unfold uG at h
 cases hc:eU t with
 | none=>rw [hc] at h;cases h
 | some v=>
  rw [hc] at h;exact ⟨v,nS t v hc,h⟩
theorem H3:∀ l,fo=some l->∀ t∈l,Mg (aY t) fun v=>smP v.1=true:=
 fun l h t ht=>xM (List.all_eq_true.1 (Dy l h) t ht)
def Dz (p:List (List Ma)):Bool:=decide (p.length<=1048576)&&p.all fun r=>decide (r.length<=1048576)
def Gv (p:List (List Ma)) (i:Nat) (x:List Ma):List (List Ma):=p.set i (p.getD i []++x)
def fS (r_:ae) (p:List (List Ma)):Option (ae×List (List Ma)):= gd (Dz p) <|bif Nat.beq p.length 0 then some (r_,p) else Option.bind (aA r_ (p.length:Int)) fun v1=>Option.bind (aA v1.1 (40:Int)) fun v2=>gd (decide (0<=v1.2/\v1.2<(p.length:Int))) <|bif v2.2==(0:Int) then Option.bind (bz v2.1 ([(0:Int),(6:Int),(1:Int),(4:Int)]:LI)) fun a=>Option.bind (bz a.1 ([(0:Int),(3:Int),(-1:Int)]:LI)) fun b=>some (b.1,Gv p v1.2.toNat [⟨a.2,b.2,0,0⟩]) else bif v2.2==(1:Int) then Option.bind (bz v2.1 ([(4:Int),(-1:Int),(3:Int)]:LI)) fun a=>some (a.1,Gv p v1.2.toNat [⟨2,0,0,a.2⟩]) else bif v2.2==(2:Int) then some (v2.1,p++List.replicate (4-p.length) []) else bif v2.2==(3:Int) then some (v2.1,Gv p v1.2.toNat (List.replicate (8-(p.getD v1.2.toNat []).length) ⟨1,0,0,0⟩)) else bif v2.2==(4:Int) then some (v2.1,(p.drop 1).take (p.length-1)) else some (v2.1,p)
theorem qo {p:List (List Ma)}:smP p=true↔p.length<=4/\∀ r∈p,r.length<=8/\∀ x∈r,smI x=true:=by
 simp only [smP,bae,dte,List.all_eq_true]
theorem H4 {p:List (List Ma)} (h:smP p=true):Dz p=true:=by
 rw [qo] at h;simp only [Dz,bae,dte,List.all_eq_true];exact ⟨by omega,fun r hr=>by have := (h.2 r hr).1;omega⟩
theorem yL {α:Type} {m:Nat}:∀ {p:List (List α)},(∀ r∈p,r.length<=m)->total p<=p.length*m
 | [],_=>by simp [total]
 | r::p,h=>by
  have h1:=yL (p:=p) (fun x hx=>h x (List.mem_cons_of_mem _ hx));have h2:=h r (List.mem_cons_self);simp only [total,List.map_cons,List.sum_cons,llc,Nat.add_mul,Nat.one_mul] at h1 ⊢;omega
theorem KC {p:List (List Ma)} (h:smP p=true):p.length<=1048576/\total p<=1048576:=by
 rw [qo] at h;have h1:=yL (m:=8) (fun r hr=>(h.2 r hr).1);have h2:p.length*8<=32:=by omega
 exact ⟨by omega,by omega⟩
theorem vT {k:Int} {r:ae} (h:Rd k r) (hk:k<=10000000):Mg (gM r) fun v=>Rd (k+4) v.1/\smI v.2=true:=by
 unfold gM;refine (jf h.mk' (by omega) 2).bind fun v1 ⟨a1,a2,a3⟩=>(jf a1.mk' (by omega) 7).bind fun v2 ⟨b1,b2,b3⟩ => ?_;refine .bif (fun _ => .pure ⟨b1.mono (by omega),by simp only [smI];exact decide_eq_true (by omega)⟩) fun _=>?_;refine .bif (fun _=>(jf b1.mk' (by omega) 2).bind fun v3 ⟨c1,c2,c3⟩ => .pure ⟨c1.mono (by omega),decide_eq_true (by simp only [];omega)⟩) fun _=>?_;refine .bif (fun _=>(jf b1.mk' (by omega) 2).bind fun v3 ⟨c1,c2,c3⟩=>(jf c1.mk' (by omega) 3).bind fun v4 ⟨d1,d2,d3⟩ => .gdI (by omega) (.pure ⟨d1.mono (by omega),decide_eq_true (by simp only [];omega)⟩)) fun _=>?_;refine Mg.bind (P:=fun _=>True) (.bif (fun _ => .pure trivial) (fun _ => .pure trivial)) fun s _=>?_;refine .bif (fun _=>(jf b1.mk' (by omega) 3).bind fun v3 ⟨c1,c2,c3⟩ => .gdI (by omega) (.pure ⟨c1.mono (by omega),decide_eq_true (by simp only [];omega)⟩)) fun _=>?_;exact (jf b1.mk' (by omega) 2).bind fun v3 ⟨c1,c2,c3⟩ => .pure ⟨c1.mono (by omega),decide_eq_true (by simp only [];omega)⟩
theorem DC {k:Int} {b:LI} {p n:Int} (h:Rd k ⟨b,p⟩) (hk:k<=1000000) (hn:0<=n/\n<=3):Mg (loopO gp (b,p,([]:List Ma),n)) fun v=>Rd (k+12) ⟨v.1,v.2.1⟩/\v.2.2.length<=3/\∀ x∈v.2.2,smI x=true:=by
 refine Mg.loop (fun s=>Rd (k+4*(3-s.2.2.2)) ⟨s.1,s.2.1⟩/\(0<=s.2.2.2/\s.2.2.2+(s.2.2.1.length:Int)<=3)/\∀ x∈s.2.2.1,smI x=true) (fun s=>s.2.2.2.toNat) ⟨h.mono (by simp only [];omega),by simp;omega,by simp⟩ fun s ⟨h1,h2,h3⟩ => ?_;unfold gp;refine .bifD (fun h0=>?_) fun h0 => .pure ⟨h1.mono (by omega),by simp only [];omega,h3⟩;refine (vT h1 (by omega)).bind fun v ⟨a1,a2⟩ => .gdC (by omega) rfl (.gdI (by omega) (.pure ⟨⟨a1.mk'.mono (by simp only [];omega),by simp only [lla,llc,List.length_nil];omega,fun x hx=>?_⟩,by simp only [];omega⟩));rcases List.mem_append.1 hx with hx | hx
 ·exact h3 x hx
 ·rw [List.mem_singleton.1 hx];exact a2
theorem Bu {k:Int} {b:LI} {p n:Int} (h:Rd k ⟨b,p⟩) (hk:k<=100000) (hn:0<=n/\n<=3):Mg (loopO gq (b,p,([]:List (List Ma)),n)) fun v=>Rd (k+39) ⟨v.1,v.2.1⟩/\smP v.2.2=true:=by
 refine Mg.loop (fun s=>Rd (k+13*(3-s.2.2.2)) ⟨s.1,s.2.1⟩/\(0<=s.2.2.2/\s.2.2.2+(s.2.2.1.length:Int)<=3)/\∀ r∈s.2.2.1,r.length<=8/\∀ x∈r,smI x=true) (fun s=>s.2.2.2.toNat) ⟨h.mono (by simp only [];omega),by simp;omega,by simp⟩ fun s ⟨h1,h2,h3⟩ => ?_;unfold gq;refine .bifD (fun h0=>?_) fun h0 => .pure ⟨h1.mono (by omega),qo.2 ⟨by simp only [];omega,h3⟩⟩;refine Mg.bind (P:=fun v=>Rd (k+13*(3-s.2.2.2)+13) ⟨v.1,v.2.1⟩/\∃ t:List Ma,v.2.2=s.2.2.1++[t]/\t.length<=8/\∀ x∈t,smI x=true) ?_ fun v ⟨a1,t,a2,a3,a4⟩ => ?_
 ·refine Mg.bind (P:=fun v=>Rd (k+13*(3-s.2.2.2)+13) ⟨v.1,v.2.1⟩/\v.2.2.length<=3/\∀ x∈v.2.2,smI x=true) ?_ fun v ⟨a1,a2,a3⟩ => .gdC (by omega) rfl (.pure ⟨a1,v.2.2,rfl,by omega,a3⟩);refine (vR h1 (by omega) _ (by simp)).bind fun v ⟨b1,b2⟩=>(DC (n:=v.2) b1.mk' (by omega) (by simp only [List.mem_cons,List.not_mem_nil,or_false] at b2;omega)).mono fun u ⟨c1,c2,c3⟩=>⟨c1.mono (by omega),c2,c3⟩
 ·refine .gdI (by omega) (.pure ⟨⟨a1.mono (by simp only [];omega),by simp only [a2,lla,llc,List.length_nil];omega,fun r hr=>?_⟩,by simp only [];omega⟩);simp only [a2] at hr;rcases List.mem_append.1 hr with hr | hr
  ·exact h3 r hr
  ·rw [List.mem_singleton.1 hr];exact ⟨a3,a4⟩
theorem DD {k:Int} {r:ae} (h:Rd k r) (hk:k<=10000) (hp:∀ l,fo=some l->∀ t∈l,Mg (aY t) fun v=>smP v.1=true):Mg (kP r) fun v=>Rd (k+46) v.1/\smP v.2=true:=by
 unfold kP;have e1:∃ l,fo=some l/\0<l.length/\l.length<=100:=⟨_,rfl,by decide,by decide⟩;obtain ⟨l,e1,e2,e3⟩:=e1;have hp':=hp l e1;refine (Mg.of (P:=fun v=>v=l) e1 rfl).bind fun v1 hv=>?_;subst hv;refine Mg.sum (PS:=fun s=>Rd (k+2) ⟨s.1,s.2⟩) (PW:=fun v:ae×List (List Ma)=>Rd (k+46) v.1/\smP v.2=true) ?_ fun s hs=>?_
 ·refine (jf h.mk' (by omega) 3).bind fun v3 ⟨a1,a2,a3⟩ => .bif (fun _=>?_) fun _ => .pure (a1.mk'.mono (by omega));refine (jf a1.mk' (by omega) _).bind fun v5 ⟨b1,b2,b3⟩ => .gdD ⟨b2,by omega⟩ ?_;have hlt:v5.2.toNat<v1.length:=by omega
  refine Mg.bind (hp' (v1.getD v5.2.toNat default) (by rw [gdq,geq hlt];exact List.getElem_mem _)) fun v7 h7=>?_;exact .bif (fun _ => .pure ⟨b1.mk'.mono (by omega),h7⟩) fun _ => .pure (b1.mk'.mono (by omega))
 ·refine Mg.bind (P:=fun v=>Rd (k+42) ⟨v.1,v.2.1⟩/\smP v.2.2=true) ?_ fun v ⟨a1,a2⟩ => ?_
  ·exact (vR hs (by omega) _ (by simp)).bind fun v ⟨b1,b2⟩=>(Bu (n:=v.2) b1.mk' (by omega) (by simp only [List.mem_cons,List.not_mem_nil,or_false] at b2;omega)).mono fun u ⟨c1,c2⟩=>⟨c1.mono (by omega),c2⟩
  ·have hv:Mg (aV v.2.2) fun _=>True := .gdD (KC a2) (.pure trivial);refine hv.bind fun b _ => .bif (fun _ => .pure ⟨a1.mono (by omega),a2⟩) fun _=>?_;exact (vT a1 (by omega)).bind fun u ⟨c1,c2⟩ => .pure ⟨c1.mk'.mono (by omega),qo.2 ⟨by simp,by simp [c2]⟩⟩
theorem JF {p:List (List Ma)} (h:smP p=true) {i:Nat} (hi:i<p.length) {l:List Ma} (hl:(p.getD i []).length+l.length<=9) (hx:∀ x∈l,smI x=true):(Gv p i l).length<=4/\∀ r∈Gv p i l,r.length<=9/\∀ x∈r,smI x=true:=by
 rw [qo] at h;unfold Gv;refine ⟨by rw [List.length_set];exact h.1,fun r hr=>?_⟩;rcases List.mem_or_eq_of_mem_set hr with hr | rfl
 ·exact ⟨by have := (h.2 r hr).1;omega,(h.2 r hr).2⟩
 ·have hg:p.getD i []=p[i]:=by simp [hi]
  refine ⟨by rw [lla];omega,fun x hxx=>?_⟩;rcases List.mem_append.1 hxx with hxx | hxx
  ·rw [hg] at hxx;exact (h.2 _ (List.getElem_mem hi)).2 x hxx
  ·exact hx x hxx
def Sm (p:List (List Ma)):Prop:=p.length<=9/\∀ r∈p,r.length<=9/\∀ x∈r,smI x=true
theorem CH {p:List (List Ma)} (h:smP p=true):Sm p:=by
 rw [qo] at h;exact ⟨by omega,fun r hr=>⟨by have := (h.2 r hr).1;omega,(h.2 r hr).2⟩⟩
theorem Sm.sz {p:List (List Ma)} (h:Sm p):p.length<=1048576/\total p<=1048576:=by
 have h1:=yL (m:=9) (fun r hr=>(h.2 r hr).1);have h2:p.length*9<=81:=by have := h.1;omega
 exact ⟨by have := h.1;omega,by omega⟩
theorem zW {k:Int} {r:ae} (h:Rd k r) (hk:k<=100000) {p:List (List Ma)} (hp:smP p=true):Mg (fS r p) fun v=>Rd (k+4) v.1/\Sm v.2:=by
 unfold fS;have hp0:=qo.1 hp;have hg:∀ i,(p.getD i []).length<=8:=fun i=>by
  by_cases hi:i<p.length
  ·have : p.getD i []=p[i]:=by simp [hi]
   rw [this];exact (hp0.2 _ (List.getElem_mem hi)).1
  ·simp [List.getD,gen (Nat.le_of_not_lt hi)]
 refine .gd (H4 hp) (.bif (fun _ => .pure ⟨h.mono (by omega),CH hp⟩) fun h0=>?_);have hpos:0<p.length:=by
  cases hc:p.length with
  | zero=>rw [hc] at h0;cases h0
  | succ n=>omega
 refine (jf h (by omega) _).bind fun v1 ⟨a1,a2,a3⟩=>(jf a1 (by omega) _).bind fun v2 ⟨b1,b2,b3⟩ => .gdD ⟨a2,by omega⟩ ?_;have hi:v1.2.toNat<p.length:=by omega
 have put:∀ {l:List Ma},(p.getD v1.2.toNat []).length+l.length<=9->(∀ x∈l,smI x=true)->Sm (Gv p v1.2.toNat l):=fun {l} hl hx=>by
  obtain ⟨g1,g2⟩:=JF hp hi hl hx;exact ⟨by omega,g2⟩
 refine .bif (fun _=>(vR b1 (by omega) _ (by simp)).bind fun a ⟨c1,c2⟩=>(vR c1 (by omega) _ (by simp)).bind fun b ⟨d1,d2⟩ => .pure ⟨d1.mono (by omega),put (by have := hg v1.2.toNat;simp only [llc,List.length_nil];omega) fun x hx=>?_⟩) fun _=>?_
 ·rw [List.mem_singleton.1 hx];simp only [List.mem_cons,List.not_mem_nil,or_false] at c2 d2;exact decide_eq_true (by simp only [];omega)
 refine .bif (fun _=>(vR b1 (by omega) _ (by simp)).bind fun a ⟨c1,c2⟩ => .pure ⟨c1.mono (by omega),put (by have := hg v1.2.toNat;simp only [llc,List.length_nil];omega) fun x hx=>?_⟩) fun _=>?_
 ·rw [List.mem_singleton.1 hx];simp only [List.mem_cons,List.not_mem_nil,or_false] at c2;exact decide_eq_true (by simp only [];omega)
 refine .bif (fun _ => .pure ⟨b1.mono (by omega),by simp only [lla,List.length_replicate];omega,fun r hr=>?_⟩) fun _=>?_
 ·rcases List.mem_append.1 hr with hr | hr
  ·exact ⟨by have := (hp0.2 r hr).1;omega,(hp0.2 r hr).2⟩
  ·rw [List.eq_of_mem_replicate hr];exact ⟨by simp,by simp⟩
 refine .bif (fun _ => .pure ⟨b1.mono (by omega),put (by have := hg v1.2.toNat;rw [List.length_replicate];omega) fun x hx=>?_⟩) fun _=>?_
 ·rw [List.eq_of_mem_replicate hx]
  rfl
 refine .bif (fun _ => .pure ⟨b1.mono (by omega),?_⟩) fun _ => .pure ⟨b1.mono (by omega),CH hp⟩;exact ⟨by simp only [List.length_take,List.length_drop];omega,fun r hr=>(CH hp).2 r (List.mem_of_mem_drop (List.mem_of_mem_take hr))⟩
theorem zX (x:Ma):Mg (bZ x) fun _=>True:=by
 unfold bZ;exact Mg.bind (P:=fun _=>True) (.bif (fun _ => .pure trivial) fun _ => .pure trivial) fun _ _=>Mg.bind (P:=fun _=>True) (.bif (fun _ => .pure trivial) fun _ => .pure trivial) fun _ _ => .pure trivial
theorem Bv (x:Ma):Mg (dF x) fun _=>True:=by
 unfold dF;exact Mg.bind (P:=fun _=>True) (.bif (fun _ => .pure trivial) fun _ => .pure trivial) fun _ _ => .pure trivial
theorem Sm.row {p:List (List Ma)} (h:Sm p) (i:Nat):(p.getD i default).length<=9:=by
 by_cases hi:i<p.length
 ·have : p.getD i default=p[i]:=by simp [hi]
  rw [this];exact (h.2 _ (List.getElem_mem hi)).1
 ·rw [gdq,gen (Nat.le_of_not_lt hi)];exact Nat.zero_le _
theorem vU {p:List (List Ma)} (hp:Sm p) (loc:Int) (wr:Bool):Mg (gP p loc wr) fun v=>0<=v/\v<=81:=by
 unfold gP;have hpl:=hp.1;refine Mg.bind (P:=fun v:Int=>0<=v/\v<=81) ?_ fun v hv => .pure hv;refine Mg.loop (fun s=>0<=s.1/\s.1<=(p.length:Int)/\0<=s.2/\s.2<=9*s.1) (fun s=>((p.length:Int)-s.1).toNat) ⟨Int.le_refl _,by simp only [];omega,Int.le_refl _,Int.le_refl _⟩ fun s ⟨h1,h2,h3,h4⟩ => ?_;unfold mH;refine .bifD (fun h0=>?_) fun h0 => .pure ⟨h3,by omega⟩;have hrow:=hp.row s.1.toNat;refine Mg.bind (P:=fun v:Int=>0<=v/\v<=9*s.1+9) ?_ fun v ⟨g1,g2⟩ => .gdI (by omega) (.pure ⟨⟨by simp only [];omega,by simp only [];omega,g1,by simp only [];omega⟩,by simp only [];omega⟩);refine Mg.loop (fun t=>0<=t.1/\t.1<=((p.getD s.1.toNat default).length:Int)/\0<=t.2/\t.2<=9*s.1+t.1) (fun t=>(((p.getD s.1.toNat default).length:Int)-t.1).toNat) ⟨Int.le_refl _,by simp only [];omega,h3,by simp only [];omega⟩ fun t ⟨k1,k2,k3,k4⟩ => ?_;unfold lQ;refine .gdD ⟨h1,h0⟩ (.bifD (fun hk=>?_) fun hk => .pure ⟨k3,by omega⟩);refine Mg.bind (P:=fun v:Int=>0<=v/\v<=t.2+1) ?_ fun v ⟨g1,g2⟩ => .gdI (by omega) (.pure ⟨⟨by simp only [];omega,by simp only [];omega,g1,by simp only [];omega⟩,by simp only [];omega⟩);refine .gdD ⟨k1,hk⟩ (Mg.bind (P:=fun _=>True) ?_ fun b _ => .bif (fun _ => .gdI (by omega) (.pure ⟨by omega,by omega⟩)) fun _ => .pure ⟨k3,by omega⟩);refine .bif (fun _=>?_) fun _ => .pure trivial;refine Mg.bind (P:=fun _=>True) (.bif (fun _=>(zX _).bind fun _ _ => .pure trivial) fun _ => .pure trivial) fun _ _=>?_;refine Mg.bind (P:=fun _=>True) (.bif (fun _ => .pure trivial) fun _=>?_) fun _ _ => .pure trivial;exact Mg.bind (P:=fun _=>True) (.bif (fun _=>(Bv _).bind fun _ _ => .pure trivial) fun _ => .pure trivial) fun _ _ => .pure trivial
theorem Bw {p:List (List Ma)} (hp:Sm p) {most:Int} (hm:0<=most/\most<=10000):Mg (jO p most) fun _=>True:=by
 unfold jO;refine Mg.bind (P:=fun v:Int=>0<=v/\v<=1000000000) ?_ fun v ⟨h1,h2⟩ => .bifD (fun _ => .gdI (by omega) (.pure trivial)) fun _ => .pure trivial;refine Mg.loop (fun s=>0<=s.1/\s.1<=3/\0<=s.2/\s.2<=1000000000) (fun s=>(3-s.1).toNat) ⟨Int.le_refl _,by decide,by decide,by decide⟩ fun s ⟨h1,h2,h3,h4⟩ => ?_;unfold mI;refine .bifD (fun h0=>?_) fun h0 => .pure ⟨h3,h4⟩;refine Mg.bind (P:=fun v:Int=>0<=v/\v<=1000000000) ?_ fun v ⟨g1,g2⟩ => .gdI (by omega) (.pure ⟨⟨by simp only [];omega,by simp only [];omega,g1,g2⟩,by simp only [];omega⟩);refine (vU hp _ _).bind fun w ⟨w1,w2⟩=>Mg.bind (P:=fun v:Int=>0<=v/\v<=1000000000) ?_ fun v ⟨g1,g2⟩ => ?_
 ·refine Mg.loop (fun t=>0<=t.1/\t.1<=81/\0<=t.2/\t.2<=1000000000) (fun t=>(81-t.1).toNat) ⟨Int.le_refl _,by simp only [];omega,h3,h4⟩ fun t ⟨k1,k2,k3,k4⟩ => ?_;unfold lS;refine (vU hp _ _).bind fun c ⟨c1,c2⟩=>Mg.bind (P:=fun b=>b=(decide (t.1<c)&&decide (t.2<=most))) (.bifD (fun h => .pure (by simp [h])) fun h => .pure (by simp [h])) fun b hb => .bif (fun ht=>?_) fun _ => .pure ⟨k3,k4⟩;rw [hb] at ht;simp only [bae,dte] at ht;have e1:0<=t.2*(w+1)/\t.2*(w+1)<=10000*82:=⟨Int.mul_nonneg k3 (by omega),Int.mul_le_mul (by omega) (by omega) (by omega) (by omega)⟩;exact .gdI (by omega) (.gdI (by omega) (.gdI (by omega) (.pure ⟨⟨by simp only [];omega,by simp only [];omega,e1.1,by simp only [];omega⟩,by simp only [];omega⟩)))
 ·refine Mg.loop (fun t=>2<=t.1/\t.1<=82/\0<=t.2/\t.2<=1000000000) (fun t=>(82-t.1).toNat) ⟨Int.le_refl _,by simp only [];omega,g1,g2⟩ fun t ⟨k1,k2,k3,k4⟩ => ?_;unfold lT;refine Mg.bind (P:=fun b=>b=(decide (t.1<=w)&&decide (t.2<=most))) (.bifD (fun h => .pure (by simp [h])) fun h => .pure (by simp [h])) fun b hb => .bif (fun ht=>?_) fun _ => .pure ⟨k3,k4⟩;rw [hb] at ht;simp only [bae,dte] at ht;have e1:0<=t.2*t.1/\t.2*t.1<=10000*82:=⟨Int.mul_nonneg k3 (by omega),Int.mul_le_mul (by omega) (by omega) (by omega) (by omega)⟩;exact .gdI (by omega) (.gdI (by omega) (.pure ⟨⟨by simp only [];omega,by simp only [];omega,e1.1,by simp only [];omega⟩,by simp only [];omega⟩))
theorem Lj:uG (⟨#[120,61,49,59,97,61,121,124,121,61,49,59,97,61,120]⟩:ByteArray)=true:=by decide +kernel
theorem Bx {k:Int} {r:ae} (h:Rd k r) (hk:k<=10000):Mg (jP r) fun v=>Rd (k+46) v.1/\smP v.2=true:=by
 unfold jP;refine (DD h.mk' hk H3).bind fun v ⟨a1,a2⟩=>(Bw (CH a2) (by decide)).bind fun n _ => .bifD (fun _ => .pure ⟨a1.mk',a2⟩) fun _=>?_;exact (xM Lj).bind fun u hu => .pure ⟨a1.mk',hu⟩
def dI (code:LI):Option (List (List Ma)):= Option.bind (gL code) fun v1=>Option.bind (jP (⟨v1.b,v1.p⟩:ae)) fun v2=>Option.bind (fS (⟨v2.1.b,v2.1.p⟩:ae) v2.2) fun v3=>some v3.2
def nK (a:LI) (b:LI):Int->Option (Int ⊕ (Unit ⊕ Bool)):=fun s5=>bif decide (s5<(a.length:Int)) then gd (decide (0<=s5/\s5<(a.length:Int))) <|gd (decide (0<=s5/\s5<(b.length:Int))) <|bif ((a.getD s5.toNat default) != (b.getD s5.toNat default)) then some (.inr (.inr false)) else gd (L8 .i64 (s5+(1:Int))) <|some (.inl (s5+(1:Int))) else some (.inr (.inl ()))
def kS (a:LI) (b:LI):Option Bool:= bif ((a.length:Int) != (b.length:Int)) then some false else sumK (loopO (nK a b) (0:Int)) fun s2=>some true
def mJ (a:LL) (b:LL):Int->Option (Int ⊕ (Unit ⊕ Bool)):=fun s5=>bif decide (s5<(a.length:Int)) then gd (decide (0<=s5/\s5<(a.length:Int))) <|gd (decide (0<=s5/\s5<(b.length:Int))) <|Option.bind (kS (a.getD s5.toNat default) (b.getD s5.toNat default)) fun v10=>bif !v10 then some (.inr (.inr false)) else gd (L8 .i64 (s5+(1:Int))) <|some (.inl (s5+(1:Int))) else some (.inr (.inl ()))
def gQ (a:LL) (b:LL):Option Bool:= bif ((a.length:Int) != (b.length:Int)) then some false else sumK (loopO (mJ a b) (0:Int)) fun s2=>some true
theorem KD {b:LI} (hb:Bts b):Mg (dI b) Sm:=by
 unfold dI;exact (HZ hb).bind fun r h=>(Bx h.mk' (by omega)).bind fun v ⟨a1,a2⟩=>(zW a1.mk' (by omega) a2).bind fun u ⟨b1,b2⟩ => .pure b2
theorem F4 {p:List (List Ma)} (hsz:p.length<=1048576/\total p<=1048576):Mg (eF p) fun q=>(bu (Ml p)=false->q=[])/\(bu (Ml p)=true->q.Pairwise ltL/\∀ o,o∈q↔Jb p o):=by
 have e:au p=some (bu (Ml p)):=kV (decide_eq_true hsz)
 cases hv:bu (Ml p) with
 | true=>
  rw [hv] at e;exact (Dn (PV.of hv) e).mono fun q hq=>⟨nofun,fun _=>hq⟩
 | false=>
  rw [hv] at e;exact .of (Dq e) ⟨fun _=>rfl,nofun⟩
theorem DF {a b:LI} (ha:a.length<=1048576):Mg (kS a b) (· = decide (a=b)):=by
 unfold kS;refine .bif (fun h => .pure ?_) fun h=>?_
 ·have h : ¬ ((a.length:Int)=(b.length:Int)):=by simpa using h
  exact (decide_eq_false fun e=>h (by rw [e])).symm
 ·have h:(a.length:Int)=(b.length:Int):=by simpa using h
  refine Mg.sum (PS:=fun _=>a=b) (PW:=(· = decide (a=b))) ?_ fun _ hn => .pure (decide_eq_true hn).symm;refine Mg.loop (fun i=>∃ k:Nat,k<=a.length/\i=(k:Int)/\∀ j:Nat,j<k->a.getD j default=b.getD j default) (fun i=>((a.length:Int)-i).toNat) ⟨0,by omega,rfl,fun j hj=>absurd hj (by omega)⟩ fun i ⟨k,h1,h2,h3⟩ => ?_;subst h2;unfold nK;simp only [tnn];refine .bifD (fun hk => .gdD ⟨by omega,hk⟩ (.gdD ⟨by omega,by omega⟩ (.bif (fun hne => .pure ?_) fun he => .gdI (by omega) (.pure ⟨⟨k+1,by omega,rfl,fun j hj=>?_⟩,by omega⟩)))) fun hk => .pure ?_
  ·have hne : ¬ a.getD k default=b.getD k default:=by simpa using hne
   exact (decide_eq_false fun e=>hne (by rw [e])).symm
  ·have he:a.getD k default=b.getD k default:=by simpa using he
   by_cases e:j=k
   ·rw [e];exact he
   ·exact h3 j (by omega)
  ·refine List.ext_getElem (by omega) fun j g1 g2=>?_;have := h3 j (by omega);rw [gdq,gdq,geq g1,geq g2] at this;exact this
theorem qp {a b:LL} (ha:a.length<=1048576) (hr:∀ r∈a,r.length<=1048576):Mg (gQ a b) (· = decide (a=b)):=by
 unfold gQ;refine .bif (fun h => .pure ?_) fun h=>?_
 ·have h : ¬ ((a.length:Int)=(b.length:Int)):=by simpa using h
  exact (decide_eq_false fun e=>h (by rw [e])).symm
 ·have h:(a.length:Int)=(b.length:Int):=by simpa using h
  refine Mg.sum (PS:=fun _=>a=b) (PW:=(· = decide (a=b))) ?_ fun _ hn => .pure (decide_eq_true hn).symm;refine Mg.loop (fun i=>∃ k:Nat,k<=a.length/\i=(k:Int)/\∀ j:Nat,j<k->a.getD j default=b.getD j default) (fun i=>((a.length:Int)-i).toNat) ⟨0,by omega,rfl,fun j hj=>absurd hj (by omega)⟩ fun i ⟨k,h1,h2,h3⟩ => ?_;subst h2;unfold mJ;simp only [tnn];refine .bifD (fun hk => .gdD ⟨by omega,hk⟩ (.gdD ⟨by omega,by omega⟩ ((DF (hr _ (getD_in (by omega)))).bind fun v hv => .bif (fun hne => .pure ?_) fun he => .gdI (by omega) (.pure ⟨⟨k+1,by omega,rfl,fun j hj=>?_⟩,by omega⟩)))) fun hk => .pure ?_
  ·subst hv;have hne : ¬ a.getD k default=b.getD k default:=by simpa using hne
   exact (decide_eq_false fun e=>hne (by rw [e])).symm
  ·subst hv;have he:a.getD k default=b.getD k default:=by simpa using he
   by_cases e:j=k
   ·rw [e];exact he
   ·exact h3 j (by omega)
  ·refine List.ext_getElem (by omega) fun j g1 g2=>?_;have := h3 j (by omega);rw [gdq,gdq,geq g1,geq g2] at this;exact this
def gT (p:List (List Ma)) (s6:Int×Int×Int):(Int×Int×Int)->Option ((Int×Int×Int) ⊕ (Int×Int)):=fun s13=>bif decide (s13.1<((p.getD s6.1.toNat default).length:Int)) then gd (L8 .i64 (s13.2.1+(1:Int))) <|gd (L8 .i64 (s13.2.2*(s13.2.1+(1:Int)))) <|gd (L8 .i64 (s13.1+(1:Int))) <|gd (decide ((s13.1+(1:Int))≠0)) <|gd (L8 .i64 ((s13.2.2*(s13.2.1+(1:Int))).tdiv (s13.1+(1:Int)))) <|some (.inl ((s13.1+(1:Int)),(s13.2.1+(1:Int)),((s13.2.2*(s13.2.1+(1:Int))).tdiv (s13.1+(1:Int))))) else some (.inr (s13.2.1,s13.2.2))
def iG (p:List (List Ma)):(Int×Int×Int)->Option ((Int×Int×Int) ⊕ Int):=fun s6=>bif decide (s6.1<(p.length:Int)) then Option.bind (gd (decide (0<=s6.1/\s6.1<(p.length:Int))) <|loopO (gT p s6) ((0:Int),s6.2.1,s6.2.2)) fun s9=>gd (L8 .i64 (s6.1+(1:Int))) <|some (.inl ((s6.1+(1:Int)),s9.1,s9.2)) else some (.inr s6.2.2)
def dw (p:List (List Ma)):Option Int:= Option.bind (au p) fun v1=>bif !v1 then some (0:Int) else Option.bind (loopO (iG p) ((0:Int),(0:Int),(1:Int))) fun s3=>some s3
def jI (p:List (List Ma)) (s7:(List ah)×Int):((List ah)×Int)->Option (((List ah)×Int) ⊕ (List ah)):=fun s20=>bif decide (s20.2<((p.getD s7.2.toNat default).length:Int)) then gd (aS (s20.1.length+1) 16) <|gd (L8 .i64 (s20.2+(1:Int))) <|some (.inl ((s20.1++[(⟨s7.2,s20.2⟩:ah)]),(s20.2+(1:Int)))) else some (.inr s20.1)
def kG (p:List (List Ma)):((List ah)×Int)->Option (((List ah)×Int) ⊕ (List ah)):=fun s7=>bif decide (s7.2<(p.length:Int)) then Option.bind (gd (decide (0<=s7.2/\s7.2<(p.length:Int))) <|loopO (jI p s7) (s7.1,(0:Int))) fun s13=>gd (L8 .i64 (s7.2+(1:Int))) <|some (.inl (s13,(s7.2+(1:Int)))) else some (.inr s7.1)
def jk (p:List (List Ma)):Option (List ah):= Option.bind (loopO (kG p) (([]:List ah),(0:Int))) fun s1=>some s1
def jl (x:Ma) (y:Ma):Option Bool:= Option.bind (bif (x.Op != (4:Int)) then some (y.Op != (4:Int)) else some false) fun s1=>Option.bind (bif s1 then some (x.Loc==y.Loc) else some false) fun s3=>Option.bind (bif s3 then Option.bind (aO x) fun v7=>Option.bind (bif v7 then some true else Option.bind (aO y) fun v10=>some v10) fun s8=>some s8 else some false) fun s5=>some s5
def jm (p:List (List Ma)) (v4:(List ah)) (s10:(List ak)×Int) (v18:(List ah)):((List ak)×Int)->Option (((List ak)×Int) ⊕ (List ak)):=fun s24=>bif decide (s24.2<(v18.length:Int)) then Option.bind (gd (decide (0<=s24.2/\s24.2<(v18.length:Int))) <|gd (decide (0<=(v4.getD s10.2.toNat default).Thread/\(v4.getD s10.2.toNat default).Thread<(p.length:Int))) <|gd (decide (0<=(v4.getD s10.2.toNat default).Index/\(v4.getD s10.2.toNat default).Index<((p.getD ((v4.getD s10.2.toNat default).Thread).toNat default).length:Int))) <|gd (decide (0<=(v18.getD s24.2.toNat default).Thread/\(v18.getD s24.2.toNat default).Thread<(p.length:Int))) <|gd (decide (0<=(v18.getD s24.2.toNat default).Index/\(v18.getD s24.2.toNat default).Index<((p.getD ((v18.getD s24.2.toNat default).Thread).toNat default).length:Int))) <|Option.bind (bif decide (((v4.getD s10.2.toNat default).Thread)<((v18.getD s24.2.toNat default).Thread)) then Option.bind (jl (⟨((p.getD ((v4.getD s10.2.toNat default).Thread).toNat default).getD ((v4.getD s10.2.toNat default).Index).toNat default).Op,((p.getD ((v4.getD s10.2.toNat default).Thread).toNat default).getD ((v4.getD s10.2.toNat default).Index).toNat default).Loc,((p.getD ((v4.getD s10.2.toNat default).Thread).toNat default).getD ((v4.getD s10.2.toNat default).Index).toNat default).Reg,((p.getD ((v4.getD s10.2.toNat default).Thread).toNat default).getD ((v4.getD s10.2.toNat default).Index).toNat default).Val⟩:Ma) (⟨((p.getD ((v18.getD s24.2.toNat default).Thread).toNat default).getD ((v18.getD s24.2.toNat default).Index).toNat default).Op,((p.getD ((v18.getD s24.2.toNat default).Thread).toNat default).getD ((v18.getD s24.2.toNat default).Index).toNat default).Loc,((p.getD ((v18.getD s24.2.toNat default).Thread).toNat default).getD ((v18.getD s24.2.toNat default).Index).toNat default).Reg,((p.getD ((v18.getD s24.2.toNat default).Thread).toNat default).getD ((v18.getD s24.2.toNat default).Index).toNat default).Val⟩:Ma)) fun v38=>some v38 else some false) fun s36=>Option.bind (bif s36 then Option.bind (bif ((((p.getD ((v4.getD s10.2.toNat default).Thread).toNat default).getD ((v4.getD s10.2.toNat default).Index).toNat default).Op) != (5:Int)) then some true else some ((((p.getD ((v18.getD s24.2.toNat default).Thread).toNat default).getD ((v18.getD s24.2.toNat default).Index).toNat default).Op) != (5:Int))) fun s41=>some s41 else some false) fun s39=>bif s39 then gd (aS (s24.1.length+1) 32) <|some (s24.1++[(⟨(⟨(v4.getD s10.2.toNat default).Thread,(v4.getD s10.2.toNat default).Index⟩:ah),(⟨(v18.getD s24.2.toNat default).Thread,(v18.getD s24.2.toNat default).Index⟩:ah)⟩:ak)]) else some s24.1) fun s30=>gd (L8 .i64 (s24.2+(1:Int))) <|some (.inl (s30,(s24.2+(1:Int)))) else some (.inr s24.1)
def jo (p:List (List Ma)) (v4:(List ah)):((List ak)×Int)->Option (((List ak)×Int) ⊕ (List ak)):=fun s10=>bif decide (s10.2<(v4.length:Int)) then Option.bind (gd (decide (0<=s10.2/\s10.2<(v4.length:Int))) <|Option.bind (jk p) fun v18=>loopO (jm p v4 s10 v18) (s10.1,(0:Int))) fun s16=>gd (L8 .i64 (s10.2+(1:Int))) <|some (.inl (s16,(s10.2+(1:Int)))) else some (.inr s10.1)
def jQ (p:List (List Ma)):Option (List ak):= Option.bind (au p) fun v1=>bif !v1 then some ([]:List ak) else Option.bind (Option.bind (jk p) fun v4=>loopO (jo p v4) (([]:List ak),(0:Int))) fun s3=>some s3
def jp (p:List (List Ma)):Option Bool:= Option.bind (au p) fun v1=>Option.bind (bif v1 then Option.bind (jQ p) fun v4=>some ((v4.length:Int)==(0:Int)) else some false) fun s2=>some s2
def ll (p:List (List Ma)) (op:Int) (s6:Int×Int):(Int×Int)->Option ((Int×Int) ⊕ Int):=fun s13=>bif decide (s13.1<((p.getD s6.1.toNat default).length:Int)) then Option.bind (gd (decide (0<=s13.1/\s13.1<((p.getD s6.1.toNat default).length:Int))) <|bif ((((p.getD s6.1.toNat default).getD s13.1.toNat default).Op)==op) then gd (L8 .i64 (s13.2+(1:Int))) <|some (s13.2+(1:Int)) else some s13.2) fun s16=>gd (L8 .i64 (s13.1+(1:Int))) <|some (.inl ((s13.1+(1:Int)),s16)) else some (.inr s13.2)
def lV (p:List (List Ma)) (op:Int):(Int×Int)->Option ((Int×Int) ⊕ Int):=fun s6=>bif decide (s6.1<(p.length:Int)) then Option.bind (gd (decide (0<=s6.1/\s6.1<(p.length:Int))) <|loopO (ll p op s6) ((0:Int),s6.2)) fun s9=>gd (L8 .i64 (s6.1+(1:Int))) <|some (.inl ((s6.1+(1:Int)),s9)) else some (.inr s6.2)
def jq (p:List (List Ma)) (op:Int):Option Int:= Option.bind (au p) fun v1=>bif !v1 then some (0:Int) else Option.bind (loopO (lV p op) ((0:Int),(0:Int))) fun s3=>some s3
def cm (code:LI):Option Bool:= bif decide ((1048576:Int)<(code.length:Int)) then some true else Option.bind (dI code) fun v2=>Option.bind (cT v2) fun v3=>Option.bind (bO v2) fun v4=>Option.bind (gQ v3 v4) fun v5=>Option.bind (bif !v5 then some true else Option.bind (au v2) fun v8=>some (!v8)) fun s6=>bif s6 then Option.bind (bO v2) fun v10=>Option.bind (gQ v3 v10) fun v11=>Option.bind (bif v11 then some ((v3.length:Int)==(0:Int)) else some false) fun s12=>some s12 else Option.bind (dw v2) fun v14=>Option.bind (bif decide ((v3.length:Int)<=v14) then Option.bind (eF v2) fun v17=>some (decide ((v17.length:Int)<=(v3.length:Int))) else some false) fun s15=>Option.bind (bif s15 then Option.bind (jp v2) fun v20=>Option.bind (bif !v20 then some true else Option.bind (jq v2 (5:Int)) fun v23=>some (decide ((0:Int)<v23))) fun s21=>Option.bind (bif s21 then some true else some ((v3.length:Int)==(1:Int))) fun s24=>some s24 else some false) fun s18=>some s18
def pf (a b c:Nat):Nat:=Mf a*Mf b*Mf c
def Wd (a b c:Nat) (o:LI):Prop:=o.length=a+b+c/\o.count 0=a/\o.count 1=b/\o.count 2=c
theorem qq {a b c:Nat} {v:Int} {o:LI} (h:Wd a b c (v::o)):(v=0/\∃ a',a=a'+1/\Wd a' b c o)\/(v=1/\∃ b',b=b'+1/\Wd a b' c o)\/(v=2/\∃ c',c=c'+1/\Wd a b c' o):=by
 obtain ⟨h1,h2,h3,h4⟩:=h;rw [llc] at h1;rw [List.count_cons] at h2 h3 h4;simp only [beq_iff_eq] at h2 h3 h4;have key:∀ o:LI,o.count 0+o.count 1+o.count 2<=o.length:=fun o=>by
  induction o with
  | nil=>exact Nat.le_refl _
  | cons x l ih=>
   rw [llc,List.count_cons,List.count_cons,List.count_cons];simp only [beq_iff_eq]
   by_cases e0:x=0
   ·subst e0;simp;omega
   ·by_cases e1:x=1
    ·subst e1;simp;omega
    ·by_cases e2:x=2
     ·subst e2;simp;omega
     ·rw [if_neg e0,if_neg e1,if_neg e2];omega
 have hk:=key o
 by_cases e0:v=0
 ·subst e0;rw [if_pos rfl] at h2;rw [if_neg (by decide)] at h3 h4;exact .inl ⟨rfl,o.count 0,h2.symm,by omega,rfl,h3,h4⟩
 ·by_cases e1:v=1
  ·subst e1;rw [if_pos rfl] at h3;rw [if_neg (by decide)] at h2 h4;exact .inr (.inl ⟨rfl,o.count 1,h3.symm,by omega,h2,rfl,h4⟩)
  ·by_cases e2:v=2
   ·subst e2;rw [if_pos rfl] at h4;rw [if_neg (by decide)] at h2 h3;exact .inr (.inr ⟨rfl,o.count 2,h4.symm,by omega,h2,h3,rfl⟩)
   ·rw [if_neg e0] at h2;rw [if_neg e1] at h3;rw [if_neg e2] at h4;omega
def tls (v:Int) (L:LL):LL:=(L.filter fun o=>o.head? = some v).map List.tail
theorem sS {v:Int} {L:LL} {o:LI}:o∈tls v L↔v::o∈L:=by
 unfold tls;rw [List.mem_map]
 constructor
 ·rintro ⟨x,hx,rfl⟩;rw [List.mem_filter] at hx;obtain ⟨h1,h2⟩:=hx
  cases x with
  | nil=>simp at h2
  | cons a l=>
   have : a=v:=by simpa using h2
   rw [<- this];exact h1
 ·intro h;exact ⟨v::o,List.mem_filter.2 ⟨h,by simp⟩,rfl⟩
theorem F5 {v:Int} {L:LL} (h:L.Nodup):(tls v L).Nodup:=by
 unfold tls;refine List.pairwise_map.2 (List.Pairwise.imp_of_mem (fun {a b} ha hb hab=>?_) (h.filter _));rw [List.mem_filter] at ha hb
 cases a with
 | nil=>simp at ha
 | cons x l=>
  cases b with
  | nil=>simp at hb
  | cons y k=>
   have h1:x=v:=by simpa using ha.2
   have h2:y=v:=by simpa using hb.2
   intro e;exact hab (by rw [h1,h2];exact congrArg (v :: ·) e)
theorem JG (L:LL) (h:∀ o∈L,∃ v l,o=v::l/\(v=0\/v=1\/v=2)):L.length=(tls 0 L).length+(tls 1 L).length+(tls 2 L).length:=by
 induction L with
 | nil=>rfl
 | cons a l ih=>
  have h1:=ih fun o ho=>h o (List.mem_cons_of_mem _ ho);obtain ⟨v,k,rfl,hv⟩:=h a List.mem_cons_self;unfold tls at h1 ⊢;simp only [llm] at h1 ⊢;rw [llc,List.filter_cons,List.filter_cons,List.filter_cons];rcases hv with rfl | rfl | rfl <;> simp <;> omega
theorem uH:∀ (n a b c:Nat),a+b+c=n->∀ L:LL,L.Nodup->(∀ o∈L,Wd a b c o)->L.length*pf a b c<=Mf n
 | 0,a,b,c,hn,L,hL,h=>by
  obtain rfl:a=0:=by omega
  obtain rfl:b=0:=by omega
  obtain rfl:c=0:=by omega
  have := List.Nodup.length_le_of_subset hL (l₂:=[[]]) fun o ho=>by
   have := (h o ho).1;rw [List.mem_singleton];exact List.length_eq_zero_iff.1 (by omega)
  have e:pf 0 0 0=1:=rfl;rw [e];show L.length*1<=1;simp at this;omega
 | n+1,a,b,c,hn,L,hL,h=>by
  have hh:∀ o∈L,∃ v l,o=v::l/\(v=0\/v=1\/v=2):=fun o ho=>by
   cases o with
   | nil=>have := (h [] ho).1;simp at this;omega
   | cons v l=>
    rcases qq (h _ ho) with ⟨e,_⟩ | ⟨e,_⟩ | ⟨e,_⟩
    ·exact ⟨v,l,rfl,.inl e⟩
    ·exact ⟨v,l,rfl,.inr (.inl e)⟩
    ·exact ⟨v,l,rfl,.inr (.inr e)⟩
  have k0:(tls 0 L).length*pf a b c<=a*Mf n:=by
   cases a with
   | zero=>
    have : tls 0 L=[]:=List.eq_nil_iff_forall_not_mem.2 fun o ho=>by
     rcases qq (h _ (sS.1 ho)) with ⟨_,a',e,_⟩ | ⟨e,_⟩ | ⟨e,_⟩ <;> first | omega | (exact absurd e (by decide))
    rw [this];simp
   | succ a=>
    have := uH n a b c (by omega) (tls 0 L) (F5 hL) fun o ho=>by
     rcases qq (h _ (sS.1 ho)) with ⟨_,a',e,hw⟩ | ⟨e,_⟩ | ⟨e,_⟩
     ·obtain rfl:a=a':=by omega
      exact hw
     ·exact absurd e (by decide)
     ·exact absurd e (by decide)
    have e:pf (a+1) b c=pf a b c*(a+1):=by unfold pf;rw [Mf];simp only [Nat.mul_assoc,Nat.mul_comm,Nat.mul_left_comm]
    rw [e,<- Nat.mul_assoc,Nat.mul_comm (a+1)];exact Nat.mul_le_mul_right _ this
  have k1:(tls 1 L).length*pf a b c<=b*Mf n:=by
   cases b with
   | zero=>
    have : tls 1 L=[]:=List.eq_nil_iff_forall_not_mem.2 fun o ho=>by
     rcases qq (h _ (sS.1 ho)) with ⟨e,_⟩ | ⟨_,a',e,_⟩ | ⟨e,_⟩ <;> first | omega | (exact absurd e (by decide))
    rw [this];simp
   | succ b=>
    have := uH n a b c (by omega) (tls 1 L) (F5 hL) fun o ho=>by
     rcases qq (h _ (sS.1 ho)) with ⟨e,_⟩ | ⟨_,a',e,hw⟩ | ⟨e,_⟩
     ·exact absurd e (by decide)
     ·obtain rfl:b=a':=by omega
      exact hw
     ·exact absurd e (by decide)
    have e:pf a (b+1) c=pf a b c*(b+1):=by unfold pf;rw [Mf];simp only [Nat.mul_assoc,Nat.mul_comm,Nat.mul_left_comm]
    rw [e,<- Nat.mul_assoc,Nat.mul_comm (b+1)];exact Nat.mul_le_mul_right _ this
  have k2:(tls 2 L).length*pf a b c<=c*Mf n:=by
   cases c with
   | zero=>
    have : tls 2 L=[]:=List.eq_nil_iff_forall_not_mem.2 fun o ho=>by
     rcases qq (h _ (sS.1 ho)) with ⟨e,_⟩ | ⟨e,_⟩ | ⟨_,a',e,_⟩ <;> first | omega | (exact absurd e (by decide))
    rw [this];simp
   | succ c=>
    have := uH n a b c (by omega) (tls 2 L) (F5 hL) fun o ho=>by
     rcases qq (h _ (sS.1 ho)) with ⟨e,_⟩ | ⟨e,_⟩ | ⟨_,a',e,hw⟩
     ·exact absurd e (by decide)
     ·exact absurd e (by decide)
     ·obtain rfl:c=a':=by omega
      exact hw
    have e:pf a b (c+1)=pf a b c*(c+1):=by unfold pf;rw [Mf];simp only [Nat.mul_assoc,Nat.mul_comm,Nat.mul_left_comm]
    rw [e,<- Nat.mul_assoc,Nat.mul_comm (c+1)];exact Nat.mul_le_mul_right _ this
  rw [JG L hh,Nat.add_mul,Nat.add_mul,Mf,Nat.mul_comm (Mf n),<- hn,Nat.add_mul,Nat.add_mul];omega
def bin:Nat->Nat->Nat
 | _,0=>1
 | 0,_+1=>0
 | n+1,k+1=>bin n k+bin n (k+1)
theorem rA (n:Nat):bin n 0=1:=by cases n <;> rfl
theorem vV:∀ n k:Nat,bin (n+1) (k+1)*(k+1)=(n+1)*bin n k
 | 0,0=>rfl
 | 0,k+1=>by simp [bin]
 | n+1,0=>by
  have := vV n 0;rw [rA] at this ⊢;rw [bin,rA];omega
 | n+1,k+1=>by
  have h1:=vV n k;have h2:=vV n (k+1);rw [bin,Nat.add_mul,h2,Nat.mul_add,h1];have h3:bin (n+1) (k+1)=bin n k+bin n (k+1):=rfl;rw [Nat.add_mul (n+1) 1,h3,Nat.mul_add];omega
theorem F6 (n:Nat):∀ k:Nat,bin (n+k) k*(Mf n*Mf k)=Mf (n+k)
 | 0=>by rw [rA,Mf,Nat.mul_one,Nat.one_mul,Nat.add_zero]
 | k+1=>by
  have h1:=vV (n+k) k;have h2:=F6 n k;rw [<- Nat.add_assoc,Mf,Mf,<- h2]
  calc bin (n+k+1) (k+1)*(Mf n*(Mf k*(k+1)))=bin (n+k+1) (k+1)*(k+1)*(Mf n*Mf k):=by simp only [Nat.mul_assoc,Nat.mul_comm,Nat.mul_left_comm]
   _=(n+k+1)*bin (n+k) k*(Mf n*Mf k):=by rw [h1]
   _=bin (n+k) k*(Mf n*Mf k)*(n+k+1):=by simp only [Nat.mul_assoc,Nat.mul_comm,Nat.mul_left_comm]
theorem CI:∀ n k:Nat,bin n k<=2 ^ n
 | n,0=>by rw [rA];exact Nat.one_le_two_pow
 | 0,_+1=>by simp [bin]
 | n+1,k+1=>by
  have h1:=CI n k;have h2:=CI n (k+1);rw [bin,Nat.pow_succ];omega
section
variable {p:List (List Ma)}
def kJ (p:List (List Ma)) (t:Nat):Nat:=(p.getD t default).length
def Mm (p:List (List Ma)):Nat->Nat
 | 0=>0
 | t+1=>Mm p t+kJ p t
def pfT (p:List (List Ma)):Nat->Nat
 | 0=>1
 | t+1=>pfT p t*Mf (kJ p t)
def bdT:Nat->Nat
 | 0=>1
 | 1=>128
 | 2=>2097152
 | _=>4398046511104
theorem F7 (hp:PV p) (hv:au p=some true):Mg (dw p) fun v=>∃ n:Nat,v=n/\n*pfT p p.length=Mf (Mm p p.length):=by
 have hl:=hp.vs.1;unfold dw;refine (Mg.of (P:=(· = true)) hv rfl).bind fun b hb => .bif (fun h=>by subst hb;cases h) fun _=>?_;refine Mg.bind (P:=fun v:Int=>∃ n:Nat,v=n/\n*pfT p p.length=Mf (Mm p p.length)) ?_ fun v hv => .pure hv;refine Mg.loop (fun z=>∃ t A:Nat,t<=p.length/\z=((t:Int),(Mm p t:Int),(A:Int))/\A*pfT p t=Mf (Mm p t)/\A<=bdT t/\Mm p t<=7*t) (fun z=>((p.length:Int)-z.1).toNat) ⟨0,1,by omega,rfl,rfl,Nat.le_refl _,Nat.le_refl _⟩ fun z ⟨t,A,h1,h2,h3,h4,h5⟩ => ?_;subst h2;unfold iG;simp only [tnn];refine .bifD (fun ht=>?_) fun ht => .pure ⟨A,rfl,by rw [<- show t=p.length by omega];exact h3⟩;have hr:kJ p t<=7:=hp.vs.2 t;refine Mg.bind (P:=fun w:Int×Int=>w=(((Mm p (t+1):Nat):Int),((A*bin (Mm p (t+1)) (kJ p t):Nat):Int))) (.gdD ⟨by omega,ht⟩ ?_) fun w hw => .gdI (by omega) (.pure ⟨⟨t+1,A*bin (Mm p (t+1)) (kJ p t),by omega,by rw [hw];rfl,?_,?_,?_⟩,by simp only [];omega⟩)
 ·refine Mg.loop (fun w=>∃ j:Nat,j<=kJ p t/\w=((j:Int),((Mm p t+j:Nat):Int),((A*bin (Mm p t+j) j:Nat):Int))) (fun w=>(((p.getD t default).length:Int)-w.1).toNat) ⟨0,by omega,by rw [rA];simp⟩ fun w ⟨j,j1,j2⟩ => ?_;subst j2;unfold gT;simp only [tnn];refine .bifD (fun hj=>?_) fun hj => .pure ?_
  ·have hjl:j<kJ p t:=by unfold kJ;omega
   have ht3:t<3:=by omega
   have e1:((Mm p t+j:Nat):Int)+1=((Mm p t+j+1:Nat):Int):=by omega
   have hb:=vV (Mm p t+j) j;have hA:A<=2097152:=by
    rcases (by omega:t=0\/t=1\/t=2) with rfl | rfl | rfl
    ·exact Nat.le_trans h4 (by decide)
    ·exact Nat.le_trans h4 (by decide)
    ·exact h4
   have hbl:bin (Mm p t+j) j<=2 ^ 21:=Nat.le_trans (CI _ _) (Nat.pow_le_pow_right (by decide) (by omega));have hAB:A*bin (Mm p t+j) j<=2097152*2 ^ 21:=Nat.mul_le_mul hA hbl;have hABs:A*bin (Mm p t+j) j*(Mm p t+j+1)<=2097152*2 ^ 21*22:=Nat.mul_le_mul hAB (by omega);have e2:((A*bin (Mm p t+j) j:Nat):Int)*(((Mm p t+j:Nat):Int)+1)=((A*bin (Mm p t+j+1) (j+1)*(j+1):Nat):Int):=by
    rw [e1,<- Int.natCast_mul,Nat.mul_assoc,Nat.mul_assoc,Nat.mul_comm (bin (Mm p t+j) j),<- hb]
   have e3:A*bin (Mm p t+j) j*(Mm p t+j+1)=A*bin (Mm p t+j+1) (j+1)*(j+1):=by
    rw [Nat.mul_assoc,Nat.mul_assoc,Nat.mul_comm (bin (Mm p t+j) j),<- hb]
   have e4:((A*bin (Mm p t+j+1) (j+1)*(j+1):Nat):Int).tdiv ((j:Int)+1)=((A*bin (Mm p t+j+1) (j+1):Nat):Int):=by
    rw [show (j:Int)+1=((j+1:Nat):Int) by omega,<- Int.ofNat_tdiv,Nat.mul_div_cancel _ (by omega)]
   have e5:A*bin (Mm p t+j+1) (j+1)<=A*bin (Mm p t+j+1) (j+1)*(j+1):=Nat.le_mul_of_pos_right _ (by omega);rw [e2,e4];rw [e3] at hABs;obtain ⟨M,hM⟩:∃ M,A*bin (Mm p t+j+1) (j+1)=M:=⟨_,rfl⟩;rw [hM] at hABs e5 ⊢;have hfin:((j:Int)+1,((Mm p t+j:Nat):Int)+1,(M:Int))=(((j+1:Nat):Int),((Mm p t+(j+1):Nat):Int),((A*bin (Mm p t+(j+1)) (j+1):Nat):Int)):=by rw [<- hM];rfl
   generalize M*(j+1)=M2 at *;exact .gdI (by omega) (.gdI (by omega) (.gdI (by omega) (.gdD (by omega) (.gdI (by omega) (.pure ⟨⟨j+1,by omega,hfin⟩,by simp only [];omega⟩)))))
  ·have : j=kJ p t:=by unfold kJ at *;omega
   subst this
   rfl
 ·rw [pfT,Mm,<- F6 (Mm p t) (kJ p t),<- h3];simp only [Nat.mul_assoc,Nat.mul_comm,Nat.mul_left_comm]
 ·have ht3:t<3:=by omega
  have hs:Mm p (t+1)<=7*(t+1):=by rw [Mm];omega
  have hbl:=Nat.le_trans (CI (Mm p (t+1)) (kJ p t)) (Nat.pow_le_pow_right (by decide) hs);rcases (by omega:t=0\/t=1\/t=2) with rfl | rfl | rfl
  ·exact Nat.le_trans (Nat.mul_le_mul h4 hbl) (by decide)
  ·exact Nat.le_trans (Nat.mul_le_mul h4 hbl) (by decide)
  ·exact Nat.le_trans (Nat.mul_le_mul h4 hbl) (by decide)
 ·rw [Mm];omega
end
section
variable {p:List (List Ma)} {x x':XS} {F F':LI}
def j6 (p:List (List Ma)):Nat->List ah
 | 0=>[]
 | t+1=>j6 p t++(List.range (kJ p t)).map fun k:Nat=>(⟨(t:Int),(k:Int)⟩:ah)
theorem CJ {n:Nat} {t k:Nat} (ht:t<n) (hk:k<kJ p t):(⟨(t:Int),(k:Int)⟩:ah)∈j6 p n:=by
 induction n with
 | zero=>omega
 | succ n ih=>
  rw [j6,List.mem_append]
  by_cases e:t=n
  ·subst e;exact .inr (List.mem_map.2 ⟨k,List.mem_range.2 hk,rfl⟩)
  ·exact .inl (ih (by omega))
theorem JH {n:Nat} (hn:n<=p.length) {g:ah} (h:g∈j6 p n):∃ t k:Nat,t<p.length/\k<kJ p t/\g=⟨t,k⟩:=by
 induction n with
 | zero=>cases h
 | succ n ih=>
  rw [j6,List.mem_append] at h;rcases h with h | h
  ·exact ih (by omega) h
  ·obtain ⟨k,hk,rfl⟩:=List.mem_map.1 h;exact ⟨n,k,by omega,List.mem_range.1 hk,rfl⟩
theorem CK (hp:PV p) (n:Nat):(j6 p n).length<=7*n:=by
 induction n with
 | zero=>exact Nat.le_refl _
 | succ n ih=>
  have : kJ p n<=7:=hp.vs.2 n;rw [j6,lla,llm,List.length_range];omega
theorem xO (hp:PV p):Mg (jk p) (· = j6 p p.length):=by
 have hl:=hp.vs.1;unfold jk;refine Mg.bind (P:=(· = j6 p p.length)) ?_ fun v hv => .pure hv;refine Mg.loop (fun s=>∃ t:Nat,t<=p.length/\s=(j6 p t,(t:Int))) (fun s=>((p.length:Int)-s.2).toNat) ⟨0,by omega,rfl⟩ fun s ⟨t,h1,h2⟩ => ?_;subst h2;unfold kG;simp only [tnn];have hgl:=CK hp t;have hr:(p.getD t default).length<=7:=hp.vs.2 t;refine .bifD (fun ht=>?_) fun ht => .pure (by rw [show t=p.length by omega]);refine Mg.bind (P:=(· = j6 p (t+1))) (.gdD ⟨by omega,ht⟩ ?_) fun v hv => .gdI (by omega) (.pure ⟨⟨t+1,by omega,by rw [hv];rfl⟩,by simp only [];omega⟩);refine Mg.loop (fun s=>∃ k:Nat,k<=kJ p t/\s=(j6 p t++(List.range k).map fun k:Nat=>(⟨(t:Int),(k:Int)⟩:ah),(k:Int))) (fun s=>(((p.getD t default).length:Int)-s.2).toNat) ⟨0,by omega,by simp⟩ fun s ⟨k,k1,k2⟩ => ?_;subst k2;unfold jI;simp only [tnn];refine .bifD (fun hk=>?_) fun hk => .pure ?_
 ·refine .gd (aC (by simp;omega) rfl) (.gdI (by omega) (.pure ⟨⟨k+1,by unfold kJ;omega,?_⟩,by simp only [];omega⟩));rw [List.range_succ,List.map_append,<- List.append_assoc]
  rfl
 ·have : k=kJ p t:=by unfold kJ at *;omega
  subst this
  rfl
def Bz (a b:Ma):Bool:=((a.Op != 4&&b.Op != 4)&&(a.Loc==b.Loc))&&(wrX a||wrX b)
theorem zY (a b:Ma):Mg (jl a b) (· = Bz a b):=by
 unfold jl Bz;refine Mg.bind (P:=(· = (a.Op != 4&&b.Op != 4))) (.bif (fun h => .pure (by rw [h];rfl)) fun h => .pure (by rw [h];rfl)) fun v1 h1=>?_;rw [<- h1];refine Mg.bind (P:=(· = (v1&&(a.Loc==b.Loc)))) (.bif (fun h => .pure (by rw [h];rfl)) fun h => .pure (by rw [h];rfl)) fun v2 h2=>?_;rw [<- h2];refine Mg.bind (P:=(· = (v2&&(wrX a||wrX b)))) (.bif (fun h=>?_) fun h => .pure (by rw [h];rfl)) fun v hv => .pure hv;refine (sG a).bind fun v7 h7=>Mg.bind (P:=(· = (wrX a||wrX b))) (.bif (fun h => .pure (by rw [<- h7,h];rfl)) fun h=>(sG b).bind fun v10 h10 => .pure (by rw [<- h7,h,h10];rfl)) fun v8 h8 => .pure (by rw [h,h8];rfl)
def gIn (p:List (List Ma)) (a:ah):Ma:=(p.getD a.Thread.toNat default).getD a.Index.toNat default
def rB (p:List (List Ma)) (a b:ah):Bool:=(decide (a.Thread<b.Thread)&&Bz (gIn p a) (gIn p b))&&((gIn p a).Op != 5||(gIn p b).Op != 5)
theorem F8 (hp:PV p) (hv:au p=some true):Mg (jQ p) fun l=>l.length<=441/\(l=[]->∀ a∈j6 p p.length,∀ b∈j6 p p.length,rB p a b=false):=by
 have hl:=hp.vs.1;have hn:(j6 p p.length).length<=21:=by have := CK hp p.length;omega
 have hok:∀ i:Nat,i<(j6 p p.length).length->∃ t k:Nat,t<p.length/\k<kJ p t/\(j6 p p.length).getD i default=⟨t,k⟩:=fun i hi=>JH (Nat.le_refl _) (getD_in hi);unfold jQ;refine (Mg.of (P:=(· = true)) hv rfl).bind fun b hb => .bif (fun h=>by subst hb;cases h) fun _=>?_;refine Mg.bind (P:=fun l:List ak=>l.length<=441/\(l=[]->∀ a∈j6 p p.length,∀ b∈j6 p p.length,rB p a b=false)) ?_ fun v hv => .pure hv;refine (xO hp).bind fun G hG=>?_;subst hG;generalize hGG:j6 p p.length=G at *;refine Mg.loop (fun s=>∃ i:Nat,i<=G.length/\s.2=(i:Int)/\s.1.length<=21*i/\(s.1=[]->∀ i' j':Nat,i'<i->j'<G.length->rB p (G.getD i' default) (G.getD j' default)=false)) (fun s=>((G.length:Int)-s.2).toNat) ⟨0,by omega,rfl,Nat.le_refl _,fun _ i' j' h=>absurd h (by omega)⟩ fun s ⟨i,h1,h2,h3,h4⟩ => ?_;obtain ⟨l,z⟩:=s;simp only at h2 h3 h4;subst h2;unfold jo;simp only [tnn];refine .bifD (fun hi=>?_) fun hi => .pure ⟨by omega,fun e a ha b hb=>?_⟩
 ·refine Mg.bind (P:=fun l':List ak=>l'.length<=21*(i+1)/\(l'=[]->∀ i' j':Nat,i'<i+1->j'<G.length->rB p (G.getD i' default) (G.getD j' default)=false)) (.gdD ⟨by omega,hi⟩ ((xO hp).bind fun G2 hG2=>?_)) fun l' ⟨g1,g2⟩ => .gdI (by omega) (.pure ⟨⟨i+1,by omega,rfl,g1,g2⟩,by simp only [];omega⟩);rw [hGG] at hG2;subst hG2;refine Mg.loop (fun s=>∃ j:Nat,j<=G2.length/\s.2=(j:Int)/\s.1.length<=l.length+j/\(s.1=[]->l=[]/\∀ j':Nat,j'<j->rB p (G2.getD i default) (G2.getD j' default)=false)) (fun s=>((G2.length:Int)-s.2).toNat) ⟨0,by omega,rfl,by simp,fun e=>⟨e,fun j' h=>absurd h (by omega)⟩⟩ fun s ⟨j,k1,k2,k3,k4⟩ => ?_;obtain ⟨l2,z⟩:=s;simp only at k2 k3 k4;subst k2;unfold jm;simp only [tnn];refine .bifD (fun hj=>?_) fun hj => .pure ⟨by omega,fun e i' j' hi' hj' => ?_⟩
  ·obtain ⟨t,a,t1,a1,eA⟩:=hok i (by omega);obtain ⟨u,b,u1,b1,eB⟩:=hok j (by omega);have hA:gIn p (G2.getD i default)=(p.getD t default).getD a default:=by rw [eA];unfold gIn;simp only [tnn]
   have hB:gIn p (G2.getD j default)=(p.getD u default).getD b default:=by rw [eB];unfold gIn;simp only [tnn]
   have hR:rB p (G2.getD i default) (G2.getD j default)=((decide ((G2.getD i default).Thread<(G2.getD j default).Thread)&&Bz ((p.getD t default).getD a default) ((p.getD u default).getD b default))&&(((p.getD t default).getD a default).Op != 5||((p.getD u default).getD b default).Op != 5)):=by
    unfold rB;rw [hA,hB]
   have a1':a<(p.getD t default).length:=a1;have b1':b<(p.getD u default).length:=b1;refine Mg.bind (P:=fun l':List ak=>l'.length<=l.length+(j+1)/\(l'=[]->l=[]/\∀ j':Nat,j'<j+1->rB p (G2.getD i default) (G2.getD j' default)=false)) (.gdD ⟨by omega,hj⟩ (.gdD (by rw [eA];simp only [];omega) (.gdD (by rw [eA];simp only [tnn];omega) (.gdD (by rw [eB];simp only [];omega) (.gdD (by rw [eB];simp only [tnn];omega) ?_))))) fun l' ⟨g1,g2⟩ => .gdI (by omega) (.pure ⟨⟨j+1,by omega,rfl,g1,g2⟩,by simp only [];omega⟩);have eA2:(p.getD ((G2.getD i default).Thread).toNat default).getD ((G2.getD i default).Index).toNat default=(p.getD t default).getD a default:=hA;have eB2:(p.getD ((G2.getD j default).Thread).toNat default).getD ((G2.getD j default).Index).toNat default=(p.getD u default).getD b default:=hB;rw [eA2,eB2];refine Mg.bind (P:=(· = (decide ((G2.getD i default).Thread<(G2.getD j default).Thread)&&Bz ((p.getD t default).getD a default) ((p.getD u default).getD b default)))) (.bif (fun h=>(zY _ _).bind fun v hv => .pure (by rw [hv,h];rfl)) fun h => .pure (by rw [h];rfl)) fun v36 h36=>?_;refine Mg.bind (P:=(· = rB p (G2.getD i default) (G2.getD j default))) (.bif (fun h=>Mg.bind (P:=(· = (((p.getD t default).getD a default).Op != 5||((p.getD u default).getD b default).Op != 5))) (.bif (fun h => .pure (by rw [h];rfl)) fun h => .pure (by rw [h];rfl)) fun v41 h41 => .pure (by rw [hR,<- h36,h,h41];rfl)) fun h => .pure (by rw [hR,<- h36,h];rfl)) fun v39 h39=>?_;subst h39;refine .bif (fun h => .gd (aC (by omega) rfl) (.pure ⟨by simp;omega,fun e=>by simp at e⟩)) fun h => .pure ⟨by omega,fun e=>?_⟩;obtain ⟨e1,e2⟩:=k4 e;refine ⟨e1,fun j' hj' => ?_⟩
   by_cases ej:j'=j
   ·subst ej;exact h
   ·exact e2 j' (by omega)
  ·obtain ⟨e1,e2⟩:=k4 e
   by_cases ei:i'=i
   ·subst ei;exact e2 j' (by omega)
   ·exact h4 e1 i' j' (by omega) hj'
 ·obtain ⟨i',hi',rfl⟩:=List.getElem_of_mem ha;obtain ⟨j',hj',rfl⟩:=List.getElem_of_mem hb;have := h4 e i' j' (by omega) hj';rw [gdq,gdq,geq hi',geq hj'] at this;exact this
theorem zZ (hp:PV p) (hv:au p=some true):Mg (jp p) fun b=>b=true->∀ a∈j6 p p.length,∀ b∈j6 p p.length,rB p a b=false:=by
 unfold jp;refine (Mg.of (P:=(· = true)) hv rfl).bind fun b hb=>?_;refine Mg.bind (P:=fun b=>b=true->∀ a∈j6 p p.length,∀ b∈j6 p p.length,rB p a b=false) (.bif (fun _=>(F8 hp hv).bind fun l ⟨_,h2⟩ => .pure fun h=>h2 ?_) fun h=>by subst hb;cases h) fun v hv => .pure hv;have h:(l.length:Int)=0:=by simpa using h
 exact List.length_eq_zero_iff.1 (by omega)
theorem Aa (hp:PV p) (hv:au p=some true) (op:Int):Mg (jq p op) fun v=>v<=0->∀ t k:Nat,t<p.length->k<kJ p t->(ins p t k).Op≠op:=by
 have hl:=hp.vs.1;unfold jq;refine (Mg.of (P:=(· = true)) hv rfl).bind fun b hb => .bif (fun h=>by subst hb;cases h) fun _=>?_;refine Mg.bind (P:=fun v:Int=>v<=0->∀ t k:Nat,t<p.length->k<kJ p t->(ins p t k).Op≠op) ?_ fun v hv => .pure hv;refine Mg.loop (fun s=>∃ t:Nat,t<=p.length/\s.1=(t:Int)/\0<=s.2/\s.2<=7*(t:Int)/\(s.2<=0->∀ u k:Nat,u<t->k<kJ p u->(ins p u k).Op≠op)) (fun s=>((p.length:Int)-s.1).toNat) ⟨0,by omega,rfl,Int.le_refl _,Int.le_refl _,fun _ u k h=>absurd h (by omega)⟩ fun s ⟨t,h1,h2,h3,h4,h5⟩ => ?_;obtain ⟨z,c⟩:=s;simp only at h2 h3 h4 h5;subst h2;unfold lV;simp only [tnn];refine .bifD (fun ht=>?_) fun ht => .pure fun hc=>by rw [<- show t=p.length by omega];exact h5 hc
 have hr:(p.getD t default).length<=7:=hp.vs.2 t;refine Mg.bind (P:=fun c':Int=>0<=c'/\c'<=7*((t:Int)+1)/\(c'<=0->∀ u k:Nat,u<t+1->k<kJ p u->(ins p u k).Op≠op)) (.gdD ⟨by omega,ht⟩ ?_) fun c' ⟨g1,g2,g3⟩ => .gdI (by omega) (.pure ⟨⟨t+1,by omega,rfl,g1,by simp only [];omega,g3⟩,by simp only [];omega⟩);refine Mg.loop (fun s=>∃ j:Nat,j<=kJ p t/\s.1=(j:Int)/\0<=s.2/\s.2<=7*(t:Int)+(j:Int)/\(s.2<=0->c<=0/\∀ k:Nat,k<j->(ins p t k).Op≠op)) (fun s=>(((p.getD t default).length:Int)-s.1).toNat) ⟨0,by omega,rfl,h3,by simp only [];omega,fun hc=>⟨hc,fun k h=>absurd h (by omega)⟩⟩ fun s ⟨j,j1,j2,j3,j4,j5⟩ => ?_;obtain ⟨z,d⟩:=s;simp only at j2 j3 j4 j5;subst j2;unfold ll;simp only [tnn];unfold kJ at j1;refine .bifD (fun hj=>?_) fun hj => .pure ⟨j3,by omega,fun hc u k hu hk=>?_⟩
 ·refine Mg.bind (P:=fun d':Int=>0<=d'/\d'<=7*(t:Int)+((j:Int)+1)/\(d'<=0->c<=0/\∀ k:Nat,k<j+1->(ins p t k).Op≠op)) (.gdD ⟨by omega,hj⟩ (.bif (fun h => .gdI (by omega) (.pure ⟨by omega,by omega,fun h=>by omega⟩)) fun h => .pure ⟨j3,by omega,fun hc=>?_⟩)) fun d' ⟨g1,g2,g3⟩ => .gdI (by omega) (.pure ⟨⟨j+1,by unfold kJ;omega,rfl,g1,by simp only [];omega,g3⟩,by simp only [];omega⟩);obtain ⟨e1,e2⟩:=j5 hc;refine ⟨e1,fun k hk=>?_⟩
  by_cases ek:k=j
  ·subst ek;intro e;have : (((p.getD t default).getD k default).Op==op)=true:=by rw [beq_iff_eq];exact e
   rw [this] at h
   cases h
  ·exact e2 k (by omega)
 ·obtain ⟨e1,e2⟩:=j5 hc
  by_cases eu:u=t
  ·subst eu;exact e2 k (by unfold kJ at hk;omega)
  ·exact h5 e1 u k (by omega) hk
def NoR (p:List (List Ma)):Prop:=∀ t k u j:Nat,Isn p t k->Isn p u j->t≠u->(ins p t k).Loc=(ins p u j).Loc->wrX (ins p t k)=true->False
theorem KE (h:∀ a∈j6 p p.length,∀ b∈j6 p p.length,rB p a b=false) (h5:∀ t k:Nat,t<p.length->k<kJ p t->(ins p t k).Op≠5):NoR p:=fun t k u j hk hj hne hloc hw=>by
 have g:∀ t k:Nat,gIn p ⟨(t:Int),(k:Int)⟩=ins p t k:=fun t k=>by unfold gIn ins;simp only [tnn]
 have mk:=CJ (p:=p) hk.t hk.k;have mj:=CJ (p:=p) hj.t hj.k;have n4:∀ t k,Isn p t k->((ins p t k).Op != 4)=true:=fun t k h=>by
  have := h.o;simpa [ins] using this
 have n5:∀ t k,Isn p t k->((ins p t k).Op != 5)=true:=fun t k h=>by
  have := h5 t k h.t h.k;simpa using this
 rcases Nat.lt_or_gt_of_ne hne with hlt | hlt
 ·have := h _ mk _ mj;unfold rB Bz at this;rw [g,g,decide_eq_true (show (t:Int)<(u:Int) by omega),n4 t k hk,n4 u j hj,n5 t k hk,hloc,hw] at this;simp at this
 ·have := h _ mj _ mk;unfold rB Bz at this;rw [g,g,decide_eq_true (show (u:Int)<(t:Int) by omega),n4 t k hk,n4 u j hj,n5 u j hj,hloc,hw] at this;simp at this
end
section
variable {p:List (List Ma)} {x x':XS} {F F':LI}
theorem CL {t j k:Nat} (hj:Isn p t j) (h:j<k):base p t j<base p t k:=by
 have h1:=(Fb t (p.getD t default) (show j+1<=k from h)).length_le;have h2:(Mh t (p.getD t default) (j+1)).length=(Mh t (p.getD t default) j).length+1:=by
  rw [Mh,lla,evI,if_neg hj.o]
  rfl
 unfold base;omega
theorem CM (R:RunOf p x F) {n:Int} (h0:0<=n) (h:n<3):rk F n=n.toNat:=by
 obtain ⟨o,rfl⟩:=R.ini;unfold rk;rw [List.idxOf_append,if_pos (by rcases (by omega:n=0 ∨ n=1 ∨ n=2) with rfl | rfl | rfl <;> decide)];have : n=0\/n=1\/n=2:=by omega
 rcases this with rfl | rfl | rfl <;> rfl
theorem ID (R:RunOf p x F) {n:Int} (h:3<=n):3<=rk F n:=by
 obtain ⟨o,rfl⟩:=R.ini;unfold rk;rw [List.idxOf_append,if_neg (by simp;omega)];simp
theorem F9 (hn:NoR p) (R:RunOf p x F) {i k:Int} (hi:i∈F) (hk:k∈F) (hl:(ev p i).Loc=(ev p k).Loc) (hw:(ev p i).Writes=true):(rk F i<rk F k↔i<k)/\(rk F k<rk F i↔k<i):=by
 obtain ⟨i0,i1⟩:=(R.mem i).1 hi;obtain ⟨k0,k1⟩:=(R.mem k).1 hk;rcases di i0 i1 with hi3 | ⟨t,a,ha,rfl⟩
 ·rcases di k0 k1 with hk3 | ⟨u,b,hb,rfl⟩
  ·rw [CM R i0 hi3,CM R k0 hk3];omega
  ·have g:=vH (p:=p) u b;have h1:=CM R i0 hi3;have h2:=ID R (n:=(base p u b:Int)) (by omega);omega
 ·rcases di k0 k1 with hk3 | ⟨u,b,hb,rfl⟩
  ·have g:=vH (p:=p) t a;have h1:=CM R k0 hk3;have h2:=ID R (n:=(base p t a:Int)) (by omega);omega
  ·rw [ha.ev.1,hb.ev.1] at hl;rw [ha.ev.1] at hw
   by_cases e:t=u
   ·subst e;rcases Nat.lt_trichotomy a b with h | h | h
    ·have h1:=CL ha h;have h2:=Bj R ha hb h;omega
    ·subst h;omega
    ·have h1:=CL hb h;have h2:=Bj R hb ha h;omega
   ·exact (hn t a u b ha hb e hl hw).elim
theorem CN:∀ {l k:LI},l.Pairwise (· < ·)->k.Pairwise (· < ·)->(∀ n,n∈l↔n∈k)->l=k
 | [],[],_,_,_=>rfl
 | [],b::k,_,_,h=>absurd ((h b).2 List.mem_cons_self) (by simp)
 | a::l,[],_,_,h=>absurd ((h a).1 List.mem_cons_self) (by simp)
 | a::l,b::k,h1,h2,h=>by
  obtain ⟨a1,a2⟩:=List.pairwise_cons.1 h1;obtain ⟨b1,b2⟩:=List.pairwise_cons.1 h2;have hab:a=b:=by
   rcases List.mem_cons.1 ((h a).1 List.mem_cons_self) with e | e
   ·exact e
   ·rcases List.mem_cons.1 ((h b).2 List.mem_cons_self) with e2 | e2
    ·exact e2.symm
    ·have := a1 b e2;have := b1 a e;omega
  subst hab;rw [CN a2 b2 fun n=>⟨fun hn=>?_,fun hn=>?_⟩]
  ·rcases List.mem_cons.1 ((h n).1 (List.mem_cons_of_mem _ hn)) with e | e
   ·have := a1 n hn;omega
   ·exact e
  ·rcases List.mem_cons.1 ((h n).2 (List.mem_cons_of_mem _ hn)) with e | e
   ·have := b1 n hn;omega
   ·exact e
theorem IE (hn:NoR p) (R:RunOf p x F) {l:Int} (hl:0<=l/\l<=2):(od x l).Pairwise (· < ·):=by
 obtain ⟨O,_⟩:=R.od l hl;refine List.pairwise_iff_getElem.2 fun i j hi hj hij=>?_;have h1:=O.rk i j hij hj;rw [gdq,gdq,geq hi,geq hj] at h1;obtain ⟨a1,a2,a3⟩:=(O.mem _).1 (List.getElem_mem hi);obtain ⟨b1,b2,b3⟩:=(O.mem _).1 (List.getElem_mem hj);exact (F9 hn R a1 b1 (a3.trans b3.symm) a2).1.1 h1
theorem Ga (hn:NoR p) (R:RunOf p x F) (R':RunOf p x' F') {l:Int} (hl:0<=l/\l<=2):od x l=od x' l:=
 CN (IE hn R hl) (IE hn R' hl) fun n=>by rw [(R.od l hl).1.mem,(R'.od l hl).1.mem,R.mem,R'.mem]
theorem H5 (hp:PV p) (hn:NoR p) (R:RunOf p x F) (R':RunOf p x' F'):x=x':=by
 have h2:x.2=x'.2:=Kr R.olen R'.olen fun i hi=>by
  have := Ga hn R R' (l:=(i:Int)) (by omega);unfold od at this
  rwa [tnn] at this
 have h1:x.1=x'.1:=ng (by rw [R.flen,R'.flen]) fun i hi=>by
  rw [R.flen] at hi;have hm:(i:Int)∈F:=(R.mem _).2 ⟨by omega,by omega⟩;have hm':(i:Int)∈F':=(R'.mem _).2 ⟨by omega,by omega⟩
  cases hr:(ev p (i:Int)).Reads with
  | false=>
   have e1:=R.frN _ hm hr;have e2:=R'.frN _ hm' hr;rw [tnn] at e1 e2;rw [e1,e2]
  | true=>
   have hl:=kI hp (n:=(i:Int)) (by omega) (by omega);obtain ⟨c,c1,c2,c3⟩:=R.rd hp hm hr;obtain ⟨d,d1,d2,d3⟩:=R'.rd hp hm' hr;rw [tnn] at c2 d2;have ho:=Ga hn R R' hl;rw [<- ho] at d1 d2 d3;have O:=(R.od _ hl).1;have O':=(R'.od _ hl).1;have key:∀ q,q<(od x (ev p (i:Int)).Loc).length->(q<=c↔q<=d):=fun q hq=>by
    have hin:=oJ hq;have a:=(O.mem _).1 hin;have b:=(O'.mem _).1 (by rw [<- ho];exact hin);rw [c3 q hq,d3 q hq,(F9 hn R a.1 hm a.2.2 a.2.1).1,(F9 hn R' b.1 hm' b.2.2 b.2.1).1]
   have : c=d:=by
    have := (key c c1).1 (Nat.le_refl _);have := (key d d1).2 (Nat.le_refl _);omega
   rw [c2,d2,this]
 cases x
 cases x'
 simp only at h1 h2;rw [h1,h2]
def wF (p:List (List Ma)) (n:Nat):LI:=(List.range n).flatMap fun t:Nat=>List.replicate (kJ p t) (t:Int)
theorem Gb (n:Nat):wF p (n+1)=wF p n++List.replicate (kJ p n) (n:Int):=by
 unfold wF;rw [List.range_succ,List.flatMap_append];simp
theorem xP (n t:Nat):(wF p n).count (t:Int)=if t<n then kJ p t else 0:=by
 induction n with
 | zero=>simp [wF]
 | succ n ih=>
  rw [Gb,List.count_append,ih,List.count_replicate];simp only [beq_iff_eq]
  by_cases e:t=n
  ·subst e;rw [if_neg (by omega),if_pos rfl,if_pos (by omega)];omega
  ·rw [if_neg (show ¬ (n:Int)=(t:Int) by omega)]
   by_cases h:t<n
   ·rw [if_pos h,if_pos (by omega)];omega
   ·rw [if_neg h,if_neg (by omega)]
theorem H6 {n:Nat} {v:Int} (h:v∈wF p n):0<=v/\v<(n:Int):=by
 unfold wF at h;obtain ⟨t,ht,hv⟩:=List.mem_flatMap.1 h;have := List.mem_range.1 ht;rw [(List.mem_replicate.1 hv).2];omega
theorem DG (hv:bu (Ml p)=true):Whole p (wF p p.length):=by
 refine ⟨hv,fun j hj=>?_,fun t ht=>by rw [xP,if_pos ht];rfl⟩;have e:(wF p p.length).getD j default=(wF p p.length)[j]:=by rw [gdq,geq hj];rfl
 have hm:=H6 (List.getElem_mem hj);rw [e];refine ⟨hm,?_⟩;have h1:=xP (p:=p) p.length (wF p p.length)[j].toNat;rw [if_pos (by omega),Int.toNat_of_nonneg hm.1] at h1;have h2:wF p p.length=(wF p p.length).take j++(wF p p.length)[j]::(wF p p.length).drop (j+1):=by
  rw [<- List.drop_eq_getElem_cons hj,List.take_append_drop]
 have h3:(wF p p.length).count (wF p p.length)[j]=((wF p p.length).take j).count (wF p p.length)[j]+((wF p p.length)[j]::(wF p p.length).drop (j+1)).count (wF p p.length)[j]:=by
  rw [<- List.count_append,<- h2]
 rw [List.count_cons_self] at h3;show _<kJ p _;omega
theorem H7 (hp:PV p) {s:LI} (hw:Whole p s):Wd (kJ p 0) (kJ p 1) (kJ p 2) s:=by
 have hl:=hp.vs.1;have hin:∀ v∈s,0<=v/\v<(p.length:Int):=fun v hv=>by
  obtain ⟨i,hi,e⟩:=List.getElem_of_mem hv;have := (hw.2.1 i hi).1;rw [gdq,geq hi] at this;rw [<- e];exact this
 have hc:∀ t:Nat,s.count (t:Int)=kJ p t:=fun t=>by
  by_cases ht:t<p.length
  ·exact hw.2.2 t ht
  ·rw [List.count_eq_zero.2 fun hm=>by have := hin _ hm;omega];unfold kJ;rw [gdq,gen (by omega)]
   rfl
 have key:∀ s:LI,(∀ v∈s,0<=v/\v<3)->s.length=s.count 0+s.count 1+s.count 2:=fun s=>by
  induction s with
  | nil=>intro _;rfl
  | cons a l ih=>
   intro h;have h1:=ih fun v hv=>h v (List.mem_cons_of_mem _ hv);have h2:=h a List.mem_cons_self;rw [llc,List.count_cons,List.count_cons,List.count_cons];simp only [beq_iff_eq];rcases (by omega:a=0\/a=1\/a=2) with rfl | rfl | rfl <;> simp <;> omega
 have c0:s.count 0=kJ p 0:=hc 0;have c1:s.count 1=kJ p 1:=hc 1;have c2:s.count 2=kJ p 2:=hc 2;exact ⟨by rw [key s fun v hv=>by have := hin v hv;omega,c0,c1,c2],c0,c1,c2⟩
theorem pf3 (hl:p.length<=3):pfT p p.length=pf (kJ p 0) (kJ p 1) (kJ p 2)/\Mm p p.length=kJ p 0+kJ p 1+kJ p 2:=by
 have z:∀ t,p.length<=t->kJ p t=0:=fun t ht=>by
  unfold kJ;rw [gdq,gen ht]
  rfl
 have h:∀ n,p.length+n=3->pfT p p.length=pfT p 3/\Mm p p.length=Mm p 3:=fun n hn=>by
  rcases (by omega:p.length=3\/p.length=2\/p.length=1\/p.length=0) with e | e | e | e
  ·rw [e];exact ⟨rfl,rfl⟩
  ·rw [e];simp only [pfT,Mm];rw [z 2 (by omega)];exact ⟨by simp [Mf],by omega⟩
  ·rw [e];simp only [pfT,Mm];rw [z 2 (by omega),z 1 (by omega)];exact ⟨by simp [Mf],by omega⟩
  ·rw [e];simp only [pfT,Mm];rw [z 2 (by omega),z 1 (by omega),z 0 (by omega)];exact ⟨by simp [Mf],by omega⟩
 obtain ⟨h1,h2⟩:=h (3-p.length) (by omega);rw [h1,h2];refine ⟨?_,?_⟩
 ·simp only [pfT,pf,Nat.one_mul]
 ·simp only [Mm];omega
theorem Ll {b:LI} (hb:Bts b):cm b=some true:=by
 refine Mg.eq ?_;unfold cm;refine .bifD (fun _ => .pure rfl) fun _=>(KD hb).bind fun p hp=>?_;have hsz:=hp.sz;have hV:au p=some (bu (Ml p)):=kV (decide_eq_true hsz);obtain ⟨q,e1,e2,q0,q1⟩:=Dx hsz;refine (Mg.of (P:=(· = q)) e1 rfl).bind fun v3 h3=>(Mg.of (P:=(· = q)) e2 rfl).bind fun v4 h4=>?_;subst v3 v4
 cases hv:bu (Ml p) with
 | false=>
  rw [hv] at hV;obtain rfl:=q0 hv;refine (qp (by simp) (fun r hr=>by cases hr)).bind fun v5 h5=>?_;refine Mg.bind (P:=(· = true)) (.bif (fun _ => .pure rfl) fun _=>(Mg.of (P:=(· = false)) hV rfl).bind fun v8 h8 => .pure (by rw [h8];rfl)) fun s6 h6 => .bif (fun _=>?_) fun h=>by subst h6;cases h
  refine (Mg.of (P:=(· = [])) e2 rfl).bind fun v10 h10=>?_;subst h10;refine (qp (by simp) (fun r hr=>by cases hr)).bind fun v11 h11=>?_;exact Mg.bind (P:=(· = true)) (.bif (fun _ => .pure rfl) fun h=>by subst h11;simp at h) fun v hv => .pure hv
 | true=>
  rw [hv] at hV;have hpv:=PV.of hv;have hl:=hpv.vs.1;obtain ⟨q2,q3,q4⟩:=q1 hv;have hql:∀ r∈q,r.length<=1048576:=fun r hr=>by have := FT hpv ((q3 r).1 hr).1;omega
  have hnd:q.Nodup:=q2.imp fun h=>Ce h;refine (qp (by omega) hql).bind fun v5 h5=>?_;have h5':v5=true:=by rw [h5];exact decide_eq_true rfl
  refine Mg.bind (P:=(· = false)) (.bif (fun h=>by rw [h5'] at h;cases h) fun _=>(Mg.of (P:=(· = true)) hV rfl).bind fun v8 h8 => .pure (by rw [h8];rfl)) fun s6 h6 => .bif (fun h=>by subst h6;cases h) fun _=>?_;refine (F7 hpv hV).bind fun v14 ⟨n,hn,hn2⟩ => ?_;subst hn;have hqn:q.length<=n:=by
   obtain ⟨a1,a2⟩:=pf3 hl;have := uH _ _ _ _ rfl q hnd fun o ho=>H7 hpv ((q3 o).1 ho).1;rw [a1,a2] at hn2;rw [<- hn2] at this;refine Nat.le_of_mul_le_mul_right this ?_;unfold pf;exact Nat.mul_pos (Nat.mul_pos (mX _) (mX _)) (mX _)
  refine Mg.bind (P:=(· = true)) (.bifD (fun _=>?_) fun h=>absurd (by omega) h) fun s15 h15=>?_
  ·refine (F4 hsz).bind fun v17 ⟨_,g1⟩ => .pure (decide_eq_true ?_);obtain ⟨g2,g3⟩:=g1 hv;have := List.Nodup.length_le_of_subset (l₂:=q.map fun l=>zJ (uR p l l.length)) (g2.imp fun h=>Ce h) fun o ho=>by
    obtain ⟨s,a1,a2⟩:=FY hv ((g3 o).1 ho);obtain ⟨l,a3,a4⟩:=CG a1;exact List.mem_map.2 ⟨l,(q3 l).2 a3,a4.trans a2⟩
   rw [llm] at this;omega
  ·subst h15;refine Mg.bind (P:=(· = true)) (.bif (fun _=>?_) fun h=>by cases h) fun s18 h18 => .pure h18;refine (zZ hpv hV).bind fun v20 h20=>?_;refine Mg.bind (P:=fun s:Bool=>s=false->NoR p) (.bif (fun _ => .pure nofun) fun h=>(Aa hpv hV 5).bind fun v23 h23 => .pure fun h0=>?_) fun s21 h21=>?_
   ·have h0:=of_decide_eq_false h0;exact KE (h20 (by simpa using h)) (h23 (by omega))
   ·refine Mg.bind (P:=(· = true)) (.bif (fun _ => .pure rfl) fun h => .pure ?_) fun s24 h24 => .pure h24;have hNo:=h21 h;obtain ⟨l,hl1,_⟩:=CG (DG hv);have hone:q=[l]:=by
     have hsub:∀ o∈q,o=l:=fun o ho=>by
      have ht:=(q3 o).1 ho;have R:=mq hpv ht.1;have R':=mq hpv hl1.1;have hx:=H5 hpv hNo R R';have g:=ht.2;rw [hx] at g;exact g.uniq hl1.2
     cases hq:q with
     | nil=>have := (q3 l).2 hl1;rw [hq] at this;cases this
     | cons a r=>
      rw [hq] at hsub hnd;obtain rfl:=hsub a List.mem_cons_self
      cases r with
      | nil=>rfl
      | cons c r=>
       obtain rfl:=hsub c (List.mem_cons_of_mem _ List.mem_cons_self);simp at hnd
    rw [hone]
    rfl
end
theorem Mo:TyF Tryz.prog 3 false 1:=⟨by kernel_rfl,by kernel_rfl,by kernel_rfl,by kernel_rfl⟩
theorem zs3:TyZ Tryz.prog 3 [I (0:Int)]:=⟨by kernel_rfl,by kernel_rfl⟩
theorem ty4:TyF Tryz.prog 4 false 1:=⟨by kernel_rfl,by kernel_rfl,by kernel_rfl,by kernel_rfl⟩
theorem ty5:TyF Tryz.prog 5 false 1:=⟨by kernel_rfl,by kernel_rfl,by kernel_rfl,by kernel_rfl⟩
theorem zs5:TyZ Tryz.prog 5 [Y (0:Int)]:=⟨by kernel_rfl,by kernel_rfl⟩
theorem ty9:TyF Tryz.prog 9 false 1:=⟨by kernel_rfl,by kernel_rfl,by kernel_rfl,by kernel_rfl⟩
theorem zs9:TyZ Tryz.prog 9 [St (⟨#[]⟩:ByteArray)]:=⟨by kernel_rfl,by kernel_rfl⟩
theorem Ab:TyF Tryz.prog 24 false 1:=⟨by kernel_rfl,by kernel_rfl,by kernel_rfl,by kernel_rfl⟩
theorem LQ:TyZ Tryz.prog 24 [.nil]:=⟨by kernel_rfl,by kernel_rfl⟩
theorem DU:TyF Tryz.prog 26 false 1:=⟨by kernel_rfl,by kernel_rfl,by kernel_rfl,by kernel_rfl⟩
theorem IG:TyF Tryz.prog 33 false 1:=⟨by kernel_rfl,by kernel_rfl,by kernel_rfl,by kernel_rfl⟩
theorem lu:TyF Tryz.prog 35 false 1:=⟨by kernel_rfl,by kernel_rfl,by kernel_rfl,by kernel_rfl⟩
theorem LR:TyZ Tryz.prog 35 [.nil]:=⟨by kernel_rfl,by kernel_rfl⟩
theorem wP:TyF Tryz.prog 48 true 2:=⟨by kernel_rfl,by kernel_rfl,by kernel_rfl,by kernel_rfl⟩
theorem Gw:TyZ Tryz.prog 48 [.nil,.nil]:=⟨by kernel_rfl,by kernel_rfl⟩
theorem yM:TyS Tryz.prog 48 [(0,1),(1,1)]:=⟨by kernel_rfl⟩
theorem qw:TyF Tryz.prog 50 false 1:=⟨by kernel_rfl,by kernel_rfl,by kernel_rfl,by kernel_rfl⟩
theorem LS:TyZ Tryz.prog 50 [.nil]:=⟨by kernel_rfl,by kernel_rfl⟩
theorem Lm:TyF Tryz.prog 65 false 1:=⟨by kernel_rfl,by kernel_rfl,by kernel_rfl,by kernel_rfl⟩
theorem LU:TyZ Tryz.prog 65 [.v .nilIface]:=⟨by kernel_rfl,by kernel_rfl⟩
theorem gV:TyF Tryz.prog 70 true 4:=⟨by kernel_rfl,by kernel_rfl,by kernel_rfl,by kernel_rfl⟩
theorem qD:TyZ Tryz.prog 70 [I (0:Int),I (0:Int),I (0:Int),I (0:Int)]:=⟨by kernel_rfl,by kernel_rfl⟩
theorem kg:TyS Tryz.prog 70 [(0,1),(1,1),(2,1),(3,1)]:=⟨by kernel_rfl⟩
theorem Gc:TyF Tryz.prog 84 true 5:=⟨by kernel_rfl,by kernel_rfl,by kernel_rfl,by kernel_rfl⟩
theorem Gx:TyZ Tryz.prog 84 [I (0:Int),I (0:Int),I (0:Int),Bo false,Bo false]:=⟨by kernel_rfl,by kernel_rfl⟩
theorem lm:TyS Tryz.prog 84 [(0,1),(1,1),(2,1),(3,1),(4,1)]:=⟨by kernel_rfl⟩
theorem LK:TyF Tryz.prog 93 false 1:=⟨by kernel_rfl,by kernel_rfl,by kernel_rfl,by kernel_rfl⟩
theorem LV:TyZ Tryz.prog 95 [.nil,.nil,.nil,.nil,.nil,.v (.map none)]:=⟨by kernel_rfl,by kernel_rfl⟩
theorem Ac:TyS Tryz.prog 95 [(0,1),(1,2),(3,1),(4,1),(5,1)]:=⟨by kernel_rfl⟩
theorem JI:TyF Tryz.prog 97 true 3:=⟨by kernel_rfl,by kernel_rfl,by kernel_rfl,by kernel_rfl⟩
theorem LM:TyZ Tryz.prog 97 [I (0:Int),I (0:Int),I (0:Int)]:=⟨by kernel_rfl,by kernel_rfl⟩
theorem Lp:TyZ Tryz.prog 103 [.nil,I (0:Int)]:=⟨by kernel_rfl,by kernel_rfl⟩
theorem tZ:TyS Tryz.prog 103 [(0,1),(1,1)]:=⟨by kernel_rfl⟩
theorem BA:TyF Tryz.prog 115 true 3:=⟨by kernel_rfl,by kernel_rfl,by kernel_rfl,by kernel_rfl⟩
theorem Lr:TyZ Tryz.prog 115 [Y (0:Int),Y (0:Int),Y (0:Int)]:=⟨by kernel_rfl,by kernel_rfl⟩
theorem Ls:TyF Tryz.prog 116 true 9:=⟨by kernel_rfl,by kernel_rfl,by kernel_rfl,by kernel_rfl⟩
theorem Lt:TyZ Tryz.prog 118 [.nil,Y (0:Int),Y (0:Int),Y (0:Int),Y (0:Int),Y (0:Int),Y (0:Int),Y (0:Int),Y (0:Int),Y (0:Int),Y (0:Int),Y (0:Int),Y (0:Int),Y (0:Int),Y (0:Int),Y (0:Int)]:=⟨by kernel_rfl,by kernel_rfl⟩
theorem wQ:TyS Tryz.prog 118 [(0,1),(1,3),(4,9),(13,3)]:=⟨by kernel_rfl⟩
theorem KG:TyF Tryz.prog 120 true 16:=⟨by kernel_rfl,by kernel_rfl,by kernel_rfl,by kernel_rfl⟩
theorem KH:TyZ Tryz.prog 120 [.nil,Y (0:Int),Y (0:Int),Y (0:Int),Y (0:Int),Y (0:Int),Y (0:Int),Y (0:Int),Y (0:Int),Y (0:Int),Y (0:Int),Y (0:Int),Y (0:Int),Y (0:Int),Y (0:Int),Y (0:Int)]:=⟨by kernel_rfl,by kernel_rfl⟩
theorem Gd:TyS Tryz.prog 120 [(0,16)]:=⟨by kernel_rfl⟩
theorem BB:TyF Tryz.prog 127 true 2:=⟨by kernel_rfl,by kernel_rfl,by kernel_rfl,by kernel_rfl⟩
theorem H8:TyZ Tryz.prog 127 [I (0:Int),I (0:Int)]:=⟨by kernel_rfl,by kernel_rfl⟩
theorem BC:TyS Tryz.prog 127 [(0,1),(1,1)]:=⟨by kernel_rfl⟩
theorem Lu:TyF Tryz.prog 129 true 4:=⟨by kernel_rfl,by kernel_rfl,by kernel_rfl,by kernel_rfl⟩
theorem KI:TyZ Tryz.prog 129 [I (0:Int),I (0:Int),I (0:Int),I (0:Int)]:=⟨by kernel_rfl,by kernel_rfl⟩
theorem Lv:TyS Tryz.prog 129 [(0,2),(2,2)]:=⟨by kernel_rfl⟩
theorem bU:SlT Tryz.prog 24 35 false 1 [.nil] 24:=⟨Tryz.underlying24,lu,LR,rfl,rfl,by kernel_rfl⟩
theorem gI:SlT Tryz.prog 26 50 false 1 [.nil] 24:=⟨Tryz.underlying26,qw,LS,rfl,rfl,by kernel_rfl⟩
theorem yT:SlT Tryz.prog 33 5 false 1 [Y (0:Int)] 1:=⟨Tryz.underlying33,ty5,zs5,rfl,rfl,by kernel_rfl⟩
theorem bC:SlT Tryz.prog 35 3 false 1 [I (0:Int)] 8:=⟨Tryz.underlying35,Mo,zs3,rfl,rfl,by kernel_rfl⟩
theorem Gy:SlT Tryz.prog 44 48 true 2 [.nil,.nil] 48:=⟨Tryz.underlying44,wP,Gw,rfl,rfl,by kernel_rfl⟩
theorem lW:SlT Tryz.prog 50 70 true 4 [I (0:Int),I (0:Int),I (0:Int),I (0:Int)] 32:=⟨Tryz.underlying50,gV,qD,rfl,rfl,by kernel_rfl⟩
theorem Lx:SlT Tryz.prog 72 129 true 4 [I (0:Int),I (0:Int),I (0:Int),I (0:Int)] 32:=⟨Tryz.underlying72,Lu,KI,rfl,rfl,by kernel_rfl⟩
theorem rP:SlT Tryz.prog 74 84 true 5 [I (0:Int),I (0:Int),I (0:Int),Bo false,Bo false] 32:=⟨Tryz.underlying74,Gc,Gx,rfl,rfl,by kernel_rfl⟩
theorem yN:SlT Tryz.prog 88 24 false 1 [.nil] 24:=⟨Tryz.underlying88,Ab,LQ,rfl,rfl,by kernel_rfl⟩
theorem LN:KeyA Tryz.prog 97 3 kI3:=by
 obtain ⟨i,hi⟩:=Option.isSome_iff_exists.1 (show (Tryz.prog.info? 3).isSome=true by kernel_rfl);exact K8 Tryz.underlying97 Tryz.underlying3 (by kernel_rfl) hi (by kernel_rfl)
theorem JJ:KeyA Tryz.prog 9 1 EE:=Ka Tryz.underlying9
theorem BD:SlT Tryz.prog 110 65 false 1 [.v .nilIface] 16:=⟨Tryz.underlying110,Lm,LU,rfl,rfl,by kernel_rfl⟩
theorem DI:SlT Tryz.prog 124 127 true 2 [I (0:Int),I (0:Int)] 16:=⟨Tryz.underlying124,BB,H8,rfl,rfl,by kernel_rfl⟩
theorem vW:SlT Tryz.prog 141 9 false 1 [St (⟨#[]⟩:ByteArray)] 16:=⟨Tryz.underlying141,ty9,zs9,rfl,rfl,by kernel_rfl⟩
section
variable {α β:Type} [Inhabited β] {f:α->List Value} {s:Nat} {c:β->List AV} {w:World} {fz:Nat->Prop} {v:Value}
theorem II {u x:Value} (h:FRel w fz (.v u) x):x=u:=by
 cases h with
 | v _=>rfl
theorem xQ {e:β->α} (hf:∀ x,c x=(f (e x)).map AV.v) (hs:∀ x,(f (e x)).length=s) {l:List β} (h:FRel w fz (eL c l) v):Sl f s w 0 w.heap.size v (l.map e):=by
 unfold eL at h
 cases h with
 | sl us hc hm ha hr hu h1 h=>
  refine ⟨_,_,by rw [llm],by simpa using hc,hm,fun hn=>?_⟩;rw [llm] at hn;obtain ⟨rfl,hg,hlt⟩:=ha hn;refine ⟨_,_,rfl,Nat.zero_le _,hlt,hlt,fun k hk j u hu' => ?_⟩;rw [llm] at hk;rw [List.getElem_map] at hu';have hk0:l.getD k default=l[k]:=by simp [List.getD,hk]
  have hrow:(c (l.getD k default))[j]? = some (.v u):=by rw [hk0,hf,List.getElem?_map,hu'];rfl
  have hs':=hr k hk
  dsimp only at hs'
  rw [hf,llm,hs] at hs';subst hs';have h2:=hu k j _ hk hrow;rw [II (h k j _ hk hrow)] at h2;exact h2
theorem tT {e:β->α} (hf:∀ x,c x=(f (e x)).map AV.v) (hs:∀ x,(f (e x)).length=s) {l:List (List β)} (h:FRel w fz (eL (cL c) l) v):wN f s w 0 w.heap.size v (l.map fun r=>r.map e):=by
 unfold eL at h
 cases h with
 | sl us hc hm ha hr hu h1 h=>
  refine ⟨(List.range l.length).map fun i=>us i 0,?_,by simp,fun k hk hk' => ?_⟩
  ·refine ⟨_,_,by rw [llm,List.length_range],by simpa using hc,hm,fun hn=>?_⟩;rw [llm,List.length_range] at hn;obtain ⟨rfl,hg,hlt⟩:=ha hn;refine ⟨_,_,rfl,Nat.zero_le _,hlt,hlt,fun k hk j u hu' => ?_⟩;rw [llm,List.length_range] at hk;rw [List.getElem_map,List.getElem_range] at hu';have hs':=hr k hk;change 1=_ at hs';subst hs'
   match j with
   | 0=>
    have h2:=hu k 0 _ hk rfl;rw [h2];simpa [Ke] using hu'
   | j+1=>simp [Ke] at hu'
  ·rw [llm,List.length_range] at hk;rw [List.getElem_map,List.getElem_map,List.getElem_range];have h2:=h k 0 _ hk rfl;have hk0:l.getD k default=l[k]:=by simp [List.getD,hk]
   rw [hk0] at h2;exact xQ hf hs h2
theorem DJ {e:α->β} (hf:∀ x,c (e x)=(f x).map AV.v) (hs:∀ x,(f x).length=s) (hp:∀ x,∀ u∈f x,plain u=true) {l:List α} {hi:Nat} (h:Sl f s w 0 hi v l):FRel w (fun g=>g<w.heap.size) (eL c (l.map e)) v:=by
 obtain ⟨A,cap,rfl,hc,hm,h⟩:=h;have key:∀ (g o:Nat),(0<l.length->A=some ⟨g,o,none⟩/\g<w.heap.size/\∀ (k:Nat) (h:k<l.length) (j:Nat) (u:Value),(f l[k])[j]? = some u->w.cell? ⟨g,o+k*s+j,none⟩=some u)->FRel w (fun g=>g<w.heap.size) (eL c (l.map e)) (.slice A l.length cap):=by
  intro g o hh;have hrow:∀ (i j:Nat) (a:AV),i<l.length->(c ((l.map e).getD i default))[j]? = some a->∃ u,l[i]?.bind (fun x=>(f x)[j]?)=some u/\a = .v u/\plain u=true/\w.cell? ⟨g,o+i*s+j,none⟩=some u:=by
   intro i j a hi ha;have h0:(l.map e).getD i default=e l[i]:=by simp [List.getD,hi]
   rw [h0,hf,List.getElem?_map] at ha
   cases hq:(f l[i])[j]? with
   | none=>rw [hq] at ha;cases ha
   | some u=>
    rw [hq] at ha;refine ⟨u,by rw [geq hi];exact hq,(osl ha).symm,hp _ u (List.mem_of_getElem? hq),(hh (by omega)).2.2 i hi j u hq⟩
  have e0:(l.map e).length=l.length:=by simp
  unfold eL;rw [e0];refine FRel.sl (s:=s) (g:=g) (o:=o) (fun i j=>(l[i]?.bind fun x=>(f x)[j]?).getD (.bool false)) hc hm (fun hn=>⟨(hh hn).1,(hh hn).2.1,(hh hn).2.1⟩) (fun i hi=>?_) (fun i j a hi ha=>?_) (fun i j a hi ha=>?_) (fun i j a hi ha=>?_)
  ·have h0:(l.map e).getD i default=e l[i]:=by simp [List.getD,hi]
   rw [h0,hf,llm,hs]
  ·obtain ⟨u,h1,h2,h3,h4⟩:=hrow i j a hi ha;simp only [h1,Option.getD_some];exact h4
  ·obtain ⟨u,h1,h2,h3,h4⟩:=hrow i j a hi ha;simp only [h1,Option.getD_some];exact uI h3
  ·obtain ⟨u,h1,h2,h3,h4⟩:=hrow i j a hi ha;subst h2;simp only [h1,Option.getD_some];exact .v h3
 by_cases h0:0<l.length
 ·obtain ⟨b,o,hA,_,_,hlt,hcell⟩:=h h0;exact key b o fun _=>⟨hA,hlt,hcell⟩
 ·exact key 0 0 fun h1=>absurd h1 h0
theorem yO {P:Program} {g:FuncId} {ars:List AV} {r:AV} (h:aB P g ars r) (vs:Array Value) (hl:vs.size=ars.length) (hr:∀ (i:Nat) (a:AV) (v:Value),ars[i]? = some a->vs[i]? = some v->FRel w (fun g=>g<w.heap.size) a v) :
  Calls P g vs w fun e w'=>∃ v fz',e = .returned v/\Below w.heap.size w w'/\FRel w' fz' r v:=
 (h.2 w _ vs (fun g hg=>hg) hl hr).mono fun e w' ⟨v,fz',h1,h2,h3,_⟩=>⟨v,fz',h1,h2,h3⟩
theorem Ly {a:AV} {u:Value} (h:FRel w fz a u):∀ (i:Nat) (a':AV) (v:Value),[a][i]? = some a' -> #[u][i]? = some v->FRel w fz a' v:=by
 intro i a' v h1 h2
 match i with
 | 0=>
  obtain rfl:=osl h1;obtain rfl:u=v:=by simpa using h2
  exact h
 | i+1=>simp at h1
end
theorem DK {w:World} {v:Value} {hi:Nat} {l:LI} (h:Sl Di 1 w 0 hi v l):FRel w (fun g=>g<w.heap.size) (eL cY l) v:=by
 have := DJ (f:=Di) (s:=1) (c:=cY) (e:=id) (fun _=>rfl) (fun _=>rfl) (fun x u hu=>by simp [Di] at hu;subst hu;rfl) h
 rwa [List.map_id] at this
theorem BF {P:Program} {g:FuncId} {ars:List AV} {w:World} {vs:Array Value} (h:aB P g ars (Bo true)) (hl:vs.size=ars.length) (hr:∀ (i:Nat) (a:AV) (v:Value),ars[i]? = some a->vs[i]? = some v->FRel w (fun g=>g<w.heap.size) a v) :
  Calls P g vs w fun e w'=>e = .returned (.bool true)/\Below w.heap.size w w':=
 (yO h vs hl hr).mono fun e w' ⟨v,fz',h1,h2,h3⟩=>⟨by rw [h1,II h3],h2⟩
theorem IJ {vs:Array Value} {a:AV} (hl:vs.size=[a].length):∃ u,vs = #[u]:=by
 obtain ⟨l⟩:=vs
 match l,hl with
 | [u],_=>exact ⟨u,rfl⟩
theorem aZ (p:List (List Ma)) {q:Bool} (h:au p=some q):aB Tryz.prog 21 [eL (cL Ma.c) p] (Bo q):=by
 unfold au at h;obtain ⟨⟨h1,h2⟩,h⟩:=gdD h;obtain rfl:=osl h;refine ⟨by kernel_rfl,fun w fz vs hlt hl hrel=>?_⟩;obtain ⟨u,rfl⟩:=IJ hl;have hs:=tT (f:=Ins.cells) (s:=4) (e:=jV) (fun _=>rfl) (fun _=>rfl) (hrel 0 _ u rfl rfl);refine (ou hs (Nat.le_refl _) (by rw [zB];exact h2)).mono fun e w' ⟨he,hb⟩ => ?_;exact ⟨_,fz,he,hb,.v Z,fun g hg=>hg,fun g hg => .inl hg,fun g hg=>Nat.lt_of_lt_of_le (hlt g hg) hb.size⟩
theorem fT (p:List (List Ma)) {q:Bool} (h:aV p=some q):aB Tryz.prog 50 [eL (cL Ma.c) p] (Bo q):=by
 unfold aV at h;obtain ⟨⟨h1,h2⟩,h⟩:=gdD h;obtain rfl:=osl h;refine ⟨by kernel_rfl,fun w fz vs hlt hl hrel=>?_⟩;obtain ⟨u,rfl⟩:=IJ hl;have hs:=tT (f:=Ins.cells) (s:=4) (e:=jV) (fun _=>rfl) (fun _=>rfl) (hrel 0 _ u rfl rfl);refine (oq hs (Nat.le_refl _) (by rw [zB];exact h2)).mono fun e w' ⟨he,hb⟩ => ?_;exact ⟨_,fz,he,hb,.v Z,fun g hg=>hg,fun g hg => .inl hg,fun g hg=>Nat.lt_of_lt_of_le (hlt g hg) hb.size⟩
theorem CO {p:List (List Ma)} (h:Dz p=true):p.length<=1048576/\∀ i,(p.getD i []).length<=1048576:=by
 simp only [Dz,bae,dte,List.all_eq_true] at h;refine ⟨h.1,fun i=>?_⟩
 by_cases hi:i<p.length
 ·simpa [hi] using h.2 _ (List.getElem_mem hi)
 ·simp [hi]
theorem xS {n m:Nat} (hn:n<=2097152) (hm:Nat.ble m 1000=true):aS n m=true:=by
 have h1:=nlb hm;have h2:n*m<=2097152*1000:=Nat.mul_le_mul hn h1;exact decide_eq_true ⟨by omega,by omega⟩
theorem Gf (p:List (List Ma)) {i:Nat} (h:i<p.length):p.take (i+1)=p.take i++[p.getD i []]:=by
 have e:p.getD i []=p[i]:=by rw [gdq,geq h];rfl
 rw [e];exact (List.take_append_getElem h).symm
theorem Gg (p:List (List Ma)) (hp:Dz p=true):bw Tryz.prog 76 [eL (cL Ma.c) p] [] (AP 4 70 50 Ma.c (fun x=>x) p 0 []):=by
 obtain ⟨hp1,hp2⟩:=CO hp;refine bw.mkON Tryz.func76 rfl (by kernel_rfl) rfl (by kernel_rfl) (e0:=ai [(0,eL (cL Ma.c) p)]) (LZ rfl LY) lG Ma.isF ?_;refine T.seq ?_;refine T.region ?_;refine oN (L6.asg (.nil) rfl) ?_;refine TO.nil ?_;refine T.seq ?_;refine T.region ?_;refine oA (EvA.mkR ([]:List (List AV)) gI rfl rfl rfl rfl) ?_;refine oN (L6.asg (hS false 0 0 1 0) rfl) ?_;refine TO.nil ?_;refine T.seq ?_;refine T.seq ?_;refine T.region ?_;refine oN (L6.asg (I 0) rfl) ?_;refine TO.nil ?_;refine T.block ?_;refine T.loop (S:=Nat) (G:=NG×AH×Nat) (E:=Nat) (x:=p.length) (fun i=>if i<p.length then some (.inl (i+1)) else some (.inr i)) (fun i g=>i<=p.length/\NK 1 (some ⟨g.2.2,1,50,bD g.1 4 (p.take i)⟩::g.2.1) g.1 4 70 Ma.c (p.take i))
  (fun i g=>[(4,I i),(3,hS false 0 g.2.2 1 (p.take i).length),(0,eL (cL Ma.c) p)]) (fun i g=>some ⟨g.2.2,1,50,bD g.1 4 (p.take i)⟩::g.2.1) (s0:=0) (fun _=>(false,0,0),[],0)
  (qR (fun i=>i) p.length (fun i hi=>by simp [hi]) (by simp)) ⟨Nat.zero_le _,by exact NK.nil⟩ (zq rfl (LZ rfl (LZ rfl (LZ rfl LY)))) (fun i g z hz hinv=>?_)
 obtain ⟨gh,K,ver⟩:=g;obtain ⟨hle,hN⟩:=hinv;simp only at hN;generalize hl:p.take i=l at hN ⊢;refine T.seq ?_;refine T.seq ?_;refine T.region ?_;refine oN (L6.mv (I i) rfl) ?_;refine oN (L6.mv (eL (cL Ma.c) p) rfl) ?_;refine oN (L6.lenL gI rfl) ?_;refine oN (L6.ilt rfl rfl) ?_;refine TO.nil ?_;have hll:l.length=i:=by rw [<- hl,List.length_take];omega
 refine T.cond rfl (fun q=>?_) (fun q=>?_)
 ·have hi:i<p.length:=by have := of_decide_eq_true q;omega
  rw [if_pos hi] at hz;obtain rfl:=osl hz;have hrow:=hp2 i;have htk:=Gf p hi;rw [hl] at htk;generalize hr:p.getD i []=row at hrow htk;refine T.skip ?_;refine T.seq ?_;refine T.block ?_;refine T.region ?_;refine oN (L6.mv (hS false 0 ver 1 l.length) rfl) ?_;refine oA (EvA.mkO (c:=Ma.c) (b:=K.length+1) ([]:List Ma) [] lW rfl rfl rfl (fun _=>rfl) rfl rfl) ?_;refine oN (L6.mv (eL (cL Ma.c) p) rfl) ?_;refine oN (L6.mv (I i) rfl) ?_;refine oN (L6.ixL gI rfl rfl ⟨by omega,by omega⟩ (fun _=>rfl)) ?_;refine oN (L6.loadfp (eL Ma.c row) qw rfl (by subst hr;rfl)) ?_;refine oA (EvA.appF (l:=([]:List Ma)) row lW (by kernel_rfl) rfl rfl (yn (H:=_::K)) (aI.fz (l:=row) rfl (fun _=>rfl)) (xS (by simp;omega) rfl)) ?_;refine TO.clean (H0:=some ⟨ver,1,50,bD gh 4 l⟩::(K++[bE false 1 4 70 (row.map Ma.c)])) (e0:=ai [(18,hS false (K.length+1) 1 4 row.length),(12,hS false 0 ver 1 l.length),(4,I i),(0,eL (cL Ma.c) p)]) (GQ (H:=_::K)).symm (LZ rfl (LZ rfl (LZ rfl (LZ rfl LY)))) ?_;refine oA (EvA.mkR (b:=(K++[bE false 1 4 70 (row.map Ma.c)]).length+1) [[hS false (K.length+1) 1 4 row.length]] gI rfl rfl rfl rfl) ?_;refine oA (EvA.appR (g:=false) (rows:=bD gh 4 l) (rows':=bD gh 4 l++[[hS false (K.length+1) 1 4 row.length]]) (n':=l.length+1) gI (by kernel_rfl) rfl rfl (bL gh 4 l).symm nofun (aI.raw (rows:=[[hS false (K.length+1) 1 4 row.length]]) rfl (yn (H:=_::(K++[_]))) rfl) (xS (by simp;omega) rfl) rfl rfl) ?_;refine oN (L6.asg (hS false 0 (ver+1) 1 (l.length+1)) rfl) ?_;refine TO.nil ?_;refine T.region ?_;refine oN (L6.mv (I i) rfl) ?_;refine oN (L6.add rfl rfl (IntWalk.i64_in _ ⟨by omega,by omega⟩)) ?_;refine oN (L6.asg (I (i+1:Nat)) rfl) ?_;refine TO.nil ?_;refine ⟨i+1,(gh.put l.length (false,K.length+1,1),K++[bE false 1 4 70 (row.map Ma.c)]++[some ⟨0,1,50,[[hS false (K.length+1) 1 4 row.length]]⟩],ver+1),rfl,⟨hi,?_⟩,zq ?_ (LZ rfl (LZ ?_ (LZ rfl LY)))⟩
  ·rw [htk];refine hN.snoc (id:=K.length+1) (by simp) (by omega) (fun b h1 h2=>?_) ?_ nofun
   ·match b,h1 with
    | b+1,_=>
     simp only [llc,Nat.add_lt_add_iff_right] at h2;simp only [List.getElem?_cons_succ,List.append_assoc];exact gal h2
   ·simp only [List.getElem?_cons_succ];exact zx
  ·show some (ABlk.mk _ _ _ (bD _ 4 (p.take (i+1))))::_=_;rw [htk,<- xg]
   rfl
  ·show hS false 0 (ver+1) 1 (l.length+1)=hS false 0 (ver+1) 1 (p.take (i+1)).length;rw [htk,lla]
   rfl
 ·have hi : ¬ i<p.length:=by have := of_decide_eq_false q;omega
  rw [if_neg hi] at hz;obtain rfl:=osl hz;refine T.exit ?_;refine ⟨_,rfl,fun he=>?_⟩;subst he;rw [List.take_length] at hl;subst hl;refine T.seq ?_;refine T.region ?_;refine oN (L6.mv (hS false 0 ver 1 p.length) rfl) ?_;refine oN (L6.asg (hS false 0 ver 1 p.length) rfl) ?_;refine TO.nil ?_;refine T.ret ?_
  repeat first | refine fE ?_ | refine fF ?_
  exact Fin.ret (vs:=[hS false 0 ver 1 p.length]) (.cons (.tmp rfl) .nil) ⟨0,ver,gh,rfl,rfl,⟨fun i hi=>⟨Nat.zero_le _,(hN.at_ i hi).2⟩,hN.nil_,hN.sep⟩,fun i hi h0=>absurd (hN.at_ i hi).1 (by omega)⟩
theorem NK.row {r o:Option ABlk} {K:AH} {gh:NG} {w:Nat} {ty:TypeId} {f:Ma->List AV} {l:List (List Ma)} (h:NK 2 (r::o::K) gh w ty f l) {i:Nat} (hi:i<l.length):∃ g k v,gh i=(g,k+2,v)/\k<K.length/\K[k]? = some (bE g v w ty ((l.getD i []).map f))/\(g=true->l.getD i []=[]):=by
 obtain ⟨h1,h2⟩:=h.at_ i hi;have h3:=h.nil_ i hi;generalize he:gh i=x at h1 h2 h3;obtain ⟨g,id,v⟩:=x;simp only at h1 h2 h3;obtain ⟨k,rfl⟩:∃ k,id=k+2:=⟨id-2,by omega⟩;simp only [List.getElem?_cons_succ] at h2;exact ⟨g,k,v,rfl,(ges h2).1,h2,h3⟩
theorem NK.turn {r o r' o':Option ABlk} {K:AH} {gh:NG} {w:Nat} {ty:TypeId} {f:Ma->List AV} {l:List (List Ma)} (h:NK 2 (r::o::K) gh w ty f l) {i:Nat} (hi:i<l.length) {g:Bool} {k v:Nat} (he:gh i=(g,k+2,v)) {g':Bool} {v':Nat} {x:List Ma} (hg:g'=true->x=[]) :
  NK 2 (r'::o'::K.set k (bE g' v' w ty (x.map f))) (gh.put i (g',k+2,v')) w ty f (l.set i x):=by
 have h1:=h.set hi (g:=g') (ver:=v') (r:=x) hg;rw [he] at h1;refine h1.low fun b hb _=>?_
 match b,hb with
 | b+2,_=>simp [List.getElem?_cons_succ]
end
end Go.Proofs.YtlmjnhnpahicmaaGreat
