/- Texts joined. No conditions. -/
import Derived.Test.YtlmjnhnpahicmaaGreatProg
import Derived.Test.YtlmjnhnpahicmaaGreatQ9
namespace Go.Proofs.YtlmjnhnpahicmaaGreat
noncomputable section
open Go.RowKit
set_option maxRecDepth 100000
def fH:Option (List ByteArray):= some ([(⟨#[120,61,49,59,97,61,121,124,121,61,49,59,97,61,120]⟩:ByteArray),(⟨#[120,61,49,59,102,101,110,99,101,59,97,61,121,124,121,61,49,59,102,101,110,99,101,59,97,61,120]⟩:ByteArray),(⟨#[120,61,49,59,121,61,49,124,97,61,121,59,98,61,120]⟩:ByteArray),(⟨#[120,61,49,59,121,61,49,124,97,61,121,59,102,101,110,99,101,59,98,61,120]⟩:ByteArray),(⟨#[120,61,49,59,102,101,110,99,101,59,121,61,49,124,97,61,121,59,98,61,120]⟩:ByteArray),(⟨#[97,61,120,59,121,61,49,124,97,61,121,59,120,61,49]⟩:ByteArray),(⟨#[97,61,120,59,121,61,97,124,97,61,121,59,120,61,97]⟩:ByteArray),(⟨#[120,61,49,124,120,61,50,124,97,61,120,59,98,61,120]⟩:ByteArray),(⟨#[120,61,49,124,121,61,49,124,97,61,120,59,98,61,121,124,97,61,121,59,98,61,120]⟩:ByteArray),(⟨#[120,61,49,124,97,61,120,59,121,61,49,124,97,61,121,59,98,61,120]⟩:ByteArray),(⟨#[120,61,49,124,121,61,49,124,97,61,120,59,98,61,121]⟩:ByteArray),(⟨#[97,61,120,58,49,124,97,61,120,58,50,124,120,61,51]⟩:ByteArray),(⟨#[120,61,49,59,97,61,120,59,98,61,121,124,121,61,49,59,97,61,121,59,98,61,120]⟩:ByteArray),(⟨#[120,61,50,59,121,61,49,124,121,61,50,59,120,61,49]⟩:ByteArray),(⟨#[97,61,120,58,49,59,98,61,121,124,97,61,121,58,49,59,98,61,120]⟩:ByteArray),(⟨#[120,61,49,59,120,61,50,124,97,61,120,59,98,61,120]⟩:ByteArray),(⟨#[120,61,49,59,121,61,49,59,97,61,122,124,122,61,49,59,97,61,121,59,98,61,120]⟩:ByteArray),(⟨#[97,61,120,58,49,124,98,61,120,58,49]⟩:ByteArray),(⟨#[102,101,110,99,101]⟩:ByteArray),(⟨#[]⟩:ByteArray),(⟨#[120,61,49,59,97,61,121,124,121,61,49,59,102,101,110,99,101,59,97,61,120]⟩:ByteArray)]:List ByteArray)
def iB (s:ByteArray) (c:Int):((List ByteArray)×Int×Int)->Option (((List ByteArray)×Int×Int) ⊕ (List ByteArray)):=fun s5=>bif decide (s5.2.1<=(s.size:Int)) then Option.bind (Option.bind (bif (s5.2.1==(s.size:Int)) then some true else gd (decide (0<=s5.2.1/\s5.2.1<(s.size:Int))) <|some (((s.data.getD s5.2.1.toNat 0).toNat:Int)==c)) fun s10=>bif s10 then gd (decide (0<=s5.2.2/\s5.2.2<=s5.2.1/\s5.2.1<=(s.size:Int))) <|gd (aS (s5.1.length+1) 16) <|gd (LB .i64 (s5.2.1+(1:Int))) <|some ((s5.1++[(s.extract s5.2.2.toNat s5.2.1.toNat)]),(s5.2.1+(1:Int))) else some (s5.1,s5.2.2)) fun s9=>gd (LB .i64 (s5.2.1+(1:Int))) <|some (.inl (s9.1,(s5.2.1+(1:Int)),s9.2)) else some (.inr s5.1)
def jp (s:ByteArray) (c:Int):Option (List ByteArray):= Option.bind (loopO (iB s c) (([]:List ByteArray),(0:Int),(0:Int))) fun s1=>some s1
def bz (s:ByteArray) (at_:Int) (from_:Int) (most:Int):Option Int:= Option.bind (bif decide ((s.size:Int)<=at_) then some true else gd (decide (0<=at_/\at_<(s.size:Int))) <|some (decide (((s.data.getD at_.toNat 0).toNat:Int)<from_))) fun s1=>Option.bind (bif s1 then some true else gd (decide (0<=at_/\at_<(s.size:Int))) <|gd (LB .u8 (((s.data.getD at_.toNat 0).toNat:Int)-from_)) <|gd (LB .i64 (((s.data.getD at_.toNat 0).toNat:Int)-from_)) <|some (decide (most<(((s.data.getD at_.toNat 0).toNat:Int)-from_)))) fun s4=>bif s4 then some (-1:Int) else gd (decide (0<=at_/\at_<(s.size:Int))) <|gd (LB .u8 (((s.data.getD at_.toNat 0).toNat:Int)-from_)) <|gd (LB .i64 (((s.data.getD at_.toNat 0).toNat:Int)-from_)) <|some (((s.data.getD at_.toNat 0).toNat:Int)-from_)
def jT (s:ByteArray):Option LD:= bif decide (s=(⟨#[102,101,110,99,101]⟩:ByteArray)) then some (⟨(4:Int),(0:Int),(0:Int),(0:Int)⟩:LD) else Option.bind (bz s (0:Int) (97:Int) (2:Int)) fun v2=>Option.bind (bz s (0:Int) (120:Int) (2:Int)) fun v3=>Option.bind (bif decide ((0:Int)<=v2) then some ((s.size:Int)==(3:Int)) else some false) fun s4=>bif s4 then Option.bind (bz s (2:Int) (120:Int) (2:Int)) fun v7=>some (⟨(1:Int),v7,v2,(0:Int)⟩:LD) else Option.bind (bif decide ((0:Int)<=v2) then some ((s.size:Int)==(5:Int)) else some false) fun s8=>bif s8 then Option.bind (bz s (2:Int) (120:Int) (2:Int)) fun v11=>Option.bind (bz s (4:Int) (48:Int) (3:Int)) fun v12=>some (⟨(5:Int),v11,v2,v12⟩:LD) else Option.bind (bif decide ((0:Int)<=v3) then Option.bind (bz s (2:Int) (97:Int) (2:Int)) fun v15=>some (decide ((0:Int)<=v15)) else some false) fun s13=>bif s13 then Option.bind (bz s (2:Int) (97:Int) (2:Int)) fun v17=>some (⟨(3:Int),v3,v17,(0:Int)⟩:LD) else Option.bind (bz s (2:Int) (48:Int) (3:Int)) fun v18=>some (⟨(2:Int),v3,(0:Int),v18⟩:LD)
def gp (from_:Int) (n:Int):Option ByteArray:= gd (LB .u8 n) <|gd (LB .u8 (from_+n)) <|some (strOfNums ([(from_+n)]:LI))
def mI:(ByteArray×Int)->Option ((ByteArray×Int) ⊕ (ByteArray×Int)):=fun s9=>bif decide ((9:Int)<s9.2) then gd (decide ((10:Int)≠0)) <|gd (LB .i64 ((48:Int)+(s9.2.tmod (10:Int)))) <|gd (LB .u8 ((48:Int)+(s9.2.tmod (10:Int)))) <|gd (decide ((strOfNums ([((48:Int)+(s9.2.tmod (10:Int)))]:LI)).size+s9.1.size<=9223372036854775807)) <|gd (LB .i64 (s9.2.tdiv (10:Int))) <|some (.inl (((strOfNums ([((48:Int)+(s9.2.tmod (10:Int)))]:LI))++s9.1),(s9.2.tdiv (10:Int)))) else some (.inr (s9.1,s9.2))
def jq (rcf:Int->Option ByteArray) (n:Int):Option ByteArray:= bif decide (n<(-9223372036854775807:Int)) then some (⟨#[45,57,50,50,51,51,55,50,48,51,54,56,53,52,55,55,53,56,48,56]⟩:ByteArray) else bif decide (n<(0:Int)) then gd (LB .i64 (0-n)) <|Option.bind (rcf (0-n)) fun v4=>gd (decide ((⟨#[45]⟩:ByteArray).size+v4.size<=9223372036854775807)) <|some ((⟨#[45]⟩:ByteArray)++v4) else Option.bind (loopO mI ((⟨#[]⟩:ByteArray),n)) fun s6=>gd (LB .i64 ((48:Int)+s6.2)) <|gd (LB .u8 ((48:Int)+s6.2)) <|gd (decide ((strOfNums ([((48:Int)+s6.2)]:LI)).size+s6.1.size<=9223372036854775807)) <|some ((strOfNums ([((48:Int)+s6.2)]:LI))++s6.1)
def gq:Nat->Int->Option ByteArray
 | 0=>fun _=>none
 | n+1=>jq (gq n)
def kL (n:Int):Option ByteArray:=Es fun nf=>gq nf n
def kM (x:LD):Option ByteArray:= Option.bind (gp (120:Int) x.Loc) fun v1=>Option.bind (gp (97:Int) x.Reg) fun v2=>bif (x.Op==(1:Int)) then gd (decide (v2.size+(⟨#[61]⟩:ByteArray).size<=9223372036854775807)) <|gd (decide ((v2++(⟨#[61]⟩:ByteArray)).size+v1.size<=9223372036854775807)) <|some ((v2++(⟨#[61]⟩:ByteArray))++v1) else bif (x.Op==(2:Int)) then gd (decide (v1.size+(⟨#[61]⟩:ByteArray).size<=9223372036854775807)) <|Option.bind (kL x.Val) fun v8=>gd (decide ((v1++(⟨#[61]⟩:ByteArray)).size+v8.size<=9223372036854775807)) <|some ((v1++(⟨#[61]⟩:ByteArray))++v8) else bif (x.Op==(3:Int)) then gd (decide (v1.size+(⟨#[61]⟩:ByteArray).size<=9223372036854775807)) <|gd (decide ((v1++(⟨#[61]⟩:ByteArray)).size+v2.size<=9223372036854775807)) <|some ((v1++(⟨#[61]⟩:ByteArray))++v2) else bif (x.Op==(5:Int)) then gd (decide (v2.size+(⟨#[61]⟩:ByteArray).size<=9223372036854775807)) <|gd (decide ((v2++(⟨#[61]⟩:ByteArray)).size+v1.size<=9223372036854775807)) <|gd (decide (((v2++(⟨#[61]⟩:ByteArray))++v1).size+(⟨#[58]⟩:ByteArray).size<=9223372036854775807)) <|Option.bind (kL x.Val) fun v17=>gd (decide ((((v2++(⟨#[61]⟩:ByteArray))++v1)++(⟨#[58]⟩:ByteArray)).size+v17.size<=9223372036854775807)) <|some ((((v2++(⟨#[61]⟩:ByteArray))++v1)++(⟨#[58]⟩:ByteArray))++v17) else some (⟨#[102,101,110,99,101]⟩:ByteArray)
def gT (p:List (List LD)) (s4:Int×ByteArray):(Int×ByteArray)->Option ((Int×ByteArray) ⊕ ByteArray):=fun s13=>gd (decide (0<=s4.1/\s4.1<(p.length:Int))) <|bif decide (s13.1<((p.getD s4.1.toNat default).length:Int)) then Option.bind (bif decide ((0:Int)<s13.1) then gd (decide (s13.2.size+(⟨#[59]⟩:ByteArray).size<=9223372036854775807)) <|some (s13.2++(⟨#[59]⟩:ByteArray)) else some s13.2) fun s17=>gd (decide (0<=s13.1/\s13.1<((p.getD s4.1.toNat default).length:Int))) <|Option.bind (kM ((p.getD s4.1.toNat default).getD s13.1.toNat default)) fun v21=>gd (decide (s17.size+v21.size<=9223372036854775807)) <|gd (LB .i64 (s13.1+(1:Int))) <|some (.inl ((s13.1+(1:Int)),(s17++v21))) else some (.inr s13.2)
def iJ (p:List (List LD)):(Int×ByteArray)->Option ((Int×ByteArray) ⊕ ByteArray):=fun s4=>bif decide (s4.1<(p.length:Int)) then Option.bind (Option.bind (bif decide ((0:Int)<s4.1) then gd (decide (s4.2.size+(⟨#[124]⟩:ByteArray).size<=9223372036854775807)) <|some (s4.2++(⟨#[124]⟩:ByteArray)) else some s4.2) fun s8=>loopO (gT p s4) ((0:Int),s8)) fun s7=>gd (LB .i64 (s4.1+(1:Int))) <|some (.inl ((s4.1+(1:Int)),s7)) else some (.inr s4.2)
def iC (p:List (List LD)):Option ByteArray:= Option.bind (loopO (iJ p) ((0:Int),(⟨#[]⟩:ByteArray))) fun s1=>some s1
def cA (v1:(List ByteArray)) (s6:(List (List LD))×Int) (v14:(List ByteArray)):((List LD)×Int)->Option (((List LD)×Int) ⊕ (List LD)):=fun s19=>Option.bind (bif decide (s19.2<(v14.length:Int)) then some (decide (s19.2<=(7:Int))) else some false) fun s22=>Option.bind (bif s22 then some (!decide ((v1.getD s6.2.toNat default)=(⟨#[]⟩:ByteArray))) else some false) fun s24=>bif s24 then gd (decide (0<=s19.2/\s19.2<(v14.length:Int))) <|Option.bind (jT (v14.getD s19.2.toNat default)) fun v28=>gd (aS (s19.1.length+1) 32) <|gd (LB .i64 (s19.2+(1:Int))) <|some (.inl ((s19.1++[v28]),(s19.2+(1:Int)))) else some (.inr s19.1)
def db (v1:(List ByteArray)):((List (List LD))×Int)->Option (((List (List LD))×Int) ⊕ (List (List LD))):=fun s6=>Option.bind (bif decide (s6.2<(v1.length:Int)) then some (decide (s6.2<=(3:Int))) else some false) fun s9=>bif s9 then Option.bind (gd (decide (0<=s6.2/\s6.2<(v1.length:Int))) <|Option.bind (jp (v1.getD s6.2.toNat default) (59:Int)) fun v14=>Option.bind (loopO (cA v1 s6 v14) (([]:List LD),(0:Int))) fun s15=>gd (aS (s6.1.length+1) 24) <|some (s6.1++[s15])) fun s12=>gd (LB .i64 (s6.2+(1:Int))) <|some (.inl (s12,(s6.2+(1:Int)))) else some (.inr s6.1)
def bf (text:ByteArray):Option ((List (List LD))×Bool):= Option.bind (jp text (124:Int)) fun v1=>Option.bind (loopO (db v1) (([]:List (List LD)),(0:Int))) fun s2=>Option.bind (aC s2) fun v36=>Option.bind (bif !v36 then some true else Option.bind (iC s2) fun v39=>some (!decide (v39=text))) fun s37=>bif s37 then some (([]:List (List LD)),false) else some (s2,true)
def ic (r_:ae):Option (ae×LD):= Option.bind (ay (⟨r_.b,r_.p⟩:ae) (2:Int)) fun v1=>Option.bind (ay (⟨v1.1.b,v1.1.p⟩:ae) (7:Int)) fun v2=>bif (v2.2==(0:Int)) then some ((⟨v2.1.b,v2.1.p⟩:ae),(⟨(4:Int),(0:Int),(0:Int),(0:Int)⟩:LD)) else bif (v2.2==(1:Int)) then Option.bind (ay (⟨v2.1.b,v2.1.p⟩:ae) (2:Int)) fun v5=>some ((⟨v5.1.b,v5.1.p⟩:ae),(⟨(3:Int),v1.2,v5.2,(0:Int)⟩:LD)) else bif (v2.2==(2:Int)) then Option.bind (ay (⟨v2.1.b,v2.1.p⟩:ae) (2:Int)) fun v7=>Option.bind (ay (⟨v7.1.b,v7.1.p⟩:ae) (3:Int)) fun v8=>gd (LB .i64 ((1:Int)+v8.2)) <|some ((⟨v8.1.b,v8.1.p⟩:ae),(⟨(5:Int),v1.2,v7.2,((1:Int)+v8.2)⟩:LD)) else Option.bind (bif (v2.2==(3:Int)) then some (v2.2==(3:Int)) else some (v2.2==(4:Int))) fun s10=>bif s10 then Option.bind (ay (⟨v2.1.b,v2.1.p⟩:ae) (3:Int)) fun v13=>gd (LB .i64 ((1:Int)+v13.2)) <|some ((⟨v13.1.b,v13.1.p⟩:ae),(⟨(2:Int),v1.2,(0:Int),((1:Int)+v13.2)⟩:LD)) else Option.bind (ay (⟨v2.1.b,v2.1.p⟩:ae) (2:Int)) fun v15=>some ((⟨v15.1.b,v15.1.p⟩:ae),(⟨(1:Int),v1.2,v15.2,(0:Int)⟩:LD))
def gK:((LI)×Int×(List LD)×Int)->Option (((LI)×Int×(List LD)×Int) ⊕ ((LI)×Int×(List LD))):=fun s24=>bif decide ((0:Int)<s24.2.2.2) then Option.bind (ic (⟨s24.1,s24.2.1⟩:ae)) fun v28=>gd (aS (s24.2.2.1.length+1) 32) <|gd (LB .i64 (s24.2.2.2-(1:Int))) <|some (.inl (v28.1.b,v28.1.p,(s24.2.2.1++[v28.2]),(s24.2.2.2-(1:Int)))) else some (.inr (s24.1,s24.2.1,s24.2.2.1))
def gL:((LI)×Int×(List (List LD))×Int)->Option (((LI)×Int×(List (List LD))×Int) ⊕ ((LI)×Int×(List (List LD)))):=fun s14=>bif decide ((0:Int)<s14.2.2.2) then Option.bind (Option.bind (Option.bind (bD (⟨s14.1,s14.2.1⟩:ae) ([(2:Int),(1:Int),(3:Int),(2:Int),(0:Int)]:LI)) fun v20=>loopO gK (v20.1.b,v20.1.p,([]:List LD),v20.2)) fun s19=>gd (aS (s14.2.2.1.length+1) 24) <|some (s19.1,s19.2.1,(s14.2.2.1++[s19.2.2]))) fun s18=>gd (LB .i64 (s14.2.2.2-(1:Int))) <|some (.inl (s18.1,s18.2.1,s18.2.2,(s14.2.2.2-(1:Int)))) else some (.inr (s14.1,s14.2.1,s14.2.2.1))
def kN (r_:ae):Option (ae×(List (List LD))):= Option.bind (fH) fun v1=>sumK (Option.bind (ay (⟨r_.b,r_.p⟩:ae) (3:Int)) fun v3=>bif decide ((0:Int)<v3.2) then Option.bind (ay (⟨v3.1.b,v3.1.p⟩:ae) (v1.length:Int)) fun v5=>gd (decide (0<=v5.2/\v5.2<(v1.length:Int))) <|Option.bind (bf (v1.getD v5.2.toNat default)) fun v7=>bif v7.2 then some (.inr ((⟨v5.1.b,v5.1.p⟩:ae),v7.1)) else some (.inl (v5.1.b,v5.1.p)) else some (.inl (v3.1.b,v3.1.p))) fun s2=>Option.bind (Option.bind (bD (⟨s2.1,s2.2⟩:ae) ([(2:Int),(3:Int),(1:Int)]:LI)) fun v10=>loopO gL (v10.1.b,v10.1.p,([]:List (List LD)),v10.2)) fun s9=>Option.bind (aC s9.2.2) fun v36=>bif v36 then some ((⟨s9.1,s9.2.1⟩:ae),s9.2.2) else Option.bind (ic (⟨s9.1,s9.2.1⟩:ae)) fun v38=>some ((⟨v38.1.b,v38.1.p⟩:ae),([([v38.2]:List LD)]:List (List LD)))
def lS (p:List (List LD)) (loc:Int) (writes:Bool) (s4:Int×Int):(Int×Int)->Option ((Int×Int) ⊕ Int):=fun s10=>gd (decide (0<=s4.1/\s4.1<(p.length:Int))) <|bif decide (s10.1<((p.getD s4.1.toNat default).length:Int)) then Option.bind (gd (decide (0<=s10.1/\s10.1<((p.getD s4.1.toNat default).length:Int))) <|Option.bind (bif ((((p.getD s4.1.toNat default).getD s10.1.toNat default).Loc)==loc) then Option.bind (bif writes then Option.bind (bW (⟨((p.getD s4.1.toNat default).getD s10.1.toNat default).Op,((p.getD s4.1.toNat default).getD s10.1.toNat default).Loc,((p.getD s4.1.toNat default).getD s10.1.toNat default).Reg,((p.getD s4.1.toNat default).getD s10.1.toNat default).Val⟩:LD)) fun v20=>some v20 else some false) fun s18=>Option.bind (bif s18 then some true else Option.bind (bif !writes then Option.bind (cF (⟨((p.getD s4.1.toNat default).getD s10.1.toNat default).Op,((p.getD s4.1.toNat default).getD s10.1.toNat default).Loc,((p.getD s4.1.toNat default).getD s10.1.toNat default).Reg,((p.getD s4.1.toNat default).getD s10.1.toNat default).Val⟩:LD)) fun v25=>some v25 else some false) fun s23=>some s23) fun s21=>some s21 else some false) fun s16=>bif s16 then gd (LB .i64 (s10.2+(1:Int))) <|some (s10.2+(1:Int)) else some s10.2) fun s14=>gd (LB .i64 (s10.1+(1:Int))) <|some (.inl ((s10.1+(1:Int)),s14)) else some (.inr s10.2)
def mJ (p:List (List LD)) (loc:Int) (writes:Bool):(Int×Int)->Option ((Int×Int) ⊕ Int):=fun s4=>bif decide (s4.1<(p.length:Int)) then Option.bind (loopO (lS p loc writes s4) ((0:Int),s4.2)) fun s7=>gd (LB .i64 (s4.1+(1:Int))) <|some (.inl ((s4.1+(1:Int)),s7)) else some (.inr s4.2)
def ig (p:List (List LD)) (loc:Int) (writes:Bool):Option Int:= Option.bind (loopO (mJ p loc writes) ((0:Int),(0:Int))) fun s1=>some s1
def lT (p:List (List LD)) (most:Int) (s4:Int×Int) (v8:Int):(Int×Int)->Option ((Int×Int) ⊕ Int):=fun s12=>Option.bind (ig p s4.1 false) fun v14=>Option.bind (bif decide (s12.1<v14) then some (decide (s12.2<=most)) else some false) fun s15=>bif s15 then gd (LB .i64 (v8+(1:Int))) <|gd (LB .i64 (s12.2*(v8+(1:Int)))) <|gd (LB .i64 (s12.1+(1:Int))) <|some (.inl ((s12.1+(1:Int)),(s12.2*(v8+(1:Int))))) else some (.inr s12.2)
def lV (most:Int) (v8:Int):(Int×Int)->Option ((Int×Int) ⊕ Int):=fun s23=>Option.bind (bif decide (s23.1<=v8) then some (decide (s23.2<=most)) else some false) fun s25=>bif s25 then gd (LB .i64 (s23.2*s23.1)) <|gd (LB .i64 (s23.1+(1:Int))) <|some (.inl ((s23.1+(1:Int)),(s23.2*s23.1))) else some (.inr s23.2)
def mK (p:List (List LD)) (most:Int):(Int×Int)->Option ((Int×Int) ⊕ Int):=fun s4=>bif decide (s4.1<=(2:Int)) then Option.bind (Option.bind (ig p s4.1 true) fun v8=>Option.bind (loopO (lT p most s4 v8) ((0:Int),s4.2)) fun s9=>loopO (lV most v8) ((2:Int),s9)) fun s7=>gd (LB .i64 (s4.1+(1:Int))) <|some (.inl ((s4.1+(1:Int)),s7)) else some (.inr s4.2)
def jV (p:List (List LD)) (most:Int):Option Int:= Option.bind (loopO (mK p most) ((0:Int),(1:Int))) fun s1=>bif decide (most<s1) then gd (LB .i64 (most+(1:Int))) <|some (most+(1:Int)) else some s1
def jX (r_:ae):Option (ae×(List (List LD))):= Option.bind (kN (⟨r_.b,r_.p⟩:ae)) fun v1=>Option.bind (jV v1.2 (200:Int)) fun v2=>bif decide (v2<=(200:Int)) then some ((⟨v1.1.b,v1.1.p⟩:ae),v1.2) else Option.bind (bf (⟨#[120,61,49,59,97,61,121,124,121,61,49,59,97,61,120]⟩:ByteArray)) fun v4=>some ((⟨v1.1.b,v1.1.p⟩:ae),v4.1)
def Le {α:Type} (a b:Option α):Prop:=∀ q,a=some q->b=some q
theorem Le.refl {α:Type} (a:Option α):Le a a:=fun _ h=>h
theorem Le.bind {α β:Type} {a b:Option α} {k l:α->Option β} (h:Le a b) (hk:∀ x,Le (k x) (l x)):Le (a.bind k) (b.bind l):=fun q hq=>by
 obtain ⟨x,h1,h2⟩:=Option.bind_eq_some_iff.1 hq;exact Option.bind_eq_some_iff.2 ⟨x,h x h1,hk x q h2⟩
theorem Le.gd {α:Type} {a b:Option α} (c:Bool) (h:Le a b):Le (gd c a) (gd c b):=fun q hq=>by
 obtain ⟨h1,h2⟩:=gdL hq;rw [iS h1];exact h q h2
theorem Le.bif {α:Type} {a b a' b':Option α} (c:Bool) (h:Le a a') (h':Le b b'):Le (bif c then a else b) (bif c then a' else b'):=by
 cases c
 ·exact h'
 ·exact h
theorem Le.ifc {α:Type} {a b a' b':Option α} (c:Prop) [Decidable c] (h:Le a a') (h':Le b b'):Le (if c then a else b) (if c then a' else b'):=by
 split
 ·exact h
 ·exact h'
theorem Le.sumK {S W:Type} {a b:Option (S ⊕ W)} {k l:S->Option W} (h:Le a b) (hk:∀ x,Le (k x) (l x)):Le (sumK a k) (sumK b l):=fun q hq=>by
 cases a with
 | none=>cases hq
 | some z=>
  rw [h z rfl]
  cases z with
  | inl s=>exact hk s q hq
  | inr w=>exact hq
def vU {S E:Type} (n:Nat) (step:S->Option (S ⊕ E)) (s:S):Option E:=
 Nat.rec (motive:=fun _=>S->Option E) (fun _=>none) (fun _ ih s=>match step s with
  | none=>none
  | some (.inl s')=>ih s'
  | some (.inr e)=>some e) n s
theorem Le.loop {S E:Type} {n:Nat} {step step':S->Option (S ⊕ E)} (h:∀ s,Le (step s) (step' s)) (s:S):Le (vU n step s) (loopO step' s):=by
 induction n generalizing s with
 | zero=>intro q hq;cases hq
 | succ n ih=>
  intro q hq;rw [eO]
  change (match step s with
   | none=>none
   | some (.inl s')=>vU n step s'
   | some (.inr e)=>some e)=some q at hq
  match hs:step s with
  | none=>rw [hs] at hq;cases hq
  | some (.inl s')=>
   rw [hs] at hq;rw [h s _ hs];exact ih s' q hq
  | some (.inr e)=>
   rw [hs] at hq;rw [h s _ hs];exact hq
def KU {α:Type} (e:Bool) (_ b:Option α):Option α:=bif e then none else b
theorem Le.nilK {α:Type} {e:Bool} {a b a' b':Option α} (_:Le a a') (h:Le b b'):Le (KU e a b) (nilK e a' b'):=fun q hq=>by
 cases e with
 | true=>cases hq
 | false=>
  unfold Go.Proofs.YtlmjnhnpahicmaaGreat.nilK;exact h q hq
def kO (n:Int):Option ByteArray:=bif decide (0<=n/\n<=9) then some (strOfNums ([((48:Int)+n)]:LI)++(⟨#[]⟩:ByteArray)) else none
theorem strOfNums_size (l:LI):(strOfNums l).size=l.length:=by
 simp [strOfNums,ByteArray.size]
theorem tZ (n:Int):Le (kO n) (kL n):=by
 intro v h;unfold kO at h
 by_cases hn:0<=n/\n<=9
 ·rw [decide_eq_true hn] at h;obtain rfl:=osl h;refine yn 1 fun k hk=>?_
  match k,hk with
  | k+1,_=>
   show jq (gq k) n=_;refine LN.eq ?_;unfold jq;refine .bifD (fun h=>by omega) fun _ => .bifD (fun h=>by omega) fun _=>?_;refine LN.bind (P:=(· = ((⟨#[]⟩:ByteArray),n))) ?_ fun s hs=>?_
   ·refine LN.loop (fun s=>s=((⟨#[]⟩:ByteArray),n)) (fun _=>0) rfl fun s hs=>?_;subst hs;unfold mI;exact .bifD (fun h=>by simp only [] at h;omega) fun _ => .pure rfl
   ·subst hs;refine .gdI (by simp only [];omega) (.gdY (by simp only [];omega) (.gdD ?_ (.pure rfl)));rw [strOfNums_size];exact nlb rfl
 ·rw [decide_eq_false hn] at h
  cases h
def kE (s:ByteArray) (c:Int):((List ByteArray)×Int×Int)->Option (((List ByteArray)×Int×Int) ⊕ (List ByteArray)):=fun s5=>
 bif decide (s5.2.1<=(s.size:Int)) then
  Option.bind (
   Option.bind (bif (s5.2.1==(s.size:Int)) then
    some true
   else
    gd (decide (0<=s5.2.1/\s5.2.1<(s.size:Int))) <|
    some (((s.data.getD s5.2.1.toNat 0).toNat:Int)==c)
   ) fun s10=>
   bif s10 then
    gd (decide (0<=s5.2.2/\s5.2.2<=s5.2.1/\s5.2.1<=(s.size:Int))) <|
    gd (aS (s5.1.length+1) 16) <|
    gd (LB .i64 (s5.2.1+(1:Int))) <|
    some ((s5.1++[(s.extract s5.2.2.toNat s5.2.1.toNat)]),(s5.2.1+(1:Int)))
   else
    some (s5.1,s5.2.2)
  ) fun s9=>
  gd (LB .i64 (s5.2.1+(1:Int))) <|
  some (.inl (s9.1,(s5.2.1+(1:Int)),s9.2))
 else
  some (.inr s5.1)
theorem qx (s:ByteArray) (c:Int) (sQ:_):Le (kE s c sQ) (iB s c sQ):=by
 unfold kE iB
 repeat' (first | with_reducible exact Le.refl _ | with_reducible refine Le.gd _ ?_ | with_reducible refine Le.bif _ ?_ ?_ | with_reducible refine Le.bind ?_ (fun _=>?_) | with_reducible refine Le.sumK ?_ (fun _=>?_) | with_reducible refine Le.loop (fun _=>?_) _ | with_reducible refine Le.nilK ?_ ?_ | with_reducible refine Le.ifc _ ?_ ?_)
def kP (s:ByteArray) (c:Int):Option (List ByteArray):=
 Option.bind (
  vU 40 (kE s c) (([]:List ByteArray),(0:Int),(0:Int))
 ) fun s1=>
 some s1
theorem nO (s:ByteArray) (c:Int):Le (kP s c) (jp s c):=by
 unfold kP jp
 repeat' (first | with_reducible exact Le.refl _ | with_reducible exact qx .. | with_reducible refine Le.gd _ ?_ | with_reducible refine Le.bif _ ?_ ?_ | with_reducible refine Le.bind ?_ (fun _=>?_) | with_reducible refine Le.sumK ?_ (fun _=>?_) | with_reducible refine Le.loop (fun _=>?_) _ | with_reducible refine Le.nilK ?_ ?_ | with_reducible refine Le.ifc _ ?_ ?_)
def bI (s:ByteArray) (at_:Int) (from_:Int) (most:Int):Option Int:=
 Option.bind (bif decide ((s.size:Int)<=at_) then
  some true
 else
  gd (decide (0<=at_/\at_<(s.size:Int))) <|
  some (decide (((s.data.getD at_.toNat 0).toNat:Int)<from_))
 ) fun s1=>
 Option.bind (bif s1 then
  some true
 else
  gd (decide (0<=at_/\at_<(s.size:Int))) <|
  gd (LB .u8 (((s.data.getD at_.toNat 0).toNat:Int)-from_)) <|
  gd (LB .i64 (((s.data.getD at_.toNat 0).toNat:Int)-from_)) <|
  some (decide (most<(((s.data.getD at_.toNat 0).toNat:Int)-from_)))
 ) fun s4=>
 bif s4 then
  some (-1:Int)
 else
  gd (decide (0<=at_/\at_<(s.size:Int))) <|
  gd (LB .u8 (((s.data.getD at_.toNat 0).toNat:Int)-from_)) <|
  gd (LB .i64 (((s.data.getD at_.toNat 0).toNat:Int)-from_)) <|
  some (((s.data.getD at_.toNat 0).toNat:Int)-from_)
theorem sS (s:ByteArray) (at_:Int) (from_:Int) (most:Int):Le (bI s at_ from_ most) (bz s at_ from_ most):=by
 unfold bI bz
 repeat' (first | with_reducible exact Le.refl _ | with_reducible refine Le.gd _ ?_ | with_reducible refine Le.bif _ ?_ ?_ | with_reducible refine Le.bind ?_ (fun _=>?_) | with_reducible refine Le.sumK ?_ (fun _=>?_) | with_reducible refine Le.loop (fun _=>?_) _ | with_reducible refine Le.nilK ?_ ?_ | with_reducible refine Le.ifc _ ?_ ?_)
def l9 (s:ByteArray):Option LD:=
 bif decide (s=(⟨#[102,101,110,99,101]⟩:ByteArray)) then
  some (⟨(4:Int),(0:Int),(0:Int),(0:Int)⟩:LD)
 else
  Option.bind (bI s (0:Int) (97:Int) (2:Int)) fun v2=>
  Option.bind (bI s (0:Int) (120:Int) (2:Int)) fun v3=>
  Option.bind (bif decide ((0:Int)<=v2) then
   some ((s.size:Int)==(3:Int))
  else
   some false
  ) fun s4=>
  bif s4 then
   Option.bind (bI s (2:Int) (120:Int) (2:Int)) fun v7=>
   some (⟨(1:Int),v7,v2,(0:Int)⟩:LD)
  else
   Option.bind (bif decide ((0:Int)<=v2) then
    some ((s.size:Int)==(5:Int))
   else
    some false
   ) fun s8=>
   bif s8 then
    Option.bind (bI s (2:Int) (120:Int) (2:Int)) fun v11=>
    Option.bind (bI s (4:Int) (48:Int) (3:Int)) fun v12=>
    some (⟨(5:Int),v11,v2,v12⟩:LD)
   else
    Option.bind (bif decide ((0:Int)<=v3) then
     Option.bind (bI s (2:Int) (97:Int) (2:Int)) fun v15=>
     some (decide ((0:Int)<=v15))
    else
     some false
    ) fun s13=>
    bif s13 then
     Option.bind (bI s (2:Int) (97:Int) (2:Int)) fun v17=>
     some (⟨(3:Int),v3,v17,(0:Int)⟩:LD)
    else
     Option.bind (bI s (2:Int) (48:Int) (3:Int)) fun v18=>
     some (⟨(2:Int),v3,(0:Int),v18⟩:LD)
theorem sU (s:ByteArray):Le (l9 s) (jT s):=by
 unfold l9 jT
 repeat' (first | with_reducible exact Le.refl _ | with_reducible exact sS .. | with_reducible refine Le.gd _ ?_ | with_reducible refine Le.bif _ ?_ ?_ | with_reducible refine Le.bind ?_ (fun _=>?_) | with_reducible refine Le.sumK ?_ (fun _=>?_) | with_reducible refine Le.loop (fun _=>?_) _ | with_reducible refine Le.nilK ?_ ?_ | with_reducible refine Le.ifc _ ?_ ?_)
def fo (v1:(List ByteArray)) (s6:(List (List LD))×Int) (v14:(List ByteArray)):((List LD)×Int)->Option (((List LD)×Int) ⊕ (List LD)):=fun s19=>
 Option.bind (bif decide (s19.2<(v14.length:Int)) then
  some (decide (s19.2<=(7:Int)))
 else
  some false
 ) fun s22=>
 Option.bind (bif s22 then
  some (!decide ((v1.getD s6.2.toNat default)=(⟨#[]⟩:ByteArray)))
 else
  some false
 ) fun s24=>
 bif s24 then
  gd (decide (0<=s19.2/\s19.2<(v14.length:Int))) <|
  Option.bind (l9 (v14.getD s19.2.toNat default)) fun v28=>
  gd (aS (s19.1.length+1) 32) <|
  gd (LB .i64 (s19.2+(1:Int))) <|
  some (.inl ((s19.1++[v28]),(s19.2+(1:Int))))
 else
  some (.inr s19.1)
theorem lD (v1:(List ByteArray)) (s6:(List (List LD))×Int) (v14:(List ByteArray)) (sQ:_):Le (fo v1 s6 v14 sQ) (cA v1 s6 v14 sQ):=by
 unfold fo cA
 repeat' (first | with_reducible exact Le.refl _ | with_reducible exact sU .. | with_reducible refine Le.gd _ ?_ | with_reducible refine Le.bif _ ?_ ?_ | with_reducible refine Le.bind ?_ (fun _=>?_) | with_reducible refine Le.sumK ?_ (fun _=>?_) | with_reducible refine Le.loop (fun _=>?_) _ | with_reducible refine Le.nilK ?_ ?_ | with_reducible refine Le.ifc _ ?_ ?_)
def fJ (v1:(List ByteArray)):((List (List LD))×Int)->Option (((List (List LD))×Int) ⊕ (List (List LD))):=fun s6=>
 Option.bind (bif decide (s6.2<(v1.length:Int)) then
  some (decide (s6.2<=(3:Int)))
 else
  some false
 ) fun s9=>
 bif s9 then
  Option.bind (
   gd (decide (0<=s6.2/\s6.2<(v1.length:Int))) <|
   Option.bind (kP (v1.getD s6.2.toNat default) (59:Int)) fun v14=>
   Option.bind (
    vU 40 (fo v1 s6 v14) (([]:List LD),(0:Int))
   ) fun s15=>
   gd (aS (s6.1.length+1) 24) <|
   some (s6.1++[s15])
  ) fun s12=>
  gd (LB .i64 (s6.2+(1:Int))) <|
  some (.inl (s12,(s6.2+(1:Int))))
 else
  some (.inr s6.1)
theorem ma (v1:(List ByteArray)) (sQ:_):Le (fJ v1 sQ) (db v1 sQ):=by
 unfold fJ db
 repeat' (first | with_reducible exact Le.refl _ | with_reducible exact nO .. | with_reducible exact lD .. | with_reducible refine Le.gd _ ?_ | with_reducible refine Le.bif _ ?_ ?_ | with_reducible refine Le.bind ?_ (fun _=>?_) | with_reducible refine Le.sumK ?_ (fun _=>?_) | with_reducible refine Le.loop (fun _=>?_) _ | with_reducible refine Le.nilK ?_ ?_ | with_reducible refine Le.ifc _ ?_ ?_)
def jr (from_:Int) (n:Int):Option ByteArray:=
 gd (LB .u8 n) <|
 gd (LB .u8 (from_+n)) <|
 some (strOfNums ([(from_+n)]:LI))
theorem rE (from_:Int) (n:Int):Le (jr from_ n) (gp from_ n):=by
 unfold jr gp
 repeat' (first | with_reducible exact Le.refl _ | with_reducible refine Le.gd _ ?_ | with_reducible refine Le.bif _ ?_ ?_ | with_reducible refine Le.bind ?_ (fun _=>?_) | with_reducible refine Le.sumK ?_ (fun _=>?_) | with_reducible refine Le.loop (fun _=>?_) _ | with_reducible refine Le.nilK ?_ ?_ | with_reducible refine Le.ifc _ ?_ ?_)
def nD (x:LD):Option ByteArray:=
 Option.bind (jr (120:Int) x.Loc) fun v1=>
 Option.bind (jr (97:Int) x.Reg) fun v2=>
 bif (x.Op==(1:Int)) then
  gd (decide (v2.size+(⟨#[61]⟩:ByteArray).size<=9223372036854775807)) <|
  gd (decide ((v2++(⟨#[61]⟩:ByteArray)).size+v1.size<=9223372036854775807)) <|
  some ((v2++(⟨#[61]⟩:ByteArray))++v1)
 else
  bif (x.Op==(2:Int)) then
   gd (decide (v1.size+(⟨#[61]⟩:ByteArray).size<=9223372036854775807)) <|
   Option.bind (kO x.Val) fun v8=>
   gd (decide ((v1++(⟨#[61]⟩:ByteArray)).size+v8.size<=9223372036854775807)) <|
   some ((v1++(⟨#[61]⟩:ByteArray))++v8)
  else
   bif (x.Op==(3:Int)) then
    gd (decide (v1.size+(⟨#[61]⟩:ByteArray).size<=9223372036854775807)) <|
    gd (decide ((v1++(⟨#[61]⟩:ByteArray)).size+v2.size<=9223372036854775807)) <|
    some ((v1++(⟨#[61]⟩:ByteArray))++v2)
   else
    bif (x.Op==(5:Int)) then
     gd (decide (v2.size+(⟨#[61]⟩:ByteArray).size<=9223372036854775807)) <|
     gd (decide ((v2++(⟨#[61]⟩:ByteArray)).size+v1.size<=9223372036854775807)) <|
     gd (decide (((v2++(⟨#[61]⟩:ByteArray))++v1).size+(⟨#[58]⟩:ByteArray).size<=9223372036854775807)) <|
     Option.bind (kO x.Val) fun v17=>
     gd (decide ((((v2++(⟨#[61]⟩:ByteArray))++v1)++(⟨#[58]⟩:ByteArray)).size+v17.size<=9223372036854775807)) <|
     some ((((v2++(⟨#[61]⟩:ByteArray))++v1)++(⟨#[58]⟩:ByteArray))++v17)
    else
     some (⟨#[102,101,110,99,101]⟩:ByteArray)
theorem ub (x:LD):Le (nD x) (kM x):=by
 unfold nD kM
 repeat' (first | with_reducible exact Le.refl _ | with_reducible exact rE .. | with_reducible exact tZ .. | with_reducible refine Le.gd _ ?_ | with_reducible refine Le.bif _ ?_ ?_ | with_reducible refine Le.bind ?_ (fun _=>?_) | with_reducible refine Le.sumK ?_ (fun _=>?_) | with_reducible refine Le.loop (fun _=>?_) _ | with_reducible refine Le.nilK ?_ ?_ | with_reducible refine Le.ifc _ ?_ ?_)
def gV (p:List (List LD)) (s4:Int×ByteArray):(Int×ByteArray)->Option ((Int×ByteArray) ⊕ ByteArray):=fun s13=>
 gd (decide (0<=s4.1/\s4.1<(p.length:Int))) <|
 bif decide (s13.1<((p.getD s4.1.toNat default).length:Int)) then
  Option.bind (
   bif decide ((0:Int)<s13.1) then
    gd (decide (s13.2.size+(⟨#[59]⟩:ByteArray).size<=9223372036854775807)) <|
    some (s13.2++(⟨#[59]⟩:ByteArray))
   else
    some s13.2
  ) fun s17=>
  gd (decide (0<=s13.1/\s13.1<((p.getD s4.1.toNat default).length:Int))) <|
  Option.bind (nD ((p.getD s4.1.toNat default).getD s13.1.toNat default)) fun v21=>
  gd (decide (s17.size+v21.size<=9223372036854775807)) <|
  gd (LB .i64 (s13.1+(1:Int))) <|
  some (.inl ((s13.1+(1:Int)),(s17++v21)))
 else
  some (.inr s13.2)
theorem nE (p:List (List LD)) (s4:Int×ByteArray) (sQ:_):Le (gV p s4 sQ) (gT p s4 sQ):=by
 unfold gV gT
 repeat' (first | with_reducible exact Le.refl _ | with_reducible exact ub .. | with_reducible refine Le.gd _ ?_ | with_reducible refine Le.bif _ ?_ ?_ | with_reducible refine Le.bind ?_ (fun _=>?_) | with_reducible refine Le.sumK ?_ (fun _=>?_) | with_reducible refine Le.loop (fun _=>?_) _ | with_reducible refine Le.nilK ?_ ?_ | with_reducible refine Le.ifc _ ?_ ?_)
def iK (p:List (List LD)):(Int×ByteArray)->Option ((Int×ByteArray) ⊕ ByteArray):=fun s4=>
 bif decide (s4.1<(p.length:Int)) then
  Option.bind (
   Option.bind (
    bif decide ((0:Int)<s4.1) then
     gd (decide (s4.2.size+(⟨#[124]⟩:ByteArray).size<=9223372036854775807)) <|
     some (s4.2++(⟨#[124]⟩:ByteArray))
    else
     some s4.2
   ) fun s8=>
   vU 40 (gV p s4) ((0:Int),s8)
  ) fun s7=>
  gd (LB .i64 (s4.1+(1:Int))) <|
  some (.inl ((s4.1+(1:Int)),s7))
 else
  some (.inr s4.2)
theorem nW (p:List (List LD)) (sQ:_):Le (iK p sQ) (iJ p sQ):=by
 unfold iK iJ
 repeat' (first | with_reducible exact Le.refl _ | with_reducible exact nE .. | with_reducible refine Le.gd _ ?_ | with_reducible refine Le.bif _ ?_ ?_ | with_reducible refine Le.bind ?_ (fun _=>?_) | with_reducible refine Le.sumK ?_ (fun _=>?_) | with_reducible refine Le.loop (fun _=>?_) _ | with_reducible refine Le.nilK ?_ ?_ | with_reducible refine Le.ifc _ ?_ ?_)
def kF (p:List (List LD)):Option ByteArray:=
 Option.bind (
  vU 40 (iK p) ((0:Int),(⟨#[]⟩:ByteArray))
 ) fun s1=>
 some s1
theorem qy (p:List (List LD)):Le (kF p) (iC p):=by
 unfold kF iC
 repeat' (first | with_reducible exact Le.refl _ | with_reducible exact nW .. | with_reducible refine Le.gd _ ?_ | with_reducible refine Le.bif _ ?_ ?_ | with_reducible refine Le.bind ?_ (fun _=>?_) | with_reducible refine Le.sumK ?_ (fun _=>?_) | with_reducible refine Le.loop (fun _=>?_) _ | with_reducible refine Le.nilK ?_ ?_ | with_reducible refine Le.ifc _ ?_ ?_)
def fq (text:ByteArray):Option ((List (List LD))×Bool):=
 Option.bind (kP text (124:Int)) fun v1=>
 Option.bind (
  vU 40 (fJ v1) (([]:List (List LD)),(0:Int))
 ) fun s2=>
 Option.bind (aC s2) fun v36=>
 Option.bind (bif !v36 then
  some true
 else
  Option.bind (kF s2) fun v39=>
  some (!decide (v39=text))
 ) fun s37=>
 bif s37 then
  some (([]:List (List LD)),false)
 else
  some (s2,true)
theorem nX (text:ByteArray):Le (fq text) (bf text):=by
 unfold fq bf
 repeat' (first | with_reducible exact Le.refl _ | with_reducible exact nO .. | with_reducible exact ma .. | with_reducible exact qy .. | with_reducible refine Le.gd _ ?_ | with_reducible refine Le.bif _ ?_ ?_ | with_reducible refine Le.bind ?_ (fun _=>?_) | with_reducible refine Le.sumK ?_ (fun _=>?_) | with_reducible refine Le.loop (fun _=>?_) _ | with_reducible refine Le.nilK ?_ ?_ | with_reducible refine Le.ifc _ ?_ ?_)
def smI (x:LD):Bool:=decide ((-1<=x.Op/\x.Op<=6)/\(-1<=x.Loc/\x.Loc<=3)/\(-1<=x.Reg/\x.Reg<=3)/\(-1<=x.Val/\x.Val<=4))
def smP (p:List (List LD)):Bool:=decide (p.length<=4)&&p.all fun r=>decide (r.length<=8)&&r.all smI
def uI (t:ByteArray):Bool:=match fq t with
 | some v=>smP v.1
 | none=>false
theorem Dv:∀ l,fH=some l->l.all uI=true:=by
 intro l h;obtain rfl:=osl h
 decide +kernel
theorem xP {t:ByteArray} (h:uI t=true):LN (bf t) fun v=>smP v.1=true:=by
 unfold uI at h
 cases hc:fq t with
 | none=>rw [hc] at h;cases h
 | some v=>
  rw [hc] at h;exact ⟨v,nX t v hc,h⟩
theorem Hp:∀ l,fH=some l->∀ t∈l,LN (bf t) fun v=>smP v.1=true:=
 fun l h t ht=>xP (List.all_eq_true.1 (Dv l h) t ht)
def Dw (p:List (List LD)):Bool:=decide (p.length<=1048576)&&p.all fun r=>decide (r.length<=1048576)
def Gg (p:List (List LD)) (i:Nat) (x:List LD):List (List LD):=p.set i (p.getD i []++x)
def gu (r_:ae) (p:List (List LD)):Option (ae×List (List LD)):= gd (Dw p) <|bif Nat.beq p.length 0 then some (r_,p) else Option.bind (ay r_ (p.length:Int)) fun v1=>Option.bind (ay v1.1 (40:Int)) fun v2=>gd (decide (0<=v1.2/\v1.2<(p.length:Int))) <|bif v2.2==(0:Int) then Option.bind (bD v2.1 ([(0:Int),(6:Int),(1:Int),(4:Int)]:LI)) fun a=>Option.bind (bD a.1 ([(0:Int),(3:Int),(-1:Int)]:LI)) fun b=>some (b.1,Gg p v1.2.toNat [⟨a.2,b.2,0,0⟩]) else bif v2.2==(1:Int) then Option.bind (bD v2.1 ([(4:Int),(-1:Int),(3:Int)]:LI)) fun a=>some (a.1,Gg p v1.2.toNat [⟨2,0,0,a.2⟩]) else bif v2.2==(2:Int) then some (v2.1,p++List.replicate (4-p.length) []) else bif v2.2==(3:Int) then some (v2.1,Gg p v1.2.toNat (List.replicate (8-(p.getD v1.2.toNat []).length) ⟨1,0,0,0⟩)) else bif v2.2==(4:Int) then some (v2.1,(p.drop 1).take (p.length-1)) else some (v2.1,p)
theorem qA {p:List (List LD)}:smP p=true↔p.length<=4/\∀ r∈p,r.length<=8/\∀ x∈r,smI x=true:=by
 simp only [smP,bae,decide_eq_true_eq,List.all_eq_true]
theorem Hq {p:List (List LD)} (h:smP p=true):Dw p=true:=by
 rw [qA] at h;simp only [Dw,bae,decide_eq_true_eq,List.all_eq_true];exact ⟨by omega,fun r hr=>by have := (h.2 r hr).1;omega⟩
theorem yO {α:Type} {m:Nat}:∀ {p:List (List α)},(∀ r∈p,r.length<=m)->total p<=p.length*m
 | [],_=>by simp [total]
 | r::p,h=>by
  have h1:=yO (p:=p) (fun x hx=>h x (List.mem_cons_of_mem _ hx));have h2:=h r (List.mem_cons_self);simp only [total,List.map_cons,List.sum_cons,List.length_cons,Nat.add_mul,Nat.one_mul] at h1 ⊢;omega
theorem Kg {p:List (List LD)} (h:smP p=true):p.length<=1048576/\total p<=1048576:=by
 rw [qA] at h;have h1:=yO (m:=8) (fun r hr=>(h.2 r hr).1);have h2:p.length*8<=32:=by omega
 exact ⟨by omega,by omega⟩
theorem vV {k:Int} {r:ae} (h:Rd k r) (hk:k<=10000000):LN (ic r) fun v=>Rd (k+4) v.1/\smI v.2=true:=by
 unfold ic;refine (jo h.mk' (by omega) 2).bind fun v1 ⟨a1,a2,a3⟩=>(jo a1.mk' (by omega) 7).bind fun v2 ⟨b1,b2,b3⟩ => ?_;refine .bif (fun _ => .pure ⟨b1.mono (by omega),by simp only [smI];exact decide_eq_true (by omega)⟩) fun _=>?_;refine .bif (fun _=>(jo b1.mk' (by omega) 2).bind fun v3 ⟨c1,c2,c3⟩ => .pure ⟨c1.mono (by omega),decide_eq_true (by simp only [];omega)⟩) fun _=>?_;refine .bif (fun _=>(jo b1.mk' (by omega) 2).bind fun v3 ⟨c1,c2,c3⟩=>(jo c1.mk' (by omega) 3).bind fun v4 ⟨d1,d2,d3⟩ => .gdI (by omega) (.pure ⟨d1.mono (by omega),decide_eq_true (by simp only [];omega)⟩)) fun _=>?_;refine LN.bind (P:=fun _=>True) (.bif (fun _ => .pure trivial) (fun _ => .pure trivial)) fun s _=>?_;refine .bif (fun _=>(jo b1.mk' (by omega) 3).bind fun v3 ⟨c1,c2,c3⟩ => .gdI (by omega) (.pure ⟨c1.mono (by omega),decide_eq_true (by simp only [];omega)⟩)) fun _=>?_;exact (jo b1.mk' (by omega) 2).bind fun v3 ⟨c1,c2,c3⟩ => .pure ⟨c1.mono (by omega),decide_eq_true (by simp only [];omega)⟩
theorem Dx {k:Int} {b:LI} {p n:Int} (h:Rd k ⟨b,p⟩) (hk:k<=1000000) (hn:0<=n/\n<=3):LN (loopO gK (b,p,([]:List LD),n)) fun v=>Rd (k+12) ⟨v.1,v.2.1⟩/\v.2.2.length<=3/\∀ x∈v.2.2,smI x=true:=by
 refine LN.loop (fun s=>Rd (k+4*(3-s.2.2.2)) ⟨s.1,s.2.1⟩/\(0<=s.2.2.2/\s.2.2.2+(s.2.2.1.length:Int)<=3)/\∀ x∈s.2.2.1,smI x=true) (fun s=>s.2.2.2.toNat) ⟨h.mono (by simp only [];omega),by simp;omega,by simp⟩ fun s ⟨h1,h2,h3⟩ => ?_;unfold gK;refine .bifD (fun h0=>?_) fun h0 => .pure ⟨h1.mono (by omega),by simp only [];omega,h3⟩;refine (vV h1 (by omega)).bind fun v ⟨a1,a2⟩ => .gdC (by omega) rfl (.gdI (by omega) (.pure ⟨⟨a1.mk'.mono (by simp only [];omega),by simp only [lla,List.length_cons,List.length_nil];omega,fun x hx=>?_⟩,by simp only [];omega⟩));rcases List.mem_append.1 hx with hx | hx
 ·exact h3 x hx
 ·rw [List.mem_singleton.1 hx];exact a2
theorem Bu {k:Int} {b:LI} {p n:Int} (h:Rd k ⟨b,p⟩) (hk:k<=100000) (hn:0<=n/\n<=3):LN (loopO gL (b,p,([]:List (List LD)),n)) fun v=>Rd (k+39) ⟨v.1,v.2.1⟩/\smP v.2.2=true:=by
 refine LN.loop (fun s=>Rd (k+13*(3-s.2.2.2)) ⟨s.1,s.2.1⟩/\(0<=s.2.2.2/\s.2.2.2+(s.2.2.1.length:Int)<=3)/\∀ r∈s.2.2.1,r.length<=8/\∀ x∈r,smI x=true) (fun s=>s.2.2.2.toNat) ⟨h.mono (by simp only [];omega),by simp;omega,by simp⟩ fun s ⟨h1,h2,h3⟩ => ?_;unfold gL;refine .bifD (fun h0=>?_) fun h0 => .pure ⟨h1.mono (by omega),qA.2 ⟨by simp only [];omega,h3⟩⟩;refine LN.bind (P:=fun v=>Rd (k+13*(3-s.2.2.2)+13) ⟨v.1,v.2.1⟩/\∃ t:List LD,v.2.2=s.2.2.1++[t]/\t.length<=8/\∀ x∈t,smI x=true) ?_ fun v ⟨a1,t,a2,a3,a4⟩ => ?_
 ·refine LN.bind (P:=fun v=>Rd (k+13*(3-s.2.2.2)+13) ⟨v.1,v.2.1⟩/\v.2.2.length<=3/\∀ x∈v.2.2,smI x=true) ?_ fun v ⟨a1,a2,a3⟩ => .gdC (by omega) rfl (.pure ⟨a1,v.2.2,rfl,by omega,a3⟩);refine (vT h1 (by omega) _ (by simp)).bind fun v ⟨b1,b2⟩=>(Dx (n:=v.2) b1.mk' (by omega) (by simp only [List.mem_cons,List.not_mem_nil,or_false] at b2;omega)).mono fun u ⟨c1,c2,c3⟩=>⟨c1.mono (by omega),c2,c3⟩
 ·refine .gdI (by omega) (.pure ⟨⟨a1.mono (by simp only [];omega),by simp only [a2,lla,List.length_cons,List.length_nil];omega,fun r hr=>?_⟩,by simp only [];omega⟩);simp only [a2] at hr;rcases List.mem_append.1 hr with hr | hr
  ·exact h3 r hr
  ·rw [List.mem_singleton.1 hr];exact ⟨a3,a4⟩
theorem Dy {k:Int} {r:ae} (h:Rd k r) (hk:k<=10000) (hp:∀ l,fH=some l->∀ t∈l,LN (bf t) fun v=>smP v.1=true):LN (kN r) fun v=>Rd (k+46) v.1/\smP v.2=true:=by
 unfold kN;have e1:∃ l,fH=some l/\0<l.length/\l.length<=100:=⟨_,rfl,by decide,by decide⟩;obtain ⟨l,e1,e2,e3⟩:=e1;have hp':=hp l e1;refine (LN.of (P:=fun v=>v=l) e1 rfl).bind fun v1 hv=>?_;subst hv;refine LN.sum (PS:=fun s=>Rd (k+2) ⟨s.1,s.2⟩) (PW:=fun v:ae×List (List LD)=>Rd (k+46) v.1/\smP v.2=true) ?_ fun s hs=>?_
 ·refine (jo h.mk' (by omega) 3).bind fun v3 ⟨a1,a2,a3⟩ => .bif (fun _=>?_) fun _ => .pure (a1.mk'.mono (by omega));refine (jo a1.mk' (by omega) _).bind fun v5 ⟨b1,b2,b3⟩ => .gdD ⟨b2,by omega⟩ ?_;have hlt:v5.2.toNat<v1.length:=by omega
  refine LN.bind (hp' (v1.getD v5.2.toNat default) (by rw [gdq,geq hlt];exact List.getElem_mem _)) fun v7 h7=>?_;exact .bif (fun _ => .pure ⟨b1.mk'.mono (by omega),h7⟩) fun _ => .pure (b1.mk'.mono (by omega))
 ·refine LN.bind (P:=fun v=>Rd (k+42) ⟨v.1,v.2.1⟩/\smP v.2.2=true) ?_ fun v ⟨a1,a2⟩ => ?_
  ·exact (vT hs (by omega) _ (by simp)).bind fun v ⟨b1,b2⟩=>(Bu (n:=v.2) b1.mk' (by omega) (by simp only [List.mem_cons,List.not_mem_nil,or_false] at b2;omega)).mono fun u ⟨c1,c2⟩=>⟨c1.mono (by omega),c2⟩
  ·have hv:LN (aC v.2.2) fun _=>True := .gdD (Kg a2) (.pure trivial);refine hv.bind fun b _ => .bif (fun _ => .pure ⟨a1.mono (by omega),a2⟩) fun _=>?_;exact (vV a1 (by omega)).bind fun u ⟨c1,c2⟩ => .pure ⟨c1.mk'.mono (by omega),qA.2 ⟨by simp,by simp [c2]⟩⟩
theorem Jn {p:List (List LD)} (h:smP p=true) {i:Nat} (hi:i<p.length) {l:List LD} (hl:(p.getD i []).length+l.length<=9) (hx:∀ x∈l,smI x=true):(Gg p i l).length<=4/\∀ r∈Gg p i l,r.length<=9/\∀ x∈r,smI x=true:=by
 rw [qA] at h;unfold Gg;refine ⟨by rw [List.length_set];exact h.1,fun r hr=>?_⟩;rcases List.mem_or_eq_of_mem_set hr with hr | rfl
 ·exact ⟨by have := (h.2 r hr).1;omega,(h.2 r hr).2⟩
 ·have hg:p.getD i []=p[i]:=by simp [hi]
  refine ⟨by rw [lla];omega,fun x hxx=>?_⟩;rcases List.mem_append.1 hxx with hxx | hxx
  ·rw [hg] at hxx;exact (h.2 _ (List.getElem_mem hi)).2 x hxx
  ·exact hx x hxx
def Sm (p:List (List LD)):Prop:=p.length<=9/\∀ r∈p,r.length<=9/\∀ x∈r,smI x=true
theorem CG {p:List (List LD)} (h:smP p=true):Sm p:=by
 rw [qA] at h;exact ⟨by omega,fun r hr=>⟨by have := (h.2 r hr).1;omega,(h.2 r hr).2⟩⟩
theorem Sm.sz {p:List (List LD)} (h:Sm p):p.length<=1048576/\total p<=1048576:=by
 have h1:=yO (m:=9) (fun r hr=>(h.2 r hr).1);have h2:p.length*9<=81:=by have := h.1;omega
 exact ⟨by have := h.1;omega,by omega⟩
theorem zY {k:Int} {r:ae} (h:Rd k r) (hk:k<=100000) {p:List (List LD)} (hp:smP p=true):LN (gu r p) fun v=>Rd (k+4) v.1/\Sm v.2:=by
 unfold gu;have hp0:=qA.1 hp;have hg:∀ i,(p.getD i []).length<=8:=fun i=>by
  by_cases hi:i<p.length
  ·have : p.getD i []=p[i]:=by simp [hi]
   rw [this];exact (hp0.2 _ (List.getElem_mem hi)).1
  ·simp [List.getD,List.getElem?_eq_none (Nat.le_of_not_lt hi)]
 refine .gd (Hq hp) (.bif (fun _ => .pure ⟨h.mono (by omega),CG hp⟩) fun h0=>?_);have hpos:0<p.length:=by
  cases hc:p.length with
  | zero=>rw [hc] at h0;cases h0
  | succ n=>omega
 refine (jo h (by omega) _).bind fun v1 ⟨a1,a2,a3⟩=>(jo a1 (by omega) _).bind fun v2 ⟨b1,b2,b3⟩ => .gdD ⟨a2,by omega⟩ ?_;have hi:v1.2.toNat<p.length:=by omega
 have put:∀ {l:List LD},(p.getD v1.2.toNat []).length+l.length<=9->(∀ x∈l,smI x=true)->Sm (Gg p v1.2.toNat l):=fun {l} hl hx=>by
  obtain ⟨g1,g2⟩:=Jn hp hi hl hx;exact ⟨by omega,g2⟩
 refine .bif (fun _=>(vT b1 (by omega) _ (by simp)).bind fun a ⟨c1,c2⟩=>(vT c1 (by omega) _ (by simp)).bind fun b ⟨d1,d2⟩ => .pure ⟨d1.mono (by omega),put (by have := hg v1.2.toNat;simp only [List.length_cons,List.length_nil];omega) fun x hx=>?_⟩) fun _=>?_
 ·rw [List.mem_singleton.1 hx];simp only [List.mem_cons,List.not_mem_nil,or_false] at c2 d2;exact decide_eq_true (by simp only [];omega)
 refine .bif (fun _=>(vT b1 (by omega) _ (by simp)).bind fun a ⟨c1,c2⟩ => .pure ⟨c1.mono (by omega),put (by have := hg v1.2.toNat;simp only [List.length_cons,List.length_nil];omega) fun x hx=>?_⟩) fun _=>?_
 ·rw [List.mem_singleton.1 hx];simp only [List.mem_cons,List.not_mem_nil,or_false] at c2;exact decide_eq_true (by simp only [];omega)
 refine .bif (fun _ => .pure ⟨b1.mono (by omega),by simp only [lla,List.length_replicate];omega,fun r hr=>?_⟩) fun _=>?_
 ·rcases List.mem_append.1 hr with hr | hr
  ·exact ⟨by have := (hp0.2 r hr).1;omega,(hp0.2 r hr).2⟩
  ·rw [List.eq_of_mem_replicate hr];exact ⟨by simp,by simp⟩
 refine .bif (fun _ => .pure ⟨b1.mono (by omega),put (by have := hg v1.2.toNat;rw [List.length_replicate];omega) fun x hx=>?_⟩) fun _=>?_
 ·rw [List.eq_of_mem_replicate hx]
  rfl
 refine .bif (fun _ => .pure ⟨b1.mono (by omega),?_⟩) fun _ => .pure ⟨b1.mono (by omega),CG hp⟩;exact ⟨by simp only [List.length_take,List.length_drop];omega,fun r hr=>(CG hp).2 r (List.mem_of_mem_drop (List.mem_of_mem_take hr))⟩
theorem zZ (x:LD):LN (bW x) fun _=>True:=by
 unfold bW;exact LN.bind (P:=fun _=>True) (.bif (fun _ => .pure trivial) fun _ => .pure trivial) fun _ _=>LN.bind (P:=fun _=>True) (.bif (fun _ => .pure trivial) fun _ => .pure trivial) fun _ _ => .pure trivial
theorem Bv (x:LD):LN (cF x) fun _=>True:=by
 unfold cF;exact LN.bind (P:=fun _=>True) (.bif (fun _ => .pure trivial) fun _ => .pure trivial) fun _ _ => .pure trivial
theorem Sm.row {p:List (List LD)} (h:Sm p) (i:Nat):(p.getD i default).length<=9:=by
 by_cases hi:i<p.length
 ·have : p.getD i default=p[i]:=by simp [hi]
  rw [this];exact (h.2 _ (List.getElem_mem hi)).1
 ·rw [gdq,List.getElem?_eq_none (Nat.le_of_not_lt hi)];exact Nat.zero_le _
theorem vW {p:List (List LD)} (hp:Sm p) (loc:Int) (wr:Bool):LN (ig p loc wr) fun v=>0<=v/\v<=81:=by
 unfold ig;have hpl:=hp.1;refine LN.bind (P:=fun v:Int=>0<=v/\v<=81) ?_ fun v hv => .pure hv;refine LN.loop (fun s=>0<=s.1/\s.1<=(p.length:Int)/\0<=s.2/\s.2<=9*s.1) (fun s=>((p.length:Int)-s.1).toNat) ⟨Int.le_refl _,by simp only [];omega,Int.le_refl _,Int.le_refl _⟩ fun s ⟨h1,h2,h3,h4⟩ => ?_;unfold mJ;refine .bifD (fun h0=>?_) fun h0 => .pure ⟨h3,by omega⟩;have hrow:=hp.row s.1.toNat;refine LN.bind (P:=fun v:Int=>0<=v/\v<=9*s.1+9) ?_ fun v ⟨g1,g2⟩ => .gdI (by omega) (.pure ⟨⟨by simp only [];omega,by simp only [];omega,g1,by simp only [];omega⟩,by simp only [];omega⟩);refine LN.loop (fun t=>0<=t.1/\t.1<=((p.getD s.1.toNat default).length:Int)/\0<=t.2/\t.2<=9*s.1+t.1) (fun t=>(((p.getD s.1.toNat default).length:Int)-t.1).toNat) ⟨Int.le_refl _,by simp only [];omega,h3,by simp only [];omega⟩ fun t ⟨k1,k2,k3,k4⟩ => ?_;unfold lS;refine .gdD ⟨h1,h0⟩ (.bifD (fun hk=>?_) fun hk => .pure ⟨k3,by omega⟩);refine LN.bind (P:=fun v:Int=>0<=v/\v<=t.2+1) ?_ fun v ⟨g1,g2⟩ => .gdI (by omega) (.pure ⟨⟨by simp only [];omega,by simp only [];omega,g1,by simp only [];omega⟩,by simp only [];omega⟩);refine .gdD ⟨k1,hk⟩ (LN.bind (P:=fun _=>True) ?_ fun b _ => .bif (fun _ => .gdI (by omega) (.pure ⟨by omega,by omega⟩)) fun _ => .pure ⟨k3,by omega⟩);refine .bif (fun _=>?_) fun _ => .pure trivial;refine LN.bind (P:=fun _=>True) (.bif (fun _=>(zZ _).bind fun _ _ => .pure trivial) fun _ => .pure trivial) fun _ _=>?_;refine LN.bind (P:=fun _=>True) (.bif (fun _ => .pure trivial) fun _=>?_) fun _ _ => .pure trivial;exact LN.bind (P:=fun _=>True) (.bif (fun _=>(Bv _).bind fun _ _ => .pure trivial) fun _ => .pure trivial) fun _ _ => .pure trivial
theorem Bw {p:List (List LD)} (hp:Sm p) {most:Int} (hm:0<=most/\most<=10000):LN (jV p most) fun _=>True:=by
 unfold jV;refine LN.bind (P:=fun v:Int=>0<=v/\v<=1000000000) ?_ fun v ⟨h1,h2⟩ => .bifD (fun _ => .gdI (by omega) (.pure trivial)) fun _ => .pure trivial;refine LN.loop (fun s=>0<=s.1/\s.1<=3/\0<=s.2/\s.2<=1000000000) (fun s=>(3-s.1).toNat) ⟨Int.le_refl _,by decide,by decide,by decide⟩ fun s ⟨h1,h2,h3,h4⟩ => ?_;unfold mK;refine .bifD (fun h0=>?_) fun h0 => .pure ⟨h3,h4⟩;refine LN.bind (P:=fun v:Int=>0<=v/\v<=1000000000) ?_ fun v ⟨g1,g2⟩ => .gdI (by omega) (.pure ⟨⟨by simp only [];omega,by simp only [];omega,g1,g2⟩,by simp only [];omega⟩);refine (vW hp _ _).bind fun w ⟨w1,w2⟩=>LN.bind (P:=fun v:Int=>0<=v/\v<=1000000000) ?_ fun v ⟨g1,g2⟩ => ?_
 ·refine LN.loop (fun t=>0<=t.1/\t.1<=81/\0<=t.2/\t.2<=1000000000) (fun t=>(81-t.1).toNat) ⟨Int.le_refl _,by simp only [];omega,h3,h4⟩ fun t ⟨k1,k2,k3,k4⟩ => ?_;unfold lT;refine (vW hp _ _).bind fun c ⟨c1,c2⟩=>LN.bind (P:=fun b=>b=(decide (t.1<c)&&decide (t.2<=most))) (.bifD (fun h => .pure (by simp [h])) fun h => .pure (by simp [h])) fun b hb => .bif (fun ht=>?_) fun _ => .pure ⟨k3,k4⟩;rw [hb] at ht;simp only [bae,decide_eq_true_eq] at ht;have e1:0<=t.2*(w+1)/\t.2*(w+1)<=10000*82:=⟨Int.mul_nonneg k3 (by omega),Int.mul_le_mul (by omega) (by omega) (by omega) (by omega)⟩;exact .gdI (by omega) (.gdI (by omega) (.gdI (by omega) (.pure ⟨⟨by simp only [];omega,by simp only [];omega,e1.1,by simp only [];omega⟩,by simp only [];omega⟩)))
 ·refine LN.loop (fun t=>2<=t.1/\t.1<=82/\0<=t.2/\t.2<=1000000000) (fun t=>(82-t.1).toNat) ⟨Int.le_refl _,by simp only [];omega,g1,g2⟩ fun t ⟨k1,k2,k3,k4⟩ => ?_;unfold lV;refine LN.bind (P:=fun b=>b=(decide (t.1<=w)&&decide (t.2<=most))) (.bifD (fun h => .pure (by simp [h])) fun h => .pure (by simp [h])) fun b hb => .bif (fun ht=>?_) fun _ => .pure ⟨k3,k4⟩;rw [hb] at ht;simp only [bae,decide_eq_true_eq] at ht;have e1:0<=t.2*t.1/\t.2*t.1<=10000*82:=⟨Int.mul_nonneg k3 (by omega),Int.mul_le_mul (by omega) (by omega) (by omega) (by omega)⟩;exact .gdI (by omega) (.gdI (by omega) (.pure ⟨⟨by simp only [];omega,by simp only [];omega,e1.1,by simp only [];omega⟩,by simp only [];omega⟩))
theorem KV:uI (⟨#[120,61,49,59,97,61,121,124,121,61,49,59,97,61,120]⟩:ByteArray)=true:=by decide +kernel
theorem Bx {k:Int} {r:ae} (h:Rd k r) (hk:k<=10000):LN (jX r) fun v=>Rd (k+46) v.1/\smP v.2=true:=by
 unfold jX;refine (Dy h.mk' hk Hp).bind fun v ⟨a1,a2⟩=>(Bw (CG a2) (by decide)).bind fun n _ => .bifD (fun _ => .pure ⟨a1.mk',a2⟩) fun _=>?_;exact (xP KV).bind fun u hu => .pure ⟨a1.mk',hu⟩
def dP (code:LI):Option (List (List LD)):= Option.bind (ib code) fun v1=>Option.bind (jX (⟨v1.b,v1.p⟩:ae)) fun v2=>Option.bind (gu (⟨v2.1.b,v2.1.p⟩:ae) v2.2) fun v3=>some v3.2
def nP (a:LI) (b:LI):Int->Option (Int ⊕ (Unit ⊕ Bool)):=fun s5=>bif decide (s5<(a.length:Int)) then gd (decide (0<=s5/\s5<(a.length:Int))) <|gd (decide (0<=s5/\s5<(b.length:Int))) <|bif ((a.getD s5.toNat default) != (b.getD s5.toNat default)) then some (.inr (.inr false)) else gd (LB .i64 (s5+(1:Int))) <|some (.inl (s5+(1:Int))) else some (.inr (.inl ()))
def ju (a:LI) (b:LI):Option Bool:= bif ((a.length:Int) != (b.length:Int)) then some false else sumK (loopO (nP a b) (0:Int)) fun s2=>some true
def mL (a:LL) (b:LL):Int->Option (Int ⊕ (Unit ⊕ Bool)):=fun s5=>bif decide (s5<(a.length:Int)) then gd (decide (0<=s5/\s5<(a.length:Int))) <|gd (decide (0<=s5/\s5<(b.length:Int))) <|Option.bind (ju (a.getD s5.toNat default) (b.getD s5.toNat default)) fun v10=>bif !v10 then some (.inr (.inr false)) else gd (LB .i64 (s5+(1:Int))) <|some (.inl (s5+(1:Int))) else some (.inr (.inl ()))
def jY (a:LL) (b:LL):Option Bool:= bif ((a.length:Int) != (b.length:Int)) then some false else sumK (loopO (mL a b) (0:Int)) fun s2=>some true
def li (list:LL) (o_:LI):Int->Option (Int ⊕ (Unit ⊕ Bool)):=fun s4=>bif decide (s4<(list.length:Int)) then gd (decide (0<=s4/\s4<(list.length:Int))) <|Option.bind (ju (list.getD s4.toNat default) o_) fun v8=>bif v8 then some (.inr (.inr true)) else gd (LB .i64 (s4+(1:Int))) <|some (.inl (s4+(1:Int))) else some (.inr (.inl ()))
def fB (list:LL) (o_:LI):Option Bool:= sumK (loopO (li list o_) (0:Int)) fun s1=>some false
def lW (a:LL) (b:LL):Int->Option (Int ⊕ (Unit ⊕ Bool)):=fun s4=>bif decide (s4<(a.length:Int)) then gd (decide (0<=s4/\s4<(a.length:Int))) <|Option.bind (fB b (a.getD s4.toNat default)) fun v8=>bif !v8 then some (.inr (.inr false)) else gd (LB .i64 (s4+(1:Int))) <|some (.inl (s4+(1:Int))) else some (.inr (.inl ()))
def jv (a:LL) (b:LL):Option Bool:= sumK (loopO (lW a b) (0:Int)) fun s1=>some true
def bN (v2:(List (List LD))) (v3:(LL)) (v7:(LL)):((LL)×Int)->Option (((LL)×Int) ⊕ ((LL) ⊕ Bool)):=fun s12=>bif decide (s12.2<(v3.length:Int)) then gd (decide (0<=s12.2/\s12.2<(v3.length:Int))) <|Option.bind (aQ v2 (v3.getD s12.2.toNat default)) fun v17=>Option.bind (bif !v17.2 then some true else Option.bind (fB v7 v17.1) fun v20=>some (!v20)) fun s18=>bif s18 then some (.inr (.inr false)) else gd (aS (s12.1.length+1) 24) <|gd (LB .i64 (s12.2+(1:Int))) <|some (.inl ((s12.1++[v17.1]),(s12.2+(1:Int)))) else some (.inr (.inl s12.1))
def bP (code:LI):Option Bool:= bif decide ((1048576:Int)<(code.length:Int)) then some true else Option.bind (dP code) fun v2=>Option.bind (dw v2) fun v3=>Option.bind (dC v2) fun v4=>Option.bind (jY v3 v4) fun v5=>bif !v5 then some false else Option.bind (eT v2) fun v7=>sumK (loopO (bN v2 v3 v7) (([]:LL),(0:Int))) fun s8=>Option.bind (jv v7 s8) fun v25=>some v25
theorem Kh {b:LI} (hb:Bts b):LN (dP b) Sm:=by
 unfold dP;exact (Hn hb).bind fun r h=>(Bx h.mk' (by omega)).bind fun v ⟨a1,a2⟩=>(zY a1.mk' (by omega) a2).bind fun u ⟨b1,b2⟩ => .pure b2
theorem Aa {p:List (List LD)} (hsz:p.length<=1048576/\total p<=1048576):LN (eT p) fun q=>(bq (LR p)=false->q=[])/\(bq (LR p)=true->q.Pairwise ltL/\∀ o,o∈q↔H5 p o):=by
 have e:aB p=some (bq (LR p)):=iS (decide_eq_true hsz)
 cases hv:bq (LR p) with
 | true=>
  rw [hv] at e;exact (Dj (PV.of hv) e).mono fun q hq=>⟨nofun,fun _=>hq⟩
 | false=>
  rw [hv] at e;exact .of (Dk e) ⟨fun _=>rfl,nofun⟩
theorem xQ {a b:LI} (ha:a.length<=1048576):LN (ju a b) (· = decide (a=b)):=by
 unfold ju;refine .bif (fun h => .pure ?_) fun h=>?_
 ·have h : ¬ ((a.length:Int)=(b.length:Int)):=by simpa using h
  exact (decide_eq_false fun e=>h (by rw [e])).symm
 ·have h:(a.length:Int)=(b.length:Int):=by simpa using h
  refine LN.sum (PS:=fun _=>a=b) (PW:=(· = decide (a=b))) ?_ fun _ hn => .pure (decide_eq_true hn).symm;refine LN.loop (fun i=>∃ k:Nat,k<=a.length/\i=(k:Int)/\∀ j:Nat,j<k->a.getD j default=b.getD j default) (fun i=>((a.length:Int)-i).toNat) ⟨0,by omega,rfl,fun j hj=>absurd hj (by omega)⟩ fun i ⟨k,h1,h2,h3⟩ => ?_;subst h2;unfold nP;simp only [tnn];refine .bifD (fun hk => .gdD ⟨by omega,hk⟩ (.gdD ⟨by omega,by omega⟩ (.bif (fun hne => .pure ?_) fun he => .gdI (by omega) (.pure ⟨⟨k+1,by omega,rfl,fun j hj=>?_⟩,by omega⟩)))) fun hk => .pure ?_
  ·have hne : ¬ a.getD k default=b.getD k default:=by simpa using hne
   exact (decide_eq_false fun e=>hne (by rw [e])).symm
  ·have he:a.getD k default=b.getD k default:=by simpa using he
   by_cases e:j=k
   ·rw [e];exact he
   ·exact h3 j (by omega)
  ·refine List.ext_getElem (by omega) fun j g1 g2=>?_;have := h3 j (by omega);rw [gdq,gdq,geq g1,geq g2] at this;exact this
theorem vX {a b:LL} (ha:a.length<=1048576) (hr:∀ r∈a,r.length<=1048576):LN (jY a b) (· = decide (a=b)):=by
 unfold jY;refine .bif (fun h => .pure ?_) fun h=>?_
 ·have h : ¬ ((a.length:Int)=(b.length:Int)):=by simpa using h
  exact (decide_eq_false fun e=>h (by rw [e])).symm
 ·have h:(a.length:Int)=(b.length:Int):=by simpa using h
  refine LN.sum (PS:=fun _=>a=b) (PW:=(· = decide (a=b))) ?_ fun _ hn => .pure (decide_eq_true hn).symm;refine LN.loop (fun i=>∃ k:Nat,k<=a.length/\i=(k:Int)/\∀ j:Nat,j<k->a.getD j default=b.getD j default) (fun i=>((a.length:Int)-i).toNat) ⟨0,by omega,rfl,fun j hj=>absurd hj (by omega)⟩ fun i ⟨k,h1,h2,h3⟩ => ?_;subst h2;unfold mL;simp only [tnn];refine .bifD (fun hk => .gdD ⟨by omega,hk⟩ (.gdD ⟨by omega,by omega⟩ ((xQ (hr _ (getD_in (by omega)))).bind fun v hv => .bif (fun hne => .pure ?_) fun he => .gdI (by omega) (.pure ⟨⟨k+1,by omega,rfl,fun j hj=>?_⟩,by omega⟩)))) fun hk => .pure ?_
  ·subst hv;have hne : ¬ a.getD k default=b.getD k default:=by simpa using hne
   exact (decide_eq_false fun e=>hne (by rw [e])).symm
  ·subst hv;have he:a.getD k default=b.getD k default:=by simpa using he
   by_cases e:j=k
   ·rw [e];exact he
   ·exact h3 j (by omega)
  ·refine List.ext_getElem (by omega) fun j g1 g2=>?_;have := h3 j (by omega);rw [gdq,gdq,geq g1,geq g2] at this;exact this
theorem rF {l:LL} {o:LI} (hl:l.length<=1099511627776) (hr:∀ r∈l,r.length<=1048576):LN (fB l o) (· = decide (o∈l)):=by
 unfold fB;refine LN.sum (PS:=fun _=>o∉l) (PW:=(· = decide (o∈l))) ?_ fun _ hn => .pure (decide_eq_false hn).symm;refine LN.loop (fun i=>∃ k:Nat,k<=l.length/\i=(k:Int)/\∀ j:Nat,j<k->l.getD j default≠o) (fun i=>((l.length:Int)-i).toNat) ⟨0,by omega,rfl,fun j hj=>absurd hj (by omega)⟩ fun i ⟨k,h1,h2,h3⟩ => ?_;subst h2;unfold li;simp only [tnn];refine .bifD (fun hk => .gdD ⟨by omega,hk⟩ ((xQ (hr _ (getD_in (by omega)))).bind fun v hv => .bif (fun he => .pure ?_) fun hne => .gdI (by omega) (.pure ⟨⟨k+1,by omega,rfl,fun j hj=>?_⟩,by omega⟩))) fun hk => .pure fun hm=>?_
 ·subst hv;have he:=of_decide_eq_true he;exact (decide_eq_true (by rw [<- he];exact getD_in (by omega))).symm
 ·subst hv;have hne:=of_decide_eq_false hne
  by_cases e:j=k
  ·rw [e];exact hne
  ·exact h3 j (by omega)
 ·obtain ⟨j,hj,e⟩:=List.getElem_of_mem hm;exact h3 j (by omega) (by rw [gdq,geq hj];exact e)
theorem tV {a b:LL} (ha:a.length<=1099511627776) (hb:b.length<=1099511627776) (hr:∀ r∈b,r.length<=1048576) (h:∀ r∈a,r∈b):LN (jv a b) (· = true):=by
 unfold jv;refine LN.sum (PS:=fun _=>True) (PW:=(· = true)) ?_ fun _ hn => .pure rfl;refine LN.loop (fun i=>∃ k:Nat,k<=a.length/\i=(k:Int)) (fun i=>((a.length:Int)-i).toNat) ⟨0,by omega,rfl⟩ fun i ⟨k,h1,h2⟩ => ?_;subst h2;unfold lW;simp only [tnn];refine .bifD (fun hk => .gdD ⟨by omega,hk⟩ ((rF hb hr).bind fun v hv=>?_)) fun hk => .pure trivial;rw [decide_eq_true (h _ (getD_in (by omega)))] at hv;subst hv;exact .bif (fun h=>by cases h) fun _ => .gdI (by omega) (.pure ⟨⟨k+1,by omega,rfl⟩,by omega⟩)
theorem CH {p:List (List LD)} (hp:PV p) {o:LI} (h:H5 p o):o.length<=100:=by
 obtain ⟨u,h1,_,rfl⟩:=h;have hI:=mD hp (Iv.start p) h1;have hl:=hp.vs.1;show (xy u.values).length<=100;unfold xy Kz;rw [lla,qX,hI.up];simp;omega
theorem KW {b:LI} (hb:Bts b):bP b=some true:=by
 refine LN.eq ?_;unfold bP;refine .bifD (fun _ => .pure rfl) fun _=>(Kh hb).bind fun p hp=>?_;have hsz:=hp.sz;obtain ⟨q,e1,e2,q0,q1⟩:=Du hsz;refine (LN.of (P:=(· = q)) e1 rfl).bind fun v3 h3=>(LN.of (P:=(· = q)) e2 rfl).bind fun v4 h4=>?_;subst v3 v4
 cases hv:bq (LR p) with
 | false=>
  obtain rfl:=q0 hv;refine (vX (by simp) (fun r hr=>by cases hr)).bind fun v5 h5 => .bif (fun h=>by subst h5;simp at h) fun _=>?_;refine (Aa hsz).bind fun v7 ⟨g1,_⟩ => ?_;obtain rfl:=g1 hv;refine LN.sum (PS:=(· = [])) (PW:=(· = true)) ?_ fun l hl=>?_
  ·rw [eO];unfold bN;exact .pure rfl
  ·subst hl;exact (tV (by simp) (by simp) (fun r hr=>by cases hr) fun r hr=>by cases hr).bind fun v hv => .pure hv
 | true=>
  have hpv:=PV.of hv;obtain ⟨q2,q3,q4⟩:=q1 hv;have hql:∀ r∈q,r.length<=1048576:=fun r hr=>by have := vS hpv ((q3 r).1 hr).1;omega
  refine (vX (by omega) hql).bind fun v5 h5 => .bif (fun h=>by subst h5;simp at h) fun _=>?_;refine (Aa hsz).bind fun v7 ⟨_,g1⟩ => ?_;obtain ⟨g2,g3⟩:=g1 hv;have hrl:∀ r∈v7,r.length<=1048576:=fun r hr=>by have := CH hpv ((g3 r).1 hr);omega
  have hv7:∀ o∈v7,∃ l∈q,xy (uR p l l.length)=o:=fun o ho=>by
   obtain ⟨s,a1,a2⟩:=FU hv ((g3 o).1 ho);obtain ⟨l,a3,a4⟩:=Hk hsz a1;exact ⟨l,(q3 l).2 a3,a4.trans a2⟩
  have hvl:v7.length<=3000:=by
   have := List.Nodup.length_le_of_subset (l₂:=q.map fun l=>xy (uR p l l.length)) (g2.imp fun h=>EP h) fun o ho=>by
    obtain ⟨l,a1,a2⟩:=hv7 o ho;exact List.mem_map.2 ⟨l,a1,a2⟩
   rw [List.length_map] at this;omega
  refine LN.sum (PS:=fun l=>l=q.map fun l=>xy (uR p l l.length)) (PW:=(· = true)) ?_ fun l hl=>?_
  ·refine LN.loop (fun z=>∃ k:Nat,k<=q.length/\z.2=(k:Int)/\z.1=(q.take k).map fun l=>xy (uR p l l.length)) (fun z=>((q.length:Int)-z.2).toNat) ⟨0,by omega,rfl,rfl⟩ fun z ⟨k,h1,h2,h3⟩ => ?_;obtain ⟨z1,z2⟩:=z;simp only at h2 h3;subst h2;unfold bN;simp only [tnn];refine .bifD (fun hk => .gdD ⟨by omega,hk⟩ ?_) fun hk => .pure ?_
   ·have hw:=((q3 _).1 (getD_in (show k<q.length by omega))).1;obtain ⟨r1,r2⟩:=rC hsz hw;refine (LN.of (P:=(· = (xy (uR p (q.getD k default) (q.getD k default).length),true))) r1 rfl).bind fun v17 h17=>?_;subst h17;refine LN.bind (P:=(· = false)) (.bif (fun h=>by cases h) fun _=>(rF (by omega) hrl).bind fun v20 h20 => .pure ?_) fun v18 h18=>?_
    ·rw [h20,decide_eq_true ((g3 _).2 r2)]
     rfl
    ·subst h18;have hzl:z1.length<=k:=by rw [h3,List.length_map,List.length_take];omega
     refine .bif (fun h=>by cases h) fun _ => .gd (au (by omega) rfl) (.gdI (by omega) (.pure ⟨⟨k+1,by omega,rfl,?_⟩,by simp only [];omega⟩));simp only [];rw [eC (show k<q.length by omega),List.map_append,h3]
     rfl
   ·simp only [];rw [h3,List.take_of_length_le (by omega)]
  ·subst hl;refine (tV (by omega) (by rw [List.length_map];omega) (fun r hr=>?_) fun r hr=>?_).bind fun v hv => .pure hv
   ·obtain ⟨l,a1,rfl⟩:=List.mem_map.1 hr;have := CH hpv (rC hsz ((q3 l).1 a1).1).2;omega
   ·obtain ⟨l,a1,a2⟩:=hv7 r hr;exact List.mem_map.2 ⟨l,a1,a2⟩
theorem LS:TyF Tryz.prog 3 false 1:=⟨by kernel_rfl,by kernel_rfl,by kernel_rfl,by kernel_rfl⟩
theorem zs3:TyZ Tryz.prog 3 [I (0:Int)]:=⟨by kernel_rfl,by kernel_rfl⟩
theorem ty4:TyF Tryz.prog 4 false 1:=⟨by kernel_rfl,by kernel_rfl,by kernel_rfl,by kernel_rfl⟩
theorem ty5:TyF Tryz.prog 5 false 1:=⟨by kernel_rfl,by kernel_rfl,by kernel_rfl,by kernel_rfl⟩
theorem zs5:TyZ Tryz.prog 5 [Y (0:Int)]:=⟨by kernel_rfl,by kernel_rfl⟩
theorem ty9:TyF Tryz.prog 9 false 1:=⟨by kernel_rfl,by kernel_rfl,by kernel_rfl,by kernel_rfl⟩
theorem zs9:TyZ Tryz.prog 9 [St (⟨#[]⟩:ByteArray)]:=⟨by kernel_rfl,by kernel_rfl⟩
theorem Ab:TyF Tryz.prog 24 false 1:=⟨by kernel_rfl,by kernel_rfl,by kernel_rfl,by kernel_rfl⟩
theorem Lm:TyZ Tryz.prog 24 [.nil]:=⟨by kernel_rfl,by kernel_rfl⟩
theorem DJ:TyF Tryz.prog 26 false 1:=⟨by kernel_rfl,by kernel_rfl,by kernel_rfl,by kernel_rfl⟩
theorem Ij:TyF Tryz.prog 33 false 1:=⟨by kernel_rfl,by kernel_rfl,by kernel_rfl,by kernel_rfl⟩
theorem kQ:TyF Tryz.prog 35 false 1:=⟨by kernel_rfl,by kernel_rfl,by kernel_rfl,by kernel_rfl⟩
theorem Lp:TyZ Tryz.prog 35 [.nil]:=⟨by kernel_rfl,by kernel_rfl⟩
theorem wP:TyF Tryz.prog 48 true 2:=⟨by kernel_rfl,by kernel_rfl,by kernel_rfl,by kernel_rfl⟩
theorem Gh:TyZ Tryz.prog 48 [.nil,.nil]:=⟨by kernel_rfl,by kernel_rfl⟩
theorem yP:TyS Tryz.prog 48 [(0,1),(1,1)]:=⟨by kernel_rfl⟩
theorem tX:TyF Tryz.prog 50 false 1:=⟨by kernel_rfl,by kernel_rfl,by kernel_rfl,by kernel_rfl⟩
theorem Lr:TyZ Tryz.prog 50 [.nil]:=⟨by kernel_rfl,by kernel_rfl⟩
theorem KX:TyF Tryz.prog 65 false 1:=⟨by kernel_rfl,by kernel_rfl,by kernel_rfl,by kernel_rfl⟩
theorem Ls:TyZ Tryz.prog 65 [.v .nilIface]:=⟨by kernel_rfl,by kernel_rfl⟩
theorem jP:TyF Tryz.prog 70 true 4:=⟨by kernel_rfl,by kernel_rfl,by kernel_rfl,by kernel_rfl⟩
theorem sV:TyZ Tryz.prog 70 [I (0:Int),I (0:Int),I (0:Int),I (0:Int)]:=⟨by kernel_rfl,by kernel_rfl⟩
theorem lu:TyS Tryz.prog 70 [(0,1),(1,1),(2,1),(3,1)]:=⟨by kernel_rfl⟩
theorem FX:TyF Tryz.prog 84 true 5:=⟨by kernel_rfl,by kernel_rfl,by kernel_rfl,by kernel_rfl⟩
theorem Gi:TyZ Tryz.prog 84 [I (0:Int),I (0:Int),I (0:Int),Bo false,Bo false]:=⟨by kernel_rfl,by kernel_rfl⟩
theorem lj:TyS Tryz.prog 84 [(0,1),(1,1),(2,1),(3,1),(4,1)]:=⟨by kernel_rfl⟩
theorem Lf:TyF Tryz.prog 93 false 1:=⟨by kernel_rfl,by kernel_rfl,by kernel_rfl,by kernel_rfl⟩
theorem Lt:TyZ Tryz.prog 95 [.nil,.nil,.nil,.nil,.nil,.v (.map none)]:=⟨by kernel_rfl,by kernel_rfl⟩
theorem Ac:TyS Tryz.prog 95 [(0,1),(1,2),(3,1),(4,1),(5,1)]:=⟨by kernel_rfl⟩
theorem Jo:TyF Tryz.prog 97 true 3:=⟨by kernel_rfl,by kernel_rfl,by kernel_rfl,by kernel_rfl⟩
theorem Lg:TyZ Tryz.prog 97 [I (0:Int),I (0:Int),I (0:Int)]:=⟨by kernel_rfl,by kernel_rfl⟩
theorem KY:TyZ Tryz.prog 103 [.nil,I (0:Int)]:=⟨by kernel_rfl,by kernel_rfl⟩
theorem uf:TyS Tryz.prog 103 [(0,1),(1,1)]:=⟨by kernel_rfl⟩
theorem Bz:TyF Tryz.prog 115 true 3:=⟨by kernel_rfl,by kernel_rfl,by kernel_rfl,by kernel_rfl⟩
theorem KZ:TyZ Tryz.prog 115 [Y (0:Int),Y (0:Int),Y (0:Int)]:=⟨by kernel_rfl,by kernel_rfl⟩
theorem K3:TyF Tryz.prog 116 true 9:=⟨by kernel_rfl,by kernel_rfl,by kernel_rfl,by kernel_rfl⟩
theorem K4:TyZ Tryz.prog 118 [.nil,Y (0:Int),Y (0:Int),Y (0:Int),Y (0:Int),Y (0:Int),Y (0:Int),Y (0:Int),Y (0:Int),Y (0:Int),Y (0:Int),Y (0:Int),Y (0:Int),Y (0:Int),Y (0:Int),Y (0:Int)]:=⟨by kernel_rfl,by kernel_rfl⟩
theorem wQ:TyS Tryz.prog 118 [(0,1),(1,3),(4,9),(13,3)]:=⟨by kernel_rfl⟩
theorem Ki:TyF Tryz.prog 120 true 16:=⟨by kernel_rfl,by kernel_rfl,by kernel_rfl,by kernel_rfl⟩
theorem Kj:TyZ Tryz.prog 120 [.nil,Y (0:Int),Y (0:Int),Y (0:Int),Y (0:Int),Y (0:Int),Y (0:Int),Y (0:Int),Y (0:Int),Y (0:Int),Y (0:Int),Y (0:Int),Y (0:Int),Y (0:Int),Y (0:Int),Y (0:Int)]:=⟨by kernel_rfl,by kernel_rfl⟩
theorem FY:TyS Tryz.prog 120 [(0,16)]:=⟨by kernel_rfl⟩
theorem cg:SlT Tryz.prog 24 35 false 1 [.nil] 24:=⟨Tryz.underlying24,kQ,Lp,rfl,rfl,by kernel_rfl⟩
theorem jC:SlT Tryz.prog 26 50 false 1 [.nil] 24:=⟨Tryz.underlying26,tX,Lr,rfl,rfl,by kernel_rfl⟩
theorem yX:SlT Tryz.prog 33 5 false 1 [Y (0:Int)] 1:=⟨Tryz.underlying33,ty5,zs5,rfl,rfl,by kernel_rfl⟩
theorem bF:SlT Tryz.prog 35 3 false 1 [I (0:Int)] 8:=⟨Tryz.underlying35,LS,zs3,rfl,rfl,by kernel_rfl⟩
theorem Gj:SlT Tryz.prog 44 48 true 2 [.nil,.nil] 48:=⟨Tryz.underlying44,wP,Gh,rfl,rfl,by kernel_rfl⟩
theorem nQ:SlT Tryz.prog 50 70 true 4 [I (0:Int),I (0:Int),I (0:Int),I (0:Int)] 32:=⟨Tryz.underlying50,jP,sV,rfl,rfl,by kernel_rfl⟩
theorem rS:SlT Tryz.prog 74 84 true 5 [I (0:Int),I (0:Int),I (0:Int),Bo false,Bo false] 32:=⟨Tryz.underlying74,FX,Gi,rfl,rfl,by kernel_rfl⟩
theorem yQ:SlT Tryz.prog 88 24 false 1 [.nil] 24:=⟨Tryz.underlying88,Ab,Lm,rfl,rfl,by kernel_rfl⟩
theorem Lh:KeyA Tryz.prog 97 3 kI3:=by
 obtain ⟨i,hi⟩:=Option.isSome_iff_exists.1 (show (Tryz.prog.info? 3).isSome=true by kernel_rfl);exact KM Tryz.underlying97 Tryz.underlying3 (by kernel_rfl) hi (by kernel_rfl)
theorem Jp:KeyA Tryz.prog 9 1 Ey:=JQ Tryz.underlying9
theorem BA:SlT Tryz.prog 110 65 false 1 [.v .nilIface] 16:=⟨Tryz.underlying110,KX,Ls,rfl,rfl,by kernel_rfl⟩
theorem vY:SlT Tryz.prog 141 9 false 1 [St (⟨#[]⟩:ByteArray)] 16:=⟨Tryz.underlying141,ty9,zs9,rfl,rfl,by kernel_rfl⟩
theorem CI {p:List (List LD)} (h:Dw p=true):p.length<=1048576/\∀ i,(p.getD i []).length<=1048576:=by
 simp only [Dw,bae,decide_eq_true_eq,List.all_eq_true] at h;refine ⟨h.1,fun i=>?_⟩
 by_cases hi:i<p.length
 ·simpa [hi] using h.2 _ (List.getElem_mem hi)
 ·simp [hi]
theorem xS {n m:Nat} (hn:n<=2097152) (hm:Nat.ble m 1000=true):aS n m=true:=by
 have h1:=nlb hm;have h2:n*m<=2097152*1000:=Nat.mul_le_mul hn h1;exact decide_eq_true ⟨by omega,by omega⟩
theorem FZ (p:List (List LD)) {i:Nat} (h:i<p.length):p.take (i+1)=p.take i++[p.getD i []]:=by
 have e:p.getD i []=p[i]:=by rw [gdq,geq h];rfl
 rw [e];exact (List.take_append_getElem h).symm
theorem F3 (p:List (List LD)) (hp:Dw p=true):bA Tryz.prog 76 [eL (cL LD.c) p] [] (AP 4 70 50 LD.c (fun x=>x) p 0 []):=by
 obtain ⟨hp1,hp2⟩:=CI hp;refine bA.mkON Tryz.func76 rfl (by kernel_rfl) rfl (by kernel_rfl) (e0:=ah [(0,eL (cL LD.c) p)]) (Ly rfl Lx) lG LD.isF ?_;refine T.seq ?_;refine T.region ?_;refine oN (LA.asg (.nil) rfl) ?_;refine TO.nil ?_;refine T.seq ?_;refine T.region ?_;refine oA (EvA.mkR ([]:List (List AV)) jC rfl rfl rfl rfl) ?_;refine oN (LA.asg (hS false 0 0 1 0) rfl) ?_;refine TO.nil ?_;refine T.seq ?_;refine T.seq ?_;refine T.region ?_;refine oN (LA.asg (I 0) rfl) ?_;refine TO.nil ?_;refine T.block ?_;refine T.loop (S:=Nat) (G:=NG×AH×Nat) (E:=Nat) (x:=p.length) (fun i=>if i<p.length then some (.inl (i+1)) else some (.inr i)) (fun i g=>i<=p.length/\NK 1 (some ⟨g.2.2,1,50,bH g.1 4 (p.take i)⟩::g.2.1) g.1 4 70 LD.c (p.take i))
  (fun i g=>[(4,I i),(3,hS false 0 g.2.2 1 (p.take i).length),(0,eL (cL LD.c) p)]) (fun i g=>some ⟨g.2.2,1,50,bH g.1 4 (p.take i)⟩::g.2.1) (s0:=0) (fun _=>(false,0,0),[],0)
  (qV (fun i=>i) p.length (fun i hi=>by simp [hi]) (by simp)) ⟨Nat.zero_le _,by exact NK.nil⟩ (zw rfl (Ly rfl (Ly rfl (Ly rfl Lx)))) (fun i g z hz hinv=>?_)
 obtain ⟨gh,K,ver⟩:=g;obtain ⟨hle,hN⟩:=hinv;simp only at hN;generalize hl:p.take i=l at hN ⊢;refine T.seq ?_;refine T.seq ?_;refine T.region ?_;refine oN (LA.mv (I i) rfl) ?_;refine oN (LA.mv (eL (cL LD.c) p) rfl) ?_;refine oN (LA.lenL jC rfl) ?_;refine oN (LA.ilt rfl rfl) ?_;refine TO.nil ?_;have hll:l.length=i:=by rw [<- hl,List.length_take];omega
 refine T.cond rfl (fun q=>?_) (fun q=>?_)
 ·have hi:i<p.length:=by have := of_decide_eq_true q;omega
  rw [if_pos hi] at hz;obtain rfl:=osl hz;have hrow:=hp2 i;have htk:=FZ p hi;rw [hl] at htk;generalize hr:p.getD i []=row at hrow htk;refine T.skip ?_;refine T.seq ?_;refine T.block ?_;refine T.region ?_;refine oN (LA.mv (hS false 0 ver 1 l.length) rfl) ?_;refine oA (EvA.mkO (c:=LD.c) (b:=K.length+1) ([]:List LD) [] nQ rfl rfl rfl (fun _=>rfl) rfl rfl) ?_;refine oN (LA.mv (eL (cL LD.c) p) rfl) ?_;refine oN (LA.mv (I i) rfl) ?_;refine oN (LA.ixL jC rfl rfl ⟨by omega,by omega⟩ (fun _=>rfl)) ?_;refine oN (LA.loadfp (eL LD.c row) tX rfl (by subst hr;rfl)) ?_;refine oA (EvA.appF (l:=([]:List LD)) row nQ (by kernel_rfl) rfl rfl (yp (H:=_::K)) (aJ.fz (l:=row) rfl (fun _=>rfl)) (xS (by simp;omega) rfl)) ?_;refine TO.clean (H0:=some ⟨ver,1,50,bH gh 4 l⟩::(K++[bE false 1 4 70 (row.map LD.c)])) (e0:=ah [(18,hS false (K.length+1) 1 4 row.length),(12,hS false 0 ver 1 l.length),(4,I i),(0,eL (cL LD.c) p)]) (Gz (H:=_::K)).symm (Ly rfl (Ly rfl (Ly rfl (Ly rfl Lx)))) ?_;refine oA (EvA.mkR (b:=(K++[bE false 1 4 70 (row.map LD.c)]).length+1) [[hS false (K.length+1) 1 4 row.length]] jC rfl rfl rfl rfl) ?_;refine oA (EvA.appR (g:=false) (rows:=bH gh 4 l) (rows':=bH gh 4 l++[[hS false (K.length+1) 1 4 row.length]]) (n':=l.length+1) jC (by kernel_rfl) rfl rfl (bV gh 4 l).symm nofun (aJ.raw (rows:=[[hS false (K.length+1) 1 4 row.length]]) rfl (yp (H:=_::(K++[_]))) rfl) (xS (by simp;omega) rfl) rfl rfl) ?_;refine oN (LA.asg (hS false 0 (ver+1) 1 (l.length+1)) rfl) ?_;refine TO.nil ?_;refine T.region ?_;refine oN (LA.mv (I i) rfl) ?_;refine oN (LA.add rfl rfl (IntWalk.i64_in _ ⟨by omega,by omega⟩)) ?_;refine oN (LA.asg (I (i+1:Nat)) rfl) ?_;refine TO.nil ?_;refine ⟨i+1,(gh.put l.length (false,K.length+1,1),K++[bE false 1 4 70 (row.map LD.c)]++[some ⟨0,1,50,[[hS false (K.length+1) 1 4 row.length]]⟩],ver+1),rfl,⟨hi,?_⟩,zw ?_ (Ly rfl (Ly ?_ (Ly rfl Lx)))⟩
  ·rw [htk];refine hN.snoc (id:=K.length+1) (by simp) (by omega) (fun b h1 h2=>?_) ?_ nofun
   ·match b,h1 with
    | b+1,_=>
     simp only [List.length_cons,Nat.add_lt_add_iff_right] at h2;simp only [List.getElem?_cons_succ,List.append_assoc];exact gal h2
   ·simp only [List.getElem?_cons_succ];exact zz
  ·show some (ABlk.mk _ _ _ (bH _ 4 (p.take (i+1))))::_=_;rw [htk,<- xg]
   rfl
  ·show hS false 0 (ver+1) 1 (l.length+1)=hS false 0 (ver+1) 1 (p.take (i+1)).length;rw [htk,lla]
   rfl
 ·have hi : ¬ i<p.length:=by have := of_decide_eq_false q;omega
  rw [if_neg hi] at hz;obtain rfl:=osl hz;refine T.exit ?_;refine ⟨_,rfl,fun he=>?_⟩;subst he;rw [List.take_length] at hl;subst hl;refine T.seq ?_;refine T.region ?_;refine oN (LA.mv (hS false 0 ver 1 p.length) rfl) ?_;refine oN (LA.asg (hS false 0 ver 1 p.length) rfl) ?_;refine TO.nil ?_;refine T.ret ?_
  repeat first | refine fD ?_ | refine fE ?_
  exact Fin.ret (vs:=[hS false 0 ver 1 p.length]) (.cons (.tmp rfl) .nil) ⟨0,ver,gh,rfl,rfl,⟨fun i hi=>⟨Nat.zero_le _,(hN.at_ i hi).2⟩,hN.nil_,hN.sep⟩,fun i hi h0=>absurd (hN.at_ i hi).1 (by omega)⟩
theorem NK.row {r o:Option ABlk} {K:AH} {gh:NG} {w:Nat} {ty:TypeId} {f:LD->List AV} {l:List (List LD)} (h:NK 2 (r::o::K) gh w ty f l) {i:Nat} (hi:i<l.length):∃ g k v,gh i=(g,k+2,v)/\k<K.length/\K[k]? = some (bE g v w ty ((l.getD i []).map f))/\(g=true->l.getD i []=[]):=by
 obtain ⟨h1,h2⟩:=h.at_ i hi;have h3:=h.nil_ i hi;generalize he:gh i=x at h1 h2 h3;obtain ⟨g,id,v⟩:=x;simp only at h1 h2 h3;obtain ⟨k,rfl⟩:∃ k,id=k+2:=⟨id-2,by omega⟩;simp only [List.getElem?_cons_succ] at h2;exact ⟨g,k,v,rfl,(ges h2).1,h2,h3⟩
theorem NK.turn {r o r' o':Option ABlk} {K:AH} {gh:NG} {w:Nat} {ty:TypeId} {f:LD->List AV} {l:List (List LD)} (h:NK 2 (r::o::K) gh w ty f l) {i:Nat} (hi:i<l.length) {g:Bool} {k v:Nat} (he:gh i=(g,k+2,v)) {g':Bool} {v':Nat} {x:List LD} (hg:g'=true->x=[]) :
  NK 2 (r'::o'::K.set k (bE g' v' w ty (x.map f))) (gh.put i (g',k+2,v')) w ty f (l.set i x):=by
 have h1:=h.set hi (g:=g') (ver:=v') (r:=x) hg;rw [he] at h1;refine h1.low fun b hb _=>?_
 match b,hb with
 | b+2,_=>simp [List.getElem?_cons_succ]
theorem ug (code:LI) {q:ae} (h:ib code=some q):eM Tryz.prog 39 [eL cY code] [] (.hp 0 0 2 0 0) [some ⟨0,2,103,[(ae.c q)]⟩]:=by
 refine aM Tryz.func39 Z (by kernel_rfl) Z (T.sr (oN as' (TO.nil ?_)));refine T.jU h (fun s1=>[(0,eL cY s1)]) (fun s1=>[]) (fun s1 h=>?_) (fun s1 h=>?_)
 ·refine T.sr (oN mv (oN (LA.build [eL cY s1,I U] Tryz.underlying103 KY uf Z Z) (oA (EvA.bx (cs:=[eL cY s1,I U]) Z Z Z) (oN as' (TO.nil (T.ret ?_))))));obtain rfl:=LC h
  repeat (first|refine fD ?_|refine fE ?_)
  exact ⟨ah [(2,.hp 0 0 2 0 0)],[some ⟨0,2,103,[(ae.c (⟨s1,U⟩:ae))]⟩],kw Z Z,Fin.ret (vs:=[.hp 0 0 2 0 0]) (.cons (.tmp Z) .nil) ⟨Z,Z⟩⟩
 ·refine T.sr (oN mv (oN (LA.lenL yX Z) (oN (LA.igt Z Z) (TO.nil ?_))));refine T.ifH Z h (fun q2 h=>?_) (fun q2 h=>?_)
  ·refine T.region (oN mv (jD h fun g3 h=>oN (LA.slL yX Z .no (.yes Z) g3 (fun _=>Z)) (oN as' (TO.nil ?_))))
   cases h
   exact ⟨(),trivial,kw Z Z⟩
  ·refine T.skip ?_
   cases h
   exact ⟨(),trivial,kw Z Z⟩
set_option maxHeartbeats 4000000 in
theorem aF (r_:ae) (n:Int) (ver0:Nat) {q:ae×Int} (h:ay r_ n=some q):eM Tryz.prog 77 [.hp 0 ver0 2 0 0,I n] [some ⟨ver0,2,103,[(ae.c r_)]⟩] (I q.2) [some ⟨ver0,2,103,[(ae.c q.1)]⟩]:=by
 refine aM Tryz.func77 Z (by kernel_rfl) Z (T.sr (oN as' (TO.nil (T.sr (oN mv (oN mv (oN (nl Z) (oN (fa uf Z) (oA (lh (I r_.p) LS Z Z Z) (jW h fun g1 h=>oN (LA.add Z Z g1) (oN (nl Z) (oN (fa uf Z) (oV (sr [eL cY r_.b,I (r_.p+V)] LS Z Z Z Z) (TO.nil ?_))))))))))))));refine T.seq (T.sr (oN mv (oN (LA.ilt Z Z) (oN mv ?_))));refine TO.jB h 7 (fun s2=>[(24,Bo s2),(0,.hp 0 ver0 2 0 0),(1,I n)]) (fun s2=>[some ⟨ver0,2,103,[[eL cY r_.b,I (r_.p+V)]]⟩]) (fun s2 q3 h js2=>?_) (fun s2 q3 h js2=>?_) (fun s2 h=>?_)
 ·refine gS Z q3 (gS Z q3 (gS Z q3 (gS Z q3 (gS Z q3 (gS Z q3 (oN (LA.pickT Z q3 (Bo true) Z) ?_))))))
  cases h
  exact js2 _ _ (kw Z Z)
 ·refine gN Z q3 mv (gN Z q3 (nl Z) (gN Z q3 (fa uf Z) (gA Z q3 (lh (eL cY r_.b) Ij Z Z Z) (gN Z q3 (LA.lenL yX Z) (gN Z q3 (LA.ieq Z Z) (oN (LA.pickF Z q3 (Bo ((r_.b.length:Int)==U)) Z) ?_))))))
  cases h
  exact js2 _ _ (kw Z Z)
 ·refine TO.nil ?_;refine T.ifH Z h (fun q4 h=>?_) (fun q4 h=>?_)
  ·refine T.sr (oN as' (TO.nil (T.ret ?_)));obtain rfl:=LC h
   repeat (first|refine fD ?_|refine fE ?_)
   exact ⟨ah [(4,I U)],[some ⟨ver0,2,103,[(ae.c (⟨r_.b,(r_.p+V)⟩:ae))]⟩],kw Z Z,Fin.ret (vs:=[I U]) (.cons (.tmp Z) .nil) ⟨Z,Z⟩⟩
  ·refine T.skip (T.sr (oN mv (oN (nl Z) (oN (fa uf Z) (oA (lh (I (r_.p+V)) LS Z Z Z) (jW h fun g5 h=>oN (LA.sub Z Z g5) (oN as' (TO.nil (T.seq (T.sr (oN mv (oN mv (oN (nl Z) (oN (fa uf Z) ?_))))))))))))));refine oA (lh (eL cY r_.b) Ij Z Z Z) (oN (LA.lenL yX Z) (oN (LA.ilt Z Z) (TO.nil ?_)));refine T.ifH Z h (fun q6 h=>?_) (fun q6 h=>?_)
   ·refine T.sr (oN mv (oN (nl Z) (oN (fa uf Z) (oA (lh (eL cY r_.b) Ij Z Z Z) (oN mv (jD h fun g7 h=>oN (LA.ixL yX Z Z g7 (fun _=>Z)) (oN (lf (Y (J r_.b ((r_.p+V)-V))) ty5 Z) (jW h fun g8 h=>oN (LA.iconv ty5.und Tryz.underlying3 Z g8) (oN mv (jD h fun g9 h=>oN (LA.rem Z Z g9) (oN as' (TO.nil ?_))))))))))));refine T.ret ?_;obtain rfl:=LC h
    repeat (first|refine fD ?_|refine fE ?_)
    exact ⟨ah [(4,I ((J r_.b ((r_.p+V)-V)).tmod n))],[some ⟨ver0,2,103,[(ae.c (⟨r_.b,(r_.p+V)⟩:ae))]⟩],kw Z Z,Fin.ret (vs:=[I ((J r_.b ((r_.p+V)-V)).tmod n)]) (.cons (.tmp Z) .nil) ⟨Z,Z⟩⟩
   ·refine T.skip (T.seq (T.drawF (fun i=>[([],false),([],false),([],false),([0],false),([],false),([],false),([],false),([],false),([0],false),([],false),([],false),([],false),([],false),([],false),([],false),([],false),([],false),([],false),([0],false),([],false),([],false),([],false),([],false),([],false),([],false),([0],false),([],false),([],false),([],false),([],false),([],false),([],false),([],false),([],false),([],false),([],false),([],false),([],false),([],false),([],false),([0],false),([],false),([],false),([],false),([],false),([],false)].getD i ([],false)) (by kernel_rfl) (by kernel_rfl) (fN Z mv (fN Z (nl Z) (fN Z (fa uf Z) (fR [0] Z (fun G hG=>EvA.loadhp (eL cY r_.b) Ij Z (hG.a0 Z) Z Z Z Z) (fN Z mv (fN Z mv (fN Z (nl Z) (fN Z (fa uf Z) (fR [0] Z (fun G hG=>EvA.loadhp (eL cY r_.b) Ij Z (hG.a0 Z) Z Z Z Z) (fN Z (LA.lenL yX Z) (jD h fun g10 h=>fN Z (LA.rem Z Z g10) (jD h fun g11 h=>?_))))))))))))));refine fN Z (LA.ixL yX Z Z g11 (fun _=>Z)) (fN Z (lf (Y (J r_.b (((r_.p+V)-V).tmod (r_.b.length:Int)))) ty5 Z) (jW h fun g12 h=>fN Z (LA.iconv ty5.und Tryz.underlying3 Z g12) (jW h fun g13 h=>fN Z (LA.mul Z Z g13) (fN Z mv (fN Z (nl Z) (fN Z (fa uf Z) (fR [0] Z (fun G hG=>EvA.loadhp (eL cY r_.b) Ij Z (hG.a0 Z) Z Z Z Z) (fN Z mv (jW h fun g14 h=>fN Z (LA.mul Z Z g14) (jW h fun g15 h=>fN Z (LA.add Z Z g15) (fN Z mv ?_)))))))))));refine fN Z (nl Z) (fN Z (fa uf Z) (fR [0] Z (fun G hG=>EvA.loadhp (eL cY r_.b) Ij Z (hG.a0 Z) Z Z Z Z) (fN Z (LA.lenL yX Z) (fN Z (LA.rem Z Z g10) (jD h fun g16 h=>fN Z (LA.ixL yX Z Z g16 (fun _=>Z)) (fN Z (lf (Y (J r_.b (((((r_.p+V)-V)*(7:Int))+(3:Int)).tmod (r_.b.length:Int)))) ty5 Z) (jW h fun g17 h=>fN Z (LA.iconv ty5.und Tryz.underlying3 Z g17) (jW h fun g18 h=>fN Z (LA.mul Z Z g18) (jW h fun g19 h=>fN Z (LA.add Z Z g19) (fN Z mv (jW h fun g20 h=>?_)))))))))));refine fN Z (LA.mul Z Z g20) (jW h fun g21 h=>fN Z (LA.add Z Z g21) (fN Z mv (fN Z mv (fN Z (nl Z) (fN Z (fa uf Z) (fR [0] Z (fun G hG=>EvA.loadhp (eL cY r_.b) Ij Z (hG.a0 Z) Z Z Z Z) (fN Z (LA.lenL yX Z) (jW h fun g22 h=>fN Z (LA.quo Z Z g10 g22) (jW h fun g23 h=>fN Z (LA.mul Z Z g23) (jW h fun g24 h=>fN Z (LA.add Z Z g24) (fN Z as' ?_)))))))))));refine TF.nil (T.seq (T.clean (H0:=[some ⟨ver0,2,103,[[eL cY r_.b,I (r_.p+V)]]⟩]) (e0:=ah [(6,I (((((J r_.b (((r_.p+V)-V).tmod (r_.b.length:Int)))*(131:Int))+((J r_.b (((((r_.p+V)-V)*(7:Int))+(3:Int)).tmod (r_.b.length:Int)))*(1117:Int)))+(((r_.p+V)-V)*(29:Int)))+((((r_.p+V)-V).tdiv (r_.b.length:Int))*(53:Int)))),(1,I n)]) Z (Ly Z (Ly Z Lx)) (T.region (oN mv (oN mv (jD h fun g25 h=>jW h fun g26 h=>oN (LA.quo Z Z g25 g26) (jB h fun w27 ew27 h=>?_)))))));replace ew27:=osi ew27;refine oN (LA.res (LA.bxor Z Z) (r':=I w27) (fun _ _ hr=>by rw [<- ew27];exact hr)) (oN as' (TO.nil (T.sr (oN mv (oN mv (jD h fun g28 h=>oN (LA.rem Z Z g28) (oN as' (TO.nil (T.ret ?_)))))))));obtain rfl:=LC h
    repeat (first|refine fD ?_|refine fE ?_)
    exact ⟨ah [(4,I (w27.tmod n))],[some ⟨ver0,2,103,[(ae.c (⟨r_.b,(r_.p+V)⟩:ae))]⟩],kw Z Z,Fin.ret (vs:=[I (w27.tmod n)]) (.cons (.tmp Z) .nil) ⟨Z,Z⟩⟩
theorem dI (r_:ae) (list:LI) (ver0:Nat) {q:ae×Int} (h:bD r_ list=some q):eM Tryz.prog 78 [.hp 0 ver0 2 0 0,eL cI list] [some ⟨ver0,2,103,[(ae.c r_)]⟩] (I q.2) [some ⟨ver0,2,103,[(ae.c q.1)]⟩]:=by
 refine aM Tryz.func78 Z (by kernel_rfl) Z (T.sr (oN as' (TO.nil (T.sr (oN mv (oN mv (oN mv (oN (LA.lenL bF Z) (jB h fun v1 cv1 h=>oA (EvA.call Z Z Z ((aF (⟨r_.b,r_.p⟩:ae) (list.length:Int) ver0 cv1).one 0 Z (.cons (.hp Z) (.cons (.pF Z) .nil)) (aj Z) (aj Z) Z)) (jD h fun g2 h=>oN (LA.ixL bF Z Z g2 (fun _=>Z)) (oN (lf (I (J list v1.2)) LS Z) (oN as' (TO.nil ?_)))))))))))));refine T.ret ?_;obtain rfl:=LC h
 repeat (first|refine fD ?_|refine fE ?_)
 exact ⟨ah [(4,I (J list v1.2))],[some ⟨ver0,2,103,[(ae.c (⟨v1.1.b,v1.1.p⟩:ae))]⟩],kw Z Z,Fin.ret (vs:=[I (J list v1.2)]) (.cons (.tmp Z) .nil) ⟨Z,Z⟩⟩
theorem sW (r_:ae) (p:List (List LD)) (ver0:Nat) {q:ae×List (List LD)} (h:gu r_ p=some q):eM Tryz.prog 40 [.hp 0 ver0 2 0 0,eL (cL LD.c) p] [some ⟨ver0,2,103,[[eL cY r_.b,I r_.p]]⟩] (eL (cL LD.c) q.2) [some ⟨ver0,2,103,[[eL cY q.1.b,I q.1.p]]⟩]:=by
 refine eM.mkT Tryz.func40 Z (by kernel_rfl) Z (by kernel_rfl) (e0:=ah [(0,.hp 0 ver0 2 0 0),(1,eL (cL LD.c) p)]) (Ly Z (Ly Z Lx)) ?_;unfold gu at h;obtain ⟨hp,h⟩:=gdL h;obtain ⟨hp1,hp2⟩:=CI hp;refine T.seq ?_;refine T.region ?_;refine oN (LA.asg (.nil) Z) ?_;refine TO.nil ?_;refine T.seq ?_;refine T.region ?_;refine oN (LA.mv (eL (cL LD.c) p) Z) ?_;refine oGN (m:=1) Z Z Z Z LD.isF ((F3 p hp).ownN Z LD.isF lG 1 Z) (fun ver gh K hN hK=>?_);clear hK;replace hN:NK 2 (some ⟨ver0,2,103,[[eL cY r_.b,I r_.p]]⟩::some ⟨ver,1,50,bH gh 4 p⟩::K) gh 4 70 LD.c p:=hN;refine TO.clean (H0:=some ⟨ver0,2,103,[[eL cY r_.b,I r_.p]]⟩::some ⟨ver,1,50,bH gh 4 p⟩::K) (e0:=ah [(8,hS false 1 ver 1 p.length),(0,.hp 0 ver0 2 0 0)]) Z (Ly Z (Ly Z Lx)) ?_;refine oN (LA.asg (hS false 1 ver 1 p.length) Z) ?_;refine TO.nil ?_;refine T.seq ?_;refine T.seq ?_;refine T.region ?_;refine oN (LA.mv (hS false 1 ver 1 p.length) Z) ?_;refine oN (LA.lenO (g:=false) jC Z nofun) ?_;refine oN (LA.ieq Z Z) ?_;refine TO.nil ?_;refine T.cond Z (fun qz=>?_) (fun qz=>?_)
 ·have h0:p.length=0:=by have := eq_of_beq qz;omega
  replace h:=AB (show Nat.beq p.length 0=true by rw [h0];rfl) h;refine T.seq ?_;refine T.region ?_;refine oN (LA.mv (hS false 1 ver 1 p.length) Z) ?_;refine oN (LA.asg (hS false 1 ver 1 p.length) Z) ?_;refine TO.nil ?_;refine T.ret ?_;obtain rfl:=osl h
  repeat first | refine fD ?_ | refine fE ?_
  exact ⟨ah [(4,eL (cL LD.c) p)],[some ⟨ver0,2,103,[[eL cY r_.b,I r_.p]]⟩],jA Z (.cons (.row (.cons (.fz (.of_isF 9 _ Z)) (.cons (.fz (.of_isF 9 _ Z)) .nil))) .nil) (aa (.fz (hN.fzm Z Z Z Z LD.isF)) az),Fin.ret (vs:=[eL (cL LD.c) p]) (.cons (.tmp Z) .nil) ⟨Z,Z⟩⟩
 ·have h0:p.length≠0:=fun h0=>by rw [h0] at qz;exact absurd qz (by decide)
  replace h:=AC (show Nat.beq p.length 0=false by cases hc:p.length with | zero=>exact absurd hc h0 | succ n=>rfl) h;refine T.skip ?_;refine T.seq ?_;refine T.region ?_;refine oN (LA.mv (.hp 0 ver0 2 0 0) Z) ?_;refine oN (LA.mv (hS false 1 ver 1 p.length) Z) ?_;refine oN (LA.lenO (g:=false) jC Z nofun) ?_;obtain ⟨v1,cv1,h⟩:=zu h;refine oA (EvA.call Z Z Z ((aF r_ (p.length:Int) ver0 cv1).one 0 Z (.cons (.hp Z) (.cons (.pF Z) .nil)) (aj Z) (aj Z) Z)) ?_;refine oN (LA.asg (I v1.2) Z) ?_;refine TO.nil ?_;refine T.joinF (G:=Unit) (fun _=>True) (fun _=>[(5,eL (cL LD.c) q.2)]) (fun _=>[some ⟨ver0,2,103,[[eL cY q.1.b,I q.1.p]]⟩]) (fun _ _=>?_) ?_
  ·clear h;refine T.seq ?_;refine T.region ?_;refine oN (LA.mv (eL (cL LD.c) q.2) Z) ?_;refine oN (LA.asg (eL (cL LD.c) q.2) Z) ?_;refine TO.nil ?_;refine T.ret ?_
   repeat first | refine fD ?_ | refine fE ?_
   exact ⟨ah [(4,eL (cL LD.c) q.2)],[some ⟨ver0,2,103,[[eL cY q.1.b,I q.1.p]]⟩],zw Z (Ly Z Lx),Fin.ret (vs:=[eL (cL LD.c) q.2]) (.cons (.tmp Z) .nil) ⟨Z,Z⟩⟩
  ·refine T.seq ?_;refine T.region ?_;refine oN (LA.mv (.hp 0 ver0 2 0 0) Z) ?_;obtain ⟨v2,cv2,h⟩:=zu h;refine oA (EvA.call Z Z Z ((aF v1.1 (40:Int) ver0 cv2).one 0 Z (.cons (.hp Z) (.cons (.pF Z) .nil)) (aj Z) (aj Z) Z)) ?_;refine TO.nil ?_;obtain ⟨hi,h⟩:=gdD h;refine T.clean (H0:=some ⟨ver0,2,103,[[eL cY v2.1.b,I v2.1.p]]⟩::some ⟨ver,1,50,bH gh 4 p⟩::K) (e0:=ah [(18,I v2.2),(6,I v1.2),(5,hS false 1 ver 1 p.length),(0,.hp 0 ver0 2 0 0)]) Z (Ly Z (Ly Z (Ly Z (Ly Z Lx)))) ?_
   replace hN:NK 2 (some ⟨ver0,2,103,[[eL cY v2.1.b,I v2.1.p]]⟩::some ⟨ver,1,50,bH gh 4 p⟩::K) gh 4 70 LD.c p:=hN.low fun b hb _=>by match b,hb with | b+2,_=>rfl
   have hin:v1.2.toNat<p.length:=by omega
   clear cv1 cv2 hp;refine T.block ?_;refine T.seq ?_;refine T.region ?_;refine oN (LA.ieq Z Z) ?_;refine oN (LA.asg (Bo (v2.2==U)) Z) ?_;refine TO.nil ?_;refine T.cond Z (fun q0=>?_) (fun q0=>?_)
   ·replace h:=AB q0 h;obtain ⟨g,k,v,hg,hk,hK,hnil⟩:=hN.row (i:=v1.2.toNat) hin;have hlen:=hp2 v1.2.toNat;unfold Gg at h;generalize hrw:p.getD v1.2.toNat []=row at hK hnil h hlen;refine T.drawF (fun i=>[([],false),([],false),([],false),([],false),([],false),([1],false),([],false),([],false),([0],true),([],false),([],false),([0],true),([],false),([],false),([k+2],true),([],false),([1],true)].getD i ([],false)) (by kernel_rfl) (by kernel_rfl) ?_;refine fN Z (LA.mv (hS false 1 ver 1 p.length) Z) ?_;refine fN Z (LA.mv (I v1.2) Z) ?_;refine fN Z (LA.mv (hS false 1 ver 1 p.length) Z) ?_;refine fN Z (LA.mv (I v1.2) Z) ?_;refine fN Z (LA.ixO (g:=false) jC Z Z nofun hi) ?_;refine fR [1] Z (fun G hG=>EvA.loadhp (hS g (k+2) v 4 row.length) tX Z (hG.a0 Z) Z Z (show (bH gh 4 p)[v1.2.toNat]? = some [hS g (k+2) v 4 row.length] by rw [bJ hin,yV,hg,hrw]) Z) ?_;refine fN Z (LA.mv (.hp 0 ver0 2 0 0) Z) ?_;refine fN Z (LA.mkF (c:=cI) ([(0:Int),(6:Int),V,(4:Int)]:LI) [[I U],[I (6:Int)],[I V],[I (4:Int)]] bF Z Z Z (fun _=>Z) (fun _=>Z) Z) ?_;obtain ⟨a,ca,h⟩:=zu h;refine fW 0 [] Z Z (fun G hG=>EvA.call Z Z Z ((dI v2.1 ([(0:Int),(6:Int),V,(4:Int)]:LI) ver0 ca).one 0 (hG.a0 Z) (.cons (.hp Z) (.cons (.pF Z) .nil)) (aj Z) (aj Z) Z)) ?_;refine fN Z (LA.mv (.hp 0 ver0 2 0 0) Z) ?_;refine fN Z (LA.mkF (c:=cI) ([(0:Int),(3:Int),(-1:Int)]:LI) [[I U],[I (3:Int)],[I (-1:Int)]] bF Z Z Z (fun _=>Z) (fun _=>Z) Z) ?_;obtain ⟨b,cb,h⟩:=zu h;refine fW 0 [] Z Z (fun G hG=>EvA.call Z Z Z ((dI a.1 ([(0:Int),(3:Int),(-1:Int)]:LI) ver0 cb).one 0 (hG.a0 Z) (.cons (.hp Z) (.cons (.pF Z) .nil)) (aj Z) (aj Z) Z)) ?_;refine fN Z (LA.build [I a.2,I b.2,I U,I U] Tryz.underlying70 sV lu Z Z) ?_;refine fN Z (LA.mkF (c:=LD.c) ([(⟨a.2,b.2,U,U⟩:LD)]:List LD) [[I a.2,I b.2,I U,I U]] nQ Z Z Z (fun _=>Z) LD.isF Z) ?_;refine fW (k+2) [] Z (Nat.ble_eq_true_of_le (by simp;omega)) (fun G hG=>EvA.app1 (g:=g) (l:=row) (⟨a.2,b.2,(0:Int),(0:Int)⟩:LD) nQ (by kernel_rfl) Z Z (hG.a0 hK) hnil (aJ.fz (l:=[(⟨a.2,b.2,(0:Int),(0:Int)⟩:LD)]) Z (fun _=>Z)) (xS (by omega) Z)) ?_;refine fN Z (LA.ixO (g:=false) jC Z Z nofun hi) ?_;refine fV 1 [] Z Z (fun G hG=>EvA.st ⟨ver,1,50,(bH gh 4 p).set v1.2.toNat [hS false (k+2) (v+1) 4 (row++[(⟨a.2,b.2,U,U⟩:LD)]).length]⟩ tX Z Z (hG.a0 Z) Z Z (show (bH gh 4 p)[v1.2.toNat]? = some [hS g (k+2) v 4 row.length] by rw [bJ hin,yV,hg,hrw]) Z Z Z) ?_;refine TF.nil ?_;obtain rfl:=osl h;have hN2:=hN.turn (r':=some ⟨ver0,2,103,[[eL cY b.1.b,I b.1.p]]⟩) (o':=some ⟨ver,1,50,bH (gh.put v1.2.toNat (false,k+2,v+1)) 4 (p.set v1.2.toNat (row++[(⟨a.2,b.2,U,U⟩:LD)]))⟩) hin hg (g':=false) (v':=v+1) (x:=row++[(⟨a.2,b.2,U,U⟩:LD)]) nofun;rw [<- mq hin] at hN2;refine ⟨(),trivial,jA Z (.cons (.row (.cons (.fz (.of_isF 9 _ Z)) (.cons (.fz (.of_isF 9 _ Z)) .nil))) .nil) (aa (.fz (hN2.fzm (to:=50) Z Z ?_ (by simp) LD.isF)) az)⟩;rw [<- mq hin]
    rfl
   ·replace h:=AC q0 h;refine T.seq ?_;refine T.region ?_;refine oN (LA.ieq Z Z) ?_;refine oN (LA.asg (Bo (v2.2==V)) Z) ?_;refine TO.nil ?_;refine T.cond Z (fun q1=>?_) (fun q1=>?_)
    ·replace h:=AB q1 h;obtain ⟨g,k,v,hg,hk,hK,hnil⟩:=hN.row (i:=v1.2.toNat) hin;have hlen:=hp2 v1.2.toNat;unfold Gg at h;generalize hrw:p.getD v1.2.toNat []=row at hK hnil h hlen;refine T.drawF (fun i=>[([],false),([],false),([],false),([],false),([],false),([1],false),([],false),([],false),([0],true),([],false),([],false),([k+2],true),([],false),([1],true)].getD i ([],false)) (by kernel_rfl) (by kernel_rfl) ?_;refine fN Z (LA.mv (hS false 1 ver 1 p.length) Z) ?_;refine fN Z (LA.mv (I v1.2) Z) ?_;refine fN Z (LA.mv (hS false 1 ver 1 p.length) Z) ?_;refine fN Z (LA.mv (I v1.2) Z) ?_;refine fN Z (LA.ixO (g:=false) jC Z Z nofun hi) ?_;refine fR [1] Z (fun G hG=>EvA.loadhp (hS g (k+2) v 4 row.length) tX Z (hG.a0 Z) Z Z (show (bH gh 4 p)[v1.2.toNat]? = some [hS g (k+2) v 4 row.length] by rw [bJ hin,yV,hg,hrw]) Z) ?_;refine fN Z (LA.mv (.hp 0 ver0 2 0 0) Z) ?_;refine fN Z (LA.mkF (c:=cI) ([(4:Int),(-1:Int),(3:Int)]:LI) [[I (4:Int)],[I (-1:Int)],[I (3:Int)]] bF Z Z Z (fun _=>Z) (fun _=>Z) Z) ?_;obtain ⟨a,ca,h⟩:=zu h;refine fW 0 [] Z Z (fun G hG=>EvA.call Z Z Z ((dI v2.1 ([(4:Int),(-1:Int),(3:Int)]:LI) ver0 ca).one 0 (hG.a0 Z) (.cons (.hp Z) (.cons (.pF Z) .nil)) (aj Z) (aj Z) Z)) ?_;refine fN Z (LA.build [I (2:Int),I U,I U,I a.2] Tryz.underlying70 sV lu Z Z) ?_;refine fN Z (LA.mkF (c:=LD.c) ([(⟨(2:Int),U,U,a.2⟩:LD)]:List LD) [[I (2:Int),I U,I U,I a.2]] nQ Z Z Z (fun _=>Z) LD.isF Z) ?_;refine fW (k+2) [] Z (Nat.ble_eq_true_of_le (by simp;omega)) (fun G hG=>EvA.app1 (g:=g) (l:=row) (⟨(2:Int),(0:Int),(0:Int),a.2⟩:LD) nQ (by kernel_rfl) Z Z (hG.a0 hK) hnil (aJ.fz (l:=[(⟨(2:Int),(0:Int),(0:Int),a.2⟩:LD)]) Z (fun _=>Z)) (xS (by omega) Z)) ?_;refine fN Z (LA.ixO (g:=false) jC Z Z nofun hi) ?_;refine fV 1 [] Z Z (fun G hG=>EvA.st ⟨ver,1,50,(bH gh 4 p).set v1.2.toNat [hS false (k+2) (v+1) 4 (row++[(⟨(2:Int),U,U,a.2⟩:LD)]).length]⟩ tX Z Z (hG.a0 Z) Z Z (show (bH gh 4 p)[v1.2.toNat]? = some [hS g (k+2) v 4 row.length] by rw [bJ hin,yV,hg,hrw]) Z Z Z) ?_;refine TF.nil ?_;obtain rfl:=osl h;have hN2:=hN.turn (r':=some ⟨ver0,2,103,[[eL cY a.1.b,I a.1.p]]⟩) (o':=some ⟨ver,1,50,bH (gh.put v1.2.toNat (false,k+2,v+1)) 4 (p.set v1.2.toNat (row++[(⟨(2:Int),U,U,a.2⟩:LD)]))⟩) hin hg (g':=false) (v':=v+1) (x:=row++[(⟨(2:Int),U,U,a.2⟩:LD)]) nofun;rw [<- mq hin] at hN2;refine ⟨(),trivial,jA Z (.cons (.row (.cons (.fz (.of_isF 9 _ Z)) (.cons (.fz (.of_isF 9 _ Z)) .nil))) .nil) (aa (.fz (hN2.fzm (to:=50) Z Z ?_ (by simp) LD.isF)) az)⟩;rw [<- mq hin]
     rfl
    ·replace h:=AC q1 h;refine T.seq ?_;refine T.region ?_;refine oN (LA.ieq Z Z) ?_;refine oN (LA.asg (Bo (v2.2==(2:Int))) Z) ?_;refine TO.nil ?_;refine T.cond Z (fun q2=>?_) (fun q2=>?_)
     ·replace h:=AB q2 h;refine T.block ?_;refine T.loop (S:=Nat) (G:=NG×AH×Nat) (E:=Nat) (x:=4-p.length) (fun j=>if p.length+j<=3 then some (.inl (j+1)) else some (.inr j)) (fun j g=>j<=4-p.length/\NK 2 (some ⟨ver0,2,103,[[eL cY v2.1.b,I v2.1.p]]⟩::some ⟨g.2.2,1,50,bH g.1 4 (p++List.replicate j [])⟩::g.2.1) g.1 4 70 LD.c (p++List.replicate j [])) (fun j g=>[(5,hS false 1 g.2.2 1 (p++List.replicate j []).length)]) (fun j g=>some ⟨ver0,2,103,[[eL cY v2.1.b,I v2.1.p]]⟩::some ⟨g.2.2,1,50,bH g.1 4 (p++List.replicate j [])⟩::g.2.1) (s0:=0) (gh,K,ver) (qV (fun i=>i) (4-p.length) (fun i hi=>by rw [if_pos (by omega)]) (by rw [if_neg (by omega)])) ⟨Nat.zero_le _,by simpa using hN⟩ (zw (by simp) (Ly (by simp;rfl) Lx)) (fun j g z hz hinv=>?_);obtain ⟨gh,K,ver⟩:=g;obtain ⟨hle,hN⟩:=hinv;simp only at hN;have hll:(p++List.replicate j []).length=p.length+j:=by simp
      have htk:p++List.replicate (j+1) []=(p++List.replicate j [])++[([]:List LD)]:=by rw [List.replicate_succ',List.append_assoc]
      generalize hl:(p++List.replicate j [])=l at hN hll htk ⊢;refine T.seq ?_;refine T.seq ?_;refine T.region ?_;refine oN (LA.mv (hS false 1 ver 1 l.length) Z) ?_;refine oN (LA.lenO (g:=false) jC Z nofun) ?_;refine oN (LA.ile Z Z) ?_;refine TO.nil ?_;refine T.cond Z (fun qa=>?_) (fun qa=>?_)
      ·have hj:p.length+j<=3:=by have := of_decide_eq_true qa;omega
       rw [if_pos hj] at hz;obtain rfl:=osl hz;refine T.skip ?_;refine T.block ?_;refine T.region ?_;refine oN (LA.mv (hS false 1 ver 1 l.length) Z) ?_;refine oA (EvA.mkO (c:=LD.c) (b:=K.length+2) ([]:List LD) [] nQ Z Z Z (fun _=>Z) Z Z) ?_;refine TO.clean (H0:=some ⟨ver0,2,103,[[eL cY v2.1.b,I v2.1.p]]⟩::some ⟨ver,1,50,bH gh 4 l⟩::(K++[bE false 0 4 70 (([]:List LD).map LD.c)])) (e0:=ah [(58,hS false (K.length+2) 0 4 0),(57,hS false 1 ver 1 l.length)]) Z (Ly Z (Ly Z Lx)) ?_;refine oA (EvA.mkR (b:=(K++[bE false 0 4 70 (([]:List LD).map LD.c)]).length+2) [[hS false (K.length+2) 0 4 0]] jC Z Z Z Z) ?_;refine oA (EvA.appR (g:=false) (rows:=bH gh 4 l) (rows':=bH gh 4 l++[[hS false (K.length+2) 0 4 0]]) (n':=l.length+1) jC (by kernel_rfl) Z Z (bV gh 4 l).symm nofun (aJ.raw (rows:=[[hS false (K.length+2) 0 4 0]]) Z (yp (H:=_::_::(K++[_]))) Z) (xS (by simp;omega) Z) Z Z) ?_;refine oN (LA.asg (hS false 1 (ver+1) 1 (l.length+1)) Z) ?_;refine TO.nil ?_;refine ⟨j+1,(gh.put l.length (false,K.length+2,0),K++[bE false 0 4 70 (([]:List LD).map LD.c)]++[some ⟨0,1,50,[[hS false (K.length+2) 0 4 0]]⟩],ver+1),Z,⟨by omega,?_⟩,zw ?_ (Ly ?_ Lx)⟩
       ·rw [htk];refine hN.snoc (id:=K.length+2) (by simp) (by omega) (fun b h1 h2=>?_) ?_ (fun _=>Z)
        ·match b,h1 with
         | b+2,_=>
          simp only [List.length_cons,Nat.add_lt_add_iff_right] at h2;simp only [List.getElem?_cons_succ,List.append_assoc];exact gal h2
        ·simp only [List.getElem?_cons_succ];exact zz
       ·show _::some (ABlk.mk _ _ _ (bH _ 4 (p++List.replicate (j+1) [])))::_=_;rw [htk,<- xg]
        rfl
       ·show hS false 1 (ver+1) 1 (l.length+1)=hS false 1 (ver+1) 1 (p++List.replicate (j+1) []).length;rw [htk,lla]
        rfl
      ·have hj : ¬ p.length+j<=3:=by have := of_decide_eq_false qa;omega
       rw [if_neg hj] at hz;obtain rfl:=osl hz;refine T.exit ?_;refine ⟨_,Z,fun he=>?_⟩;subst he;obtain rfl:=osl h;subst hl;exact ⟨(),trivial,jA Z (.cons (.row (.cons (.fz (.of_isF 9 _ Z)) (.cons (.fz (.of_isF 9 _ Z)) .nil))) .nil) (aa (.fz (hN.fzm Z Z Z Z LD.isF)) az)⟩
     ·replace h:=AC q2 h;refine T.seq ?_;refine T.region ?_;refine oN (LA.ieq Z Z) ?_;refine oN (LA.asg (Bo (v2.2==(3:Int))) Z) ?_;refine TO.nil ?_;refine T.cond Z (fun q3=>?_) (fun q3=>?_)
      ·replace h:=AB q3 h;have hlen:=hp2 v1.2.toNat;unfold Gg at h;have hset:p.set v1.2.toNat (p.getD v1.2.toNat [])=p:=by simp [hin]
       generalize hrw0:p.getD v1.2.toNat []=row0 at h hlen hset;refine T.block ?_;refine T.loop (S:=Nat) (G:=NG×AH) (E:=Nat) (x:=8-row0.length) (fun j=>if row0.length+j<=7 then some (.inl (j+1)) else some (.inr j)) (fun j g=>j<=8-row0.length/\NK 2 (some ⟨ver0,2,103,[[eL cY v2.1.b,I v2.1.p]]⟩::some ⟨ver,1,50,bH g.1 4 (p.set v1.2.toNat (row0++List.replicate j (⟨1,0,0,0⟩:LD)))⟩::g.2) g.1 4 70 LD.c (p.set v1.2.toNat (row0++List.replicate j (⟨1,0,0,0⟩:LD)))) (fun j g=>[(6,I v1.2),(5,hS false 1 ver 1 p.length)]) (fun j g=>some ⟨ver0,2,103,[[eL cY v2.1.b,I v2.1.p]]⟩::some ⟨ver,1,50,bH g.1 4 (p.set v1.2.toNat (row0++List.replicate j (⟨1,0,0,0⟩:LD)))⟩::g.2) (s0:=0) (gh,K) (qV (fun i=>i) (8-row0.length) (fun i hi=>by rw [if_pos (by omega)]) (by rw [if_neg (by omega)])) ⟨Nat.zero_le _,by simpa [hset] using hN⟩ (zw (by simp [hset]) (Ly Z (Ly Z Lx))) (fun j g z hz hinv=>?_);obtain ⟨gh,K⟩:=g;obtain ⟨hle,hN⟩:=hinv;simp only at hN;have hin2:v1.2.toNat<(p.set v1.2.toNat (row0++List.replicate j (⟨1,0,0,0⟩:LD))).length:=by simp [hin]
       have hgt:(p.set v1.2.toNat (row0++List.replicate j (⟨1,0,0,0⟩:LD))).getD v1.2.toNat []=(row0++List.replicate j (⟨1,0,0,0⟩:LD)):=by simp [hin]
       have hrl:(row0++List.replicate j (⟨1,0,0,0⟩:LD)).length=row0.length+j:=by simp
       have hnx:∀ x,((p.set v1.2.toNat (row0++List.replicate j (⟨1,0,0,0⟩:LD)))).set v1.2.toNat x=p.set v1.2.toNat x:=fun x=>by simp
       have htk:row0++List.replicate (j+1) (⟨1,0,0,0⟩:LD)=(row0++List.replicate j (⟨1,0,0,0⟩:LD))++[(⟨1,0,0,0⟩:LD)]:=by rw [List.replicate_succ',List.append_assoc]
       obtain ⟨g,k,v,hg,hk,hK,hnil⟩:=hN.row (i:=v1.2.toNat) hin2;rw [hgt] at hK hnil;have hpl:(p.set v1.2.toNat (row0++List.replicate j (⟨1,0,0,0⟩:LD))).length=p.length:=by simp
       generalize hrw:(row0++List.replicate j (⟨1,0,0,0⟩:LD))=row at hN hin2 hgt hrl hnx htk hK hnil hpl ⊢;generalize hl:p.set v1.2.toNat row=l at hN hin2 hgt hnx hpl ⊢;refine T.seq ?_;refine T.seq ?_;refine T.region ?_;refine oN (LA.mv (hS false 1 ver 1 p.length) Z) ?_;refine oN (LA.mv (I v1.2) Z) ?_;refine oN (LA.ixO (g:=false) jC Z Z nofun hi) ?_;refine oA (EvA.loadhp (hS g (k+2) v 4 row.length) tX Z Z Z Z (show (bH gh 4 l)[v1.2.toNat]? = some [hS g (k+2) v 4 row.length] by rw [bJ hin2,yV,hg,hgt]) Z) ?_;refine oN (LA.lenO (g:=g) nQ Z (fun x=>by rw [hnil x];rfl)) ?_;refine oN (LA.ile Z Z) ?_;refine TO.nil ?_;refine T.cond Z (fun qa=>?_) (fun qa=>?_)
       ·have hj:row0.length+j<=7:=by have := of_decide_eq_true qa;omega
        rw [if_pos hj] at hz;obtain rfl:=osl hz;refine T.skip ?_;refine T.block ?_;refine T.region ?_;refine oN (LA.mv (hS false 1 ver 1 p.length) Z) ?_;refine oN (LA.mv (I v1.2) Z) ?_;refine oN (LA.mv (hS false 1 ver 1 p.length) Z) ?_;refine oN (LA.mv (I v1.2) Z) ?_;refine oN (LA.ixO (g:=false) jC Z Z nofun hi) ?_;refine oA (EvA.loadhp (hS g (k+2) v 4 row.length) tX Z Z Z Z (show (bH gh 4 l)[v1.2.toNat]? = some [hS g (k+2) v 4 row.length] by rw [bJ hin2,yV,hg,hgt]) Z) ?_;refine oN (LA.build [I V,I U,I U,I U] Tryz.underlying70 sV lu Z Z) ?_;refine oN (LA.mkF (c:=LD.c) ([(⟨1,0,0,0⟩:LD)]:List LD) [[I V,I U,I U,I U]] nQ Z Z Z (fun _=>Z) LD.isF Z) ?_;refine oA (EvA.app1 (g:=g) (l:=row) (⟨1,0,0,0⟩:LD) nQ (by kernel_rfl) Z Z hK hnil (aJ.fz (l:=[(⟨1,0,0,0⟩:LD)]) Z (fun _=>Z)) (xS (by omega) Z)) ?_;refine oN (LA.ixO (g:=false) jC Z Z nofun hi) ?_;refine oV (EvA.st ⟨ver,1,50,(bH gh 4 l).set v1.2.toNat [hS false (k+2) (v+1) 4 (row++[(⟨1,0,0,0⟩:LD)]).length]⟩ tX Z Z Z Z Z (show (bH gh 4 l)[v1.2.toNat]? = some [hS g (k+2) v 4 row.length] by rw [bJ hin2,yV,hg,hgt]) Z Z Z) ?_;refine TO.nil ?_;have hN2:=hN.turn (r':=some ⟨ver0,2,103,[[eL cY v2.1.b,I v2.1.p]]⟩) (o':=some ⟨ver,1,50,bH (gh.put v1.2.toNat (false,k+2,v+1)) 4 (l.set v1.2.toNat (row++[(⟨1,0,0,0⟩:LD)]))⟩) hin2 hg (g':=false) (v':=v+1) (x:=row++[(⟨1,0,0,0⟩:LD)]) nofun;refine ⟨j+1,(gh.put v1.2.toNat (false,k+2,v+1),K.set k (bE false (v+1) 4 70 ((row++[(⟨1,0,0,0⟩:LD)]).map LD.c))),Z,⟨by omega,?_⟩,zw ?_ (Ly Z (Ly Z Lx))⟩
        ·rw [hnx] at hN2;rw [htk];exact hN2
        ·show _::some (ABlk.mk _ _ _ (bH _ 4 (p.set v1.2.toNat (row0++List.replicate (j+1) (⟨1,0,0,0⟩:LD)))))::_=_;rw [htk,<- hnx,<- mq hin2]
         rfl
       ·have hj : ¬ row0.length+j<=7:=by have := of_decide_eq_false qa;omega
        rw [if_neg hj] at hz;obtain rfl:=osl hz;refine T.exit ?_;refine ⟨_,Z,fun he=>?_⟩;subst he;obtain rfl:=osl h;subst hrw;subst hl;exact ⟨(),trivial,jA Z (.cons (.row (.cons (.fz (.of_isF 9 _ Z)) (.cons (.fz (.of_isF 9 _ Z)) .nil))) .nil) (aa (.fz (hN.fzm Z Z Z (by simp) LD.isF)) az)⟩
      ·replace h:=AC q3 h;refine T.seq ?_;refine T.region ?_;refine oN (LA.ieq Z Z) ?_;refine oN (LA.asg (Bo (v2.2==(4:Int))) Z) ?_;refine TO.nil ?_;refine T.cond Z (fun q4=>?_) (fun q4=>?_)
       ·replace h:=AB q4 h;refine T.cut (e0:=ah [(5,eL (cL LD.c) p)]) (H0:=[some ⟨ver0,2,103,[[eL cY v2.1.b,I v2.1.p]]⟩]) (jA Z (.cons (.row (.cons (.fz (.of_isF 9 _ Z)) (.cons (.fz (.of_isF 9 _ Z)) .nil))) .nil) (aa (.fz (hN.fzm Z Z Z Z LD.isF)) az)) ?_;refine T.region ?_;refine oN (LA.mv (eL (cL LD.c) p) Z) ?_;refine oN (LA.slL jC Z (.yes Z) .no ⟨by omega,by omega,by omega⟩ (fun _=>Z)) ?_;refine oN (LA.asg (eL (cL LD.c) ((p.drop 1).take (p.length-1))) Z) ?_;refine TO.nil ?_;obtain rfl:=osl h;exact ⟨(),trivial,zw Z (Ly Z Lx)⟩
       ·replace h:=AC q4 h;refine T.skip ?_;obtain rfl:=osl h;exact ⟨(),trivial,jA Z (.cons (.row (.cons (.fz (.of_isF 9 _ Z)) (.cons (.fz (.of_isF 9 _ Z)) .nil))) .nil) (aa (.fz (hN.fzm Z Z Z Z LD.isF)) az)⟩
def mM (ops:Array Oper) (e:Env) (o:Oper) (w:Bool):Prop:=match o.guard with
 | none=>w=true
 | some (j,b)=>(∃ q,fK ops.toList e j = .v (.bool q)/\w=(q==b))\/(fK ops.toList e j = .tup []/\w=false)
theorem mM.wants {ops:Array Oper} {e:Env} {o:Oper} {w:Bool} (h:mM ops e o w):rY ops e o w:=by
 unfold mM at h
 cases hg:o.guard with
 | none=>
  rw [hg] at h;subst h;exact .free hg
 | some x=>
  obtain ⟨j,b⟩:=x;rw [hg] at h;rcases h with ⟨q,h1,h2⟩ | ⟨h1,h2⟩
  ·subst h2
   by_cases e1:q=b
   ·subst e1;rw [beq_self_eq_true];exact .yes hg h1 rfl
   ·have e2:(q==b)=false:=by simpa using e1
    rw [e2];exact .no hg h1 (by cases q <;> cases b <;> simp_all)
  ·subst h2;exact .un hg h1
theorem mM.congr {ops:Array Oper} {e e':Env} {o:Oper} {w:Bool} (h:mM ops e o w) (he:∀ t∈o.looksAt ops,e t=e' t):mM ops e' o w:=by
 unfold mM at h ⊢
 cases hg:o.guard with
 | none=>rw [hg] at h;exact h
 | some x=>
  obtain ⟨j,b⟩:=x;rw [hg] at h;have hy:fK ops.toList e' j=fK ops.toList e j:=by
   unfold fK
   cases hd:(ops.toList[j]?).bind (·.dst) with
   | none=>rfl
   | some d=>
    refine (he d ?_).symm;unfold Oper.looksAt;rw [hg];refine List.mem_append_right _ ?_;have : (ops[j]?).bind (·.dst)=some d:=by simpa using hd
    show d∈((ops[j]?).bind (·.dst)).toList;rw [this];simp
  simp only [hy];exact h
theorem F4 {ops:Array Oper} {e e':Env} {o:Oper} (he:∀ t∈o.looksAt ops,e t=e' t):∀ x∈o.op.operands,rho e x=rho e' x:=by
 intro x hx
 cases x with
 | tmp t=>exact he t (List.mem_append_left _ (List.mem_filterMap.2 ⟨.tmp t,by simpa using hx,rfl⟩))
 | _=>rfl
theorem Ad {ops:Array Oper} {e:Env} {oi oj:Oper} {r:AV} (h:∀ d,oi.dst=some d->d∉oj.looksAt ops):∀ t∈oj.looksAt ops,jH e oi.dst r t=e t:=by
 intro t ht
 cases hd:oi.dst with
 | none=>rfl
 | some d=>
  rw [qG];show (if t=d then r else e t)=e t;have hne:t≠d:=by
   rintro rfl;exact h t hd ht
  rw [if_neg hne]
def Kl (P:Program) (ops:Array Oper) (o:Oper) (e:Env) (H:AH) (r:AV) (H':AH):Prop:=(mM ops e o true/\Lv P o (rho e) H r H')\/(mM ops e o false/\r = .tup []/\H'=H)
theorem Kl.congr {P:Program} {ops:Array Oper} {o:Oper} {e e':Env} {H H':AH} {r:AV} (h:Kl P ops o e H r H') (he:∀ t∈o.looksAt ops,e t=e' t):Kl P ops o e' H r H':=by
 rcases h with ⟨h1,h2⟩ | ⟨h1,h2⟩
 ·exact .inl ⟨h1.congr he,h2.congr (F4 he)⟩
 ·exact .inr ⟨h1.congr he,h2⟩
def nY (P:Program) (ops:Array Oper) (o:Oper) (e:Env) (H:AH) (r:AV) (H':AH) (F:List Nat):Prop:=
 H'.length=H.length/\(∀ b,b∉F->H'[b]? = H[b]?)/\∀ G,agree F G H->∃ G',G'.length=G.length/\(∀ b∈F,G'[b]? = H'[b]?)/\(∀ b,b∉F->G'[b]? = G[b]?)/\Kl P ops o e G r G'
section
variable {P:Program} {ops:Array Oper} {o:Oper} {e:Env} {H H':AH} {r:AV} {F:List Nat}
theorem nY.op (h:nY P ops o e H r H' F):Kl P ops o e H r H':=by
 obtain ⟨h1,h2,h3⟩:=h;obtain ⟨G',g1,g2,g3,g4⟩:=h3 H ⟨rfl,fun _ _=>rfl⟩;have : G'=H':=by
  apply List.ext_getElem?;intro b
  by_cases hb:b∈F
  ·exact g2 b hb
  ·rw [g3 b hb,h2 b hb]
 exact this ▸ g4
theorem nY.congr {e':Env} (h:nY P ops o e H r H' F) (he:∀ t∈o.looksAt ops,e t=e' t):nY P ops o e' H r H' F:=by
 obtain ⟨h1,h2,h3⟩:=h;refine ⟨h1,h2,fun G hG=>?_⟩;obtain ⟨G',g1,g2,g3,g4⟩:=h3 G hG;exact ⟨G',g1,g2,g3,g4.congr he⟩
theorem nY.at_ {G:AH} (h:nY P ops o e H r H' F) (hG:agree F G H):∃ G',G'.length=G.length/\(∀ b∈F,G'[b]? = H'[b]?)/\(∀ b,b∉F->G'[b]? = G[b]?)/\nY P ops o e G r G' F:=by
 obtain ⟨h1,h2,h3⟩:=h;obtain ⟨G',g1,g2,g3,g4⟩:=h3 G hG;refine ⟨G',g1,g2,g3,g1,g3,fun K hK=>?_⟩;obtain ⟨K',k1,k2,k3,k4⟩:=h3 K ⟨hK.1.trans hG.1,fun b hb=>(hK.2 b hb).trans (hG.2 b hb)⟩;exact ⟨K',k1,fun b hb=>(k2 b hb).trans (g2 b hb).symm,k3,k4⟩
theorem nY.ofF (hw:mM ops e o true) (h:lw P o (rho e) H r H' F):nY P ops o e H r H' F:=by
 obtain ⟨h1,h2,h3⟩:=h;refine ⟨h1,h2,fun G hG=>?_⟩;obtain ⟨G',g1,g2,g3,g4⟩:=h3 G hG;exact ⟨G',g1,g2,g3,.inl ⟨hw,g4⟩⟩
theorem nY.skip (hw:mM ops e o false) (F:List Nat):nY P ops o e H (.tup []) H F:=⟨rfl,fun _ _=>rfl,fun G hG=>⟨G,rfl,hG.2,fun _ _=>rfl,.inr ⟨hw,rfl,rfl⟩⟩⟩
def JC (P:Program) (ops:Array Oper) (fp:Nat->Fp) (Q:Env->AH->Prop):Nat->Array Bool->Env->AH->Prop
 | 0,listed,e,H=>Region.ready .any ops listed=[]/\Q e H
 | fuel+1,listed,e,H=>(Region.ready .any ops listed=[]->Q e H) /\
  ∀ i∈Region.ready .any ops listed,∃ o r H',ops[i]? = some o/\nY P ops o e H r H' (fp i).1/\((fp i).2=false->H'=H)/\JC P ops fp Q fuel (listed.setIfInBounds i true) (jH e o.dst r) H'
theorem Dz {ops:Array Oper} {fp:Nat->Fp} {Q:Env->AH->Prop} {i:Nat} {oi:Oper} {r:AV} (hi:ops[i]? = some oi) :
  ∀ (fuel:Nat) (listed:Array Bool) (e:Env) (H Hi:AH),
   (∀ (j:Nat) (oj:Oper),ops[j]? = some oj->j≠i->listed.getD j true=false->(∀ ed∈oj.after,Region.binds .any ed=true->ed.on≠i)->oi.apart ops oj=true/\kv (fp i) (fp j)=true) ->
   i∈Region.ready .any ops listed->nY P ops oi e H r Hi (fp i).1->((fp i).2=false->Hi=H)->JC P ops fp Q fuel (listed.setIfInBounds i true) (jH e oi.dst r) Hi->JC P ops fp Q (fuel+1) listed e H:=by
 intro fuel
 induction fuel with
 | zero=>
  intro listed e H Hi _ hr hy hro hA;refine ⟨fun h=>(by rw [h] at hr;cases hr),fun j hj=>?_⟩
  by_cases hji:j=i
  ·subst hji;exact ⟨oi,r,Hi,hi,hy,hro,hA⟩
  ·have := ready_mono hj hji;rw [hA.1] at this
   cases this
 | succ fuel ih=>
  intro listed e H Hi hfree hr hy hro hA;refine ⟨fun h=>(by rw [h] at hr;cases hr),fun j hj=>?_⟩
  by_cases hji:j=i
  ·subst hji;exact ⟨oi,r,Hi,hi,hy,hro,hA⟩
  ·obtain ⟨oj,q,Hj,hoj,hsj,hroj,hAj⟩:=hA.2 j (ready_mono hj hji);obtain ⟨hjun,oj',hoj',hall⟩:=mem_ready.1 hj;rw [hoj] at hoj';injection hoj' with hoj';subst hoj';have hnot:∀ ed∈oj.after,Region.binds .any ed=true->ed.on≠i:=fun ed he hb heq=>by
    have h1:=hall ed he hb;have h0:=(mem_ready.1 hr).1;rw [heq] at h1;rcases Nat.lt_or_ge i listed.size with h' | h'
    ·simp [h'] at h0 h1;rw [h0] at h1;cases h1
    ·simp [Array.getElem?_eq_none h'] at h1
   obtain ⟨hap,hcm⟩:=hfree j oj hoj hji hjun hnot;obtain ⟨h1,h2,h3⟩:=Oper.apart_spec hap;have ej:=Ad (e:=e) (r:=r) h1;have ei:=Ad (e:=e) (oi:=oj) (r:=q) h3;have hsj':=hsj.congr ej;have hfree':∀ (k:Nat) (ok:Oper),ops[k]? = some ok->k≠i->(listed.setIfInBounds j true).getD k true=false->(∀ ed∈ok.after,Region.binds .any ed=true->ed.on≠i)->oi.apart ops ok=true/\kv (fp i) (fp k)=true:=fun k ok hk hki hun hno=>by
    refine hfree k ok hk hki ?_ hno
    by_cases hjk:j=k
    ·subst hjk;exact hjun
    ·rw [getD_set_ne true hjk] at hun;exact hun
   have fin:∀ Hj',nY P ops oj e H q Hj' (fp j).1->((fp j).2=false->Hj'=H)->nY P ops oi e Hj' r Hj (fp i).1->((fp i).2=false->Hj=Hj')->∃ o r' H',ops[j]? = some o/\nY P ops o e H r' H' (fp j).1/\((fp j).2=false->H'=H)/\JC P ops fp Q (fuel+1) (listed.setIfInBounds j true) (jH e o.dst r') H':=fun Hj' s1 s1' s2 s2'=>by
    refine ⟨oj,q,Hj',hoj,s1,s1',ih (listed.setIfInBounds j true) (jH e oj.dst q) Hj' Hj hfree' (ready_mono hr (Ne.symm hji)) (s2.congr fun x hx=>(ei x hx).symm) s2' ?_⟩;rw [Array.setIfInBounds_comm _ _ hji,oq (fun d hd=>fun hd'=>h2 d (by simpa using hd') (by simpa using hd))];exact hAj
   simp only [kv,Bool.or_eq_true,bae,Bool.not_eq_true',List.all_eq_true,List.contains_eq_mem,decide_eq_false_iff_not] at hcm;rcases hcm with hdis | ⟨w1,w2⟩
   ·have hag:agree (fp j).1 H Hi:=⟨hy.1.symm,fun b hb=>(hy.2.1 b (fun hbi=>hdis b hbi hb)).symm⟩;obtain ⟨Hj',a1,a2,a3,a4⟩:=hsj'.at_ hag;have hag2:agree (fp i).1 Hj' H:=⟨a1,fun b hb=>a3 b (hdis b hb)⟩;obtain ⟨K,b1,b2,b3,b4⟩:=hy.at_ hag2;have hKH:K=Hj:=by
     apply List.ext_getElem?;intro b
     by_cases hbi:b∈(fp i).1
     ·rw [b2 b hbi,hsj'.2.1 b (hdis b hbi)]
     ·rw [b3 b hbi]
      by_cases hbj:b∈(fp j).1
      ·exact a2 b hbj
      ·rw [a3 b hbj,hsj'.2.1 b hbj,hy.2.1 b hbi]
    subst hKH;refine fin Hj' a4 (fun hw=>?_) b4 (fun hw=>?_)
    ·apply List.ext_getElem?;intro b
     by_cases hbj:b∈(fp j).1
     ·rw [a2 b hbj,hroj hw,hy.2.1 b (fun hbi=>hdis b hbi hbj)]
     ·exact a3 b hbj
    ·apply List.ext_getElem?;intro b
     by_cases hbi:b∈(fp i).1
     ·rw [b2 b hbi,hro hw,a3 b (hdis b hbi)]
     ·exact b3 b hbi
   ·obtain rfl:=hro w1;obtain rfl:=hroj w2;exact fin _ hsj' (fun _=>rfl) hy (fun _=>rfl)
def KE (ops:Array Oper) (fp:Nat->Fp):Bool:=
 Region.lexB .any ops &&
 (List.range ops.size).all fun i=>(List.range ops.size).all fun j=>decide (j<=i)||kv (fp i) (fp j)||match ops[j]? with
  | some oj=>oj.after.any fun ed=>Region.binds .any ed&&ed.on==i
  | none=>true
def TG (P:Program) (ops:Array Oper) (fp:Nat->Fp):Nat->List Oper->(Env->AH->Prop)->Env->AH->Prop
 | _,[],K,e,H=>K e H
 | k,o::rest,K,e,H=>∃ r H',nY P ops o e H r H' (fp k).1/\((fp k).2=false->H'=H)/\TG P ops fp (k+1) rest K (jH e o.dst r) H'
theorem F5 {ops:Array Oper} {fp:Nat->Fp} {Q:Env->AH->Prop} (hc:KE ops fp=true):∀ (l:List Oper) (k:Nat) (listed:Array Bool) (e:Env) (H:AH),(∀ j,l[j]? = ops[k+j]?)->listed.size=ops.size->(∀ j,j<k->listed.getD j true=true) ->
  Region.lexFrom .any ops l.length k listed=true->TG P ops fp k l Q e H->JC P ops fp Q l.length listed e H
 | [],k,listed,e,H,_,_,_,hB,h=>⟨by simpa [Region.lexFrom] using hB,h⟩
 | o::l,k,listed,e,H,hl,hsz,hbef,hB,h=>by
  have h0:ops[k]? = some o:=by simpa using (hl 0).symm
  have hk:k<ops.size:=(Array.getElem?_eq_some_iff.1 h0).1;simp only [List.length_cons,Region.lexFrom,bae] at hB;obtain ⟨⟨hr,hf⟩,hB'⟩:=hB;obtain ⟨r,H',hs,hro,hK⟩:=h;refine Dz h0 l.length listed e H H' (fun j oj hj hne hun hno=>⟨Region.free_spec h0 hf j oj hj hne hun hno,?_⟩) (by simpa using hr) hs hro
   (F5 hc l (k+1) _ _ _ (fun j=>by have := hl (j+1);simpa [Nat.add_assoc,Nat.add_comm 1 j] using this) (by simpa using hsz) (fun j hj=>?_) hB' hK)
  ·have hjs:j<ops.size:=(Array.getElem?_eq_some_iff.1 hj).1;have hkj : ¬ j<=k:=fun hle=>by
    have := hbef j (by omega);rw [this] at hun
    cases hun
   simp only [KE,bae,List.all_eq_true,List.mem_range] at hc;have := hc.2 k hk j hjs;simp only [hj,Bool.or_eq_true,decide_eq_true_eq,hkj,false_or] at this;rcases this with h1 | h1
   ·exact h1
   ·rw [Array.any_eq_true'] at h1;obtain ⟨ed,h2,h3⟩:=h1;simp only [bae,beq_iff_eq] at h3;exact absurd h3.2 (hno ed h2 h3.1)
  ·by_cases e:j=k
   ·subst e;simp [hsz,hk]
   ·rw [getD_set_ne true (Ne.symm e)];exact hbef j (by omega)
theorem sZ {nt:Nat} {ops:Array Oper} {fp:Nat->Fp} {Q:Exit->Env->AH->Prop} (hd:Ap nt ops.toList=true):∀ (fuel:Nat) (listed:Array Bool) (e:Env) (H:AH),JC P ops fp (Q .normal) fuel listed e H ->
  ∀ (c c0:Cx) (a:Act),c.H=H->Ext c0 c->SRel c nt e a->wpAny P .any ops (Jv nt c0 Q) fuel listed a c.w
 | 0,listed,e,H,h,c,c0,a,hH,hx,hs=>⟨h.1,trivial,c,e,rfl,hx,hs,hH ▸ h.2⟩
 | fuel+1,listed,e,H,h,c,c0,a,hH,hx,hs=>by
  refine ⟨fun hr=>⟨trivial,c,e,rfl,hx,hs,hH ▸ h.1 hr⟩,fun i hi=>?_⟩;obtain ⟨o,r,H',ho,hst,_,hA⟩:=h.2 i hi;have hm:o∈ops.toList:=by rw [Array.mem_toList_iff];exact Array.mem_of_getElem? ho
  unfold wpOp;simp only [ho];rcases hst.op with ⟨hw,hop⟩ | ⟨hw,rfl,rfl⟩
  ·rw [if_pos (hw.wants nt c a hs)];refine .inl (hop c a _ _ hH hs.heap (fun x _=>hs.rho x) fun v c' hH' hr' hx' hv=>?_);exact sZ hd fuel _ _ H' hA c' c0 _ hH' (hx.trans hx') (hs.put o.dst (iR hd hm) hx' hr' hv)
  ·rw [hw.wants nt c a hs];exact sZ hd fuel _ _ _ hA c c0 _ hH hx (hs.put o.dst (iR hd hm) (Ext.refl c) hs.heap (.tup (vs:=#[]) rfl (fun i q u hq=>by simp at hq)))
end
section
variable {P:Program} {nt b0:Nat} {Q:Exit->Env->AH->Prop} {e:Env} {H H':AH} {r:AV}
theorem T.drawG {i:Nat} {ops:Array Oper} (fp:Nat->Fp) (hm:P.follows .mixedOrders=true) (hc:KE ops fp=true) (h:TG P ops fp 0 ops.toList (Q .normal) e H):T P nt b0 (.region i ops true) Q e H:=by
 intro hok c c0 a hH hb hx hs;simp only [codeOk] at hok;have hc':=hc;simp only [KE,bae,Region.lexB] at hc';refine wp_region_any hm ?_;have hlex:=F5 hc ops.toList 0 (Array.replicate ops.size false) e H (fun j=>by simp) (by simp) (fun j hj=>absurd hj (by omega)) (by simpa using hc'.1.2) h;have := sZ hok ops.toList.length _ e H hlex c.drew c0 a hH (hx.trans c.drew_ext) ⟨hs.size,hs.defers,fun t=>(hs.rel t).ext hs.heap c.drew_ext,Cx.drew_rel hs.heap⟩;rw [Array.length_toList] at this;exact this
variable {ops:Array Oper} {d:Tmp} {op:Op} {ty:TypeId} {pos:String} {af:Array Edge} {en:List (Nat×AV)} {fp:Nat->Fp} {i:Nat} {K:Env->AH->Prop} {l:List Oper}
theorem TG.nil {k:Nat} (h:K e H):TG P ops fp k [] K e H:=h
theorem mM.y {o:Oper} {j:Nat} {b q:Bool} (hg:o.guard=some (j,b)) (hy:fK ops.toList e j = .v (.bool q)) (hq:q=b):mM ops e o true:=by
 unfold mM;rw [hg];exact .inl ⟨q,hy,by rw [hq];simp⟩
theorem mM.n {o:Oper} {j:Nat} {b q:Bool} (hg:o.guard=some (j,b)) (hy:fK ops.toList e j = .v (.bool q)) (hq:q = !b):mM ops e o false:=by
 unfold mM;rw [hg];exact .inl ⟨q,hy,by rw [hq];cases b <;> rfl⟩
theorem mM.u {o:Oper} {j:Nat} {b:Bool} (hg:o.guard=some (j,b)) (hy:fK ops.toList e j = .tup []):mM ops e o false:=by
 unfold mM;rw [hg];exact .inr ⟨hy,rfl⟩
theorem tN (hc:fp i=([],false)) (hv:LA P (rho (ah en)) op r) (h:TG P ops fp (i+1) l K (ah ((d,r)::en)) H):TG P ops fp i (⟨some d,op,ty,pos,af,none⟩::l) K (ah en) H:=
 ⟨r,H,by rw [hc];exact .ofF rfl (AL hv),fun _=>rfl,h⟩
theorem tR (F:List Nat) (hc:fp i=(F,false)) (hv:∀ G,agree F G H->EvA P (rho (ah en)) op G r G) (h:TG P ops fp (i+1) l K (ah ((d,r)::en)) H):TG P ops fp i (⟨some d,op,ty,pos,af,none⟩::l) K (ah en) H:=
 ⟨r,H,by rw [hc];exact .ofF rfl (AO hv),fun _=>rfl,h⟩
theorem LU {j:Nat} {b q:Bool} (hy:fK ops.toList (ah en) j = .v (.bool q)) (hq:q=b) (hc:fp i=([],false)) (hv:LA P (rho (ah en)) op r) (h:TG P ops fp (i+1) l K (ah ((d,r)::en)) H):TG P ops fp i (⟨some d,op,ty,pos,af,some (j,b)⟩::l) K (ah en) H:=
 ⟨r,H,by rw [hc];exact .ofF (.y rfl hy hq) (AL hv),fun _=>rfl,h⟩
theorem tgR {j:Nat} {b q:Bool} (hy:fK ops.toList (ah en) j = .v (.bool q)) (hq:q=b) (F:List Nat) (hc:fp i=(F,false)) (hv:∀ G,agree F G H->EvA P (rho (ah en)) op G r G) (h:TG P ops fp (i+1) l K (ah ((d,r)::en)) H):TG P ops fp i (⟨some d,op,ty,pos,af,some (j,b)⟩::l) K (ah en) H:=
 ⟨r,H,by rw [hc];exact .ofF (.y rfl hy hq) (AO hv),fun _=>rfl,h⟩
theorem LV {j:Nat} {b q:Bool} (hy:fK ops.toList (ah en) j = .v (.bool q)) (hq:q = !b) (h:TG P ops fp (i+1) l K (ah ((d,.tup [])::en)) H):TG P ops fp i (⟨some d,op,ty,pos,af,some (j,b)⟩::l) K (ah en) H:=
 ⟨.tup [],H,.skip (.n rfl hy hq) _,fun _=>rfl,h⟩
theorem tgU {j:Nat} {b:Bool} (hy:fK ops.toList (ah en) j = .tup []) (h:TG P ops fp (i+1) l K (ah ((d,.tup [])::en)) H):TG P ops fp i (⟨some d,op,ty,pos,af,some (j,b)⟩::l) K (ah en) H:=
 ⟨.tup [],H,.skip (.u rfl hy) _,fun _=>rfl,h⟩
end
end
end Go.Proofs.YtlmjnhnpahicmaaGreat
