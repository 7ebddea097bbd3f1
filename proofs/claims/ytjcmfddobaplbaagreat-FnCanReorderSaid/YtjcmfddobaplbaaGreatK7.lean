/- Texts joined. No conditions. -/
import Derived.BigRegion
import Derived.Outline
import Derived.Deep.RegionLaw
import Derived.WalkSpells
import Derived.Lib.SliceRun
import Derived.Lib.AppendZeros
import Derived.Deep.Upon
import Derived.Test.YtjcmfddobaplbaaGreatK6
namespace Go.Proofs.YtjcmfddobaplbaaGreat
noncomputable section
open _root_.Option renaming bind -> LF, getD_some -> LM, bind_eq_some_iff -> Mc
open _root_.Nat renaming le_refl -> LG, zero_le -> LP, le_trans -> LR
open _root_.List renaming range -> LH, getElem_map -> LK, all_eq_true -> LN, getElem_mem -> LO, map_id -> LQ, length_nil -> LX, mem_append -> LY, mem_singleton -> LZ, mem_cons -> L6, not_mem_nil -> L8, length_range -> L9, map_map -> Ma, getElem?_map -> Mb, length_replicate -> Md, eq_of_mem_replicate -> Me, mem_of_getElem? -> Mf, eq_nil_of_length_eq_zero -> Mg
open _root_.Int renaming le_refl -> LJ, eq_ofNat_of_zero_le -> LU
open _root_.Bool renaming not_false -> LV, and_true -> LW
open _root_.Function renaming comp_def -> Mh
open Go.RowKit
set_option maxRecDepth 100000
def eu:Option (List ByteArray):= some ([(⟨#[120,61,49,59,97,61,121,124,121,61,49,59,97,61,120]⟩:ByteArray),(⟨#[120,61,49,59,102,101,110,99,101,59,97,61,121,124,121,61,49,59,102,101,110,99,101,59,97,61,120]⟩:ByteArray),(⟨#[120,61,49,59,121,61,49,124,97,61,121,59,98,61,120]⟩:ByteArray),(⟨#[120,61,49,59,121,61,49,124,97,61,121,59,102,101,110,99,101,59,98,61,120]⟩:ByteArray),(⟨#[120,61,49,59,102,101,110,99,101,59,121,61,49,124,97,61,121,59,98,61,120]⟩:ByteArray),(⟨#[97,61,120,59,121,61,49,124,97,61,121,59,120,61,49]⟩:ByteArray),(⟨#[97,61,120,59,121,61,97,124,97,61,121,59,120,61,97]⟩:ByteArray),(⟨#[120,61,49,124,120,61,50,124,97,61,120,59,98,61,120]⟩:ByteArray),(⟨#[120,61,49,124,121,61,49,124,97,61,120,59,98,61,121,124,97,61,121,59,98,61,120]⟩:ByteArray),(⟨#[120,61,49,124,97,61,120,59,121,61,49,124,97,61,121,59,98,61,120]⟩:ByteArray),(⟨#[120,61,49,124,121,61,49,124,97,61,120,59,98,61,121]⟩:ByteArray),(⟨#[97,61,120,58,49,124,97,61,120,58,50,124,120,61,51]⟩:ByteArray),(⟨#[120,61,49,59,97,61,120,59,98,61,121,124,121,61,49,59,97,61,121,59,98,61,120]⟩:ByteArray),(⟨#[120,61,50,59,121,61,49,124,121,61,50,59,120,61,49]⟩:ByteArray),(⟨#[97,61,120,58,49,59,98,61,121,124,97,61,121,58,49,59,98,61,120]⟩:ByteArray),(⟨#[120,61,49,59,120,61,50,124,97,61,120,59,98,61,120]⟩:ByteArray),(⟨#[120,61,49,59,121,61,49,59,97,61,122,124,122,61,49,59,97,61,121,59,98,61,120]⟩:ByteArray),(⟨#[97,61,120,58,49,124,98,61,120,58,49]⟩:ByteArray),(⟨#[102,101,110,99,101]⟩:ByteArray),(⟨#[]⟩:ByteArray),(⟨#[120,61,49,59,97,61,121,124,121,61,49,59,102,101,110,99,101,59,97,61,120]⟩:ByteArray)]:List ByteArray)
def fT (s:ByteArray) (c:Int):LS ((List ByteArray)×Int×Int) (List ByteArray):=λs5=>bif decide (s5.2.1<=(s.size:Int)) then LF (LF (bif (s5.2.1==(s.size:Int)) then some true else gd (decide<|0<=s5.2.1/\s5.2.1<(s.size:Int)) <|some<|((s.data.getD s5.2.1.toNat 0).toNat:Int)==c) λs10=>bif s10 then gd (decide<|0<=s5.2.2/\s5.2.2<=s5.2.1/\s5.2.1<=(s.size:Int)) <|gd (eB (s5.1.length+1) 16) <|gd (GV .i64<|s5.2.1+(1:Int)) <|some ((s5.1++[(s.extract s5.2.2.toNat s5.2.1.toNat)]),(s5.2.1+(1:Int))) else some (s5.1,s5.2.2)) λs9=>gd (GV .i64<|s5.2.1+(1:Int)) <|some (.inl (s9.1,(s5.2.1+(1:Int)),s9.2)) else some (.inr s5.1)
def gL (s:ByteArray) (c:Int):Option (List ByteArray):= LF (bY (fT s c) (([]:List ByteArray),(0:Int),(0:Int))) λs1=>some s1
def bh (s:ByteArray) (at_:Int) (from_:Int) (most:Int):Option Int:= LF (bif decide ((s.size:Int)<=at_) then some true else gd (decide<|0<=at_/\at_<(s.size:Int)) <|some<|decide<|((s.data.getD at_.toNat 0).toNat:Int)<from_) λs1=>LF (bif s1 then some true else gd (decide<|0<=at_/\at_<(s.size:Int)) <|gd (GV .u8<|((s.data.getD at_.toNat 0).toNat:Int)-from_) <|gd (GV .i64<|((s.data.getD at_.toNat 0).toNat:Int)-from_) <|some<|decide<|most<(((s.data.getD at_.toNat 0).toNat:Int)-from_)) λs4=>bif s4 then some (-1:Int) else gd (decide<|0<=at_/\at_<(s.size:Int)) <|gd (GV .u8<|((s.data.getD at_.toNat 0).toNat:Int)-from_) <|gd (GV .i64<|((s.data.getD at_.toNat 0).toNat:Int)-from_) <|some<|((s.data.getD at_.toNat 0).toNat:Int)-from_
def iq (s:ByteArray):Option GY:= bif decide (s=(⟨#[102,101,110,99,101]⟩:ByteArray)) then some (⟨(4:Int),(0:Int),(0:Int),(0:Int)⟩:GY) else LF (bh s (0:Int) (97:Int) (2:Int)) λv2=>LF (bh s (0:Int) (120:Int) (2:Int)) λv3=>LF (bif decide ((0:Int)<=v2) then some ((s.size:Int)==(3:Int)) else some false) λs4=>bif s4 then LF (bh s (2:Int) (120:Int) (2:Int)) λv7=>some (⟨(1:Int),v7,v2,(0:Int)⟩:GY) else LF (bif decide ((0:Int)<=v2) then some ((s.size:Int)==(5:Int)) else some false) λs8=>bif s8 then LF (bh s (2:Int) (120:Int) (2:Int)) λv11=>LF (bh s (4:Int) (48:Int) (3:Int)) λv12=>some (⟨(5:Int),v11,v2,v12⟩:GY) else LF (bif decide ((0:Int)<=v3) then LF (bh s (2:Int) (97:Int) (2:Int)) λv15=>some (decide<|(0:Int)<=v15) else some false) λs13=>bif s13 then LF (bh s (2:Int) (97:Int) (2:Int)) λv17=>some (⟨(3:Int),v3,v17,(0:Int)⟩:GY) else LF (bh s (2:Int) (48:Int) (3:Int)) λv18=>some (⟨(2:Int),v3,(0:Int),v18⟩:GY)
def eM (from_:Int) (n:Int):Option ByteArray:= gd (GV .u8 n) <|gd (GV .u8<|from_+n) <|some<|strOfNums ([(from_+n)]:LI)
def kD:LS (ByteArray×Int) (ByteArray×Int):=λs9=>bif decide ((9:Int)<s9.2) then gd (decide<|(10:Int)≠0) <|gd (GV .i64<|(48:Int)+(s9.2.tmod (10:Int))) <|gd (GV .u8<|(48:Int)+(s9.2.tmod (10:Int))) <|gd (decide<|(strOfNums ([((48:Int)+(s9.2.tmod (10:Int)))]:LI)).size+s9.1.size<=9223372036854775807) <|gd (GV .i64<|s9.2.tdiv (10:Int)) <|some (.inl (((strOfNums ([((48:Int)+(s9.2.tmod (10:Int)))]:LI))++s9.1),(s9.2.tdiv (10:Int)))) else some (.inr (s9.1,s9.2))
def gM (rcf:Int->Option ByteArray) (n:Int):Option ByteArray:= bif decide (n<(-9223372036854775807:Int)) then some (⟨#[45,57,50,50,51,51,55,50,48,51,54,56,53,52,55,55,53,56,48,56]⟩:ByteArray) else bif decide (n<(0:Int)) then gd (GV .i64<|0-n) <|LF (rcf<|0-n) λv4=>gd (decide<|(⟨#[45]⟩:ByteArray).size+v4.size<=9223372036854775807) <|some ((⟨#[45]⟩:ByteArray)++v4) else LF (bY kD ((⟨#[]⟩:ByteArray),n)) λs6=>gd (GV .i64<|(48:Int)+s6.2) <|gd (GV .u8<|(48:Int)+s6.2) <|gd (decide<|(strOfNums ([((48:Int)+s6.2)]:LI)).size+s6.1.size<=9223372036854775807) <|some<|(strOfNums ([((48:Int)+s6.2)]:LI))++s6.1
def eO:Nat->Int->Option ByteArray
 | 0=>λ_=>none
 | n+1=>gM (eO n)
def iX (n:Int):Option ByteArray:=E5 λnf=>eO nf n
def iY (x:GY):Option ByteArray:= LF (eM (120:Int) x.Loc) λv1=>LF (eM (97:Int) x.Reg) λv2=>bif (x.Op==(1:Int)) then gd (decide<|v2.size+(⟨#[61]⟩:ByteArray).size<=9223372036854775807) <|gd (decide<|(v2++(⟨#[61]⟩:ByteArray)).size+v1.size<=9223372036854775807) <|some ((v2++(⟨#[61]⟩:ByteArray))++v1) else bif (x.Op==(2:Int)) then gd (decide<|v1.size+(⟨#[61]⟩:ByteArray).size<=9223372036854775807) <|LF (iX x.Val) λv8=>gd (decide<|(v1++(⟨#[61]⟩:ByteArray)).size+v8.size<=9223372036854775807) <|some ((v1++(⟨#[61]⟩:ByteArray))++v8) else bif (x.Op==(3:Int)) then gd (decide<|v1.size+(⟨#[61]⟩:ByteArray).size<=9223372036854775807) <|gd (decide<|(v1++(⟨#[61]⟩:ByteArray)).size+v2.size<=9223372036854775807) <|some ((v1++(⟨#[61]⟩:ByteArray))++v2) else bif (x.Op==(5:Int)) then gd (decide<|v2.size+(⟨#[61]⟩:ByteArray).size<=9223372036854775807) <|gd (decide<|(v2++(⟨#[61]⟩:ByteArray)).size+v1.size<=9223372036854775807) <|gd (decide<|((v2++(⟨#[61]⟩:ByteArray))++v1).size+(⟨#[58]⟩:ByteArray).size<=9223372036854775807) <|LF (iX x.Val) λv17=>gd (decide<|(((v2++(⟨#[61]⟩:ByteArray))++v1)++(⟨#[58]⟩:ByteArray)).size+v17.size<=9223372036854775807) <|some ((((v2++(⟨#[61]⟩:ByteArray))++v1)++(⟨#[58]⟩:ByteArray))++v17) else some (⟨#[102,101,110,99,101]⟩:ByteArray)
def fE (p:List<|List GY) (s4:Int×ByteArray):LS (Int×ByteArray) ByteArray:=λs13=>gd (decide<|0<=s4.1/\s4.1<(p.length:Int)) <|bif decide (s13.1<((p.getD s4.1.toNat default).length:Int)) then LF (bif decide ((0:Int)<s13.1) then gd (decide<|s13.2.size+(⟨#[59]⟩:ByteArray).size<=9223372036854775807) <|some (s13.2++(⟨#[59]⟩:ByteArray)) else some s13.2) λs17=>gd (decide<|0<=s13.1/\s13.1<((p.getD s4.1.toNat default).length:Int)) <|LF (iY<|(p.getD s4.1.toNat default).getD s13.1.toNat default) λv21=>gd (decide<|s17.size+v21.size<=9223372036854775807) <|gd (GV .i64<|s13.1+(1:Int)) <|some (.inl ((s13.1+(1:Int)),(s17++v21))) else some (.inr s13.2)
def gb (p:List<|List GY):LS (Int×ByteArray) ByteArray:=λs4=>bif decide (s4.1<(p.length:Int)) then LF (LF (bif decide ((0:Int)<s4.1) then gd (decide<|s4.2.size+(⟨#[124]⟩:ByteArray).size<=9223372036854775807) <|some (s4.2++(⟨#[124]⟩:ByteArray)) else some s4.2) λs8=>bY (fE p s4) ((0:Int),s8)) λs7=>gd (GV .i64<|s4.1+(1:Int)) <|some (.inl ((s4.1+(1:Int)),s7)) else some (.inr s4.2)
def fU (p:List<|List GY):Option ByteArray:= LF (bY (gb p) ((0:Int),(⟨#[]⟩:ByteArray))) λs1=>some s1
def cE (v1:(List ByteArray)) (s6:(List<|List GY)×Int) (v14:(List ByteArray)):LS ((List GY)×Int) (List GY):=λs19=>LF (bif decide (s19.2<(v14.length:Int)) then some (decide<|s19.2<=(7:Int)) else some false) λs22=>LF (bif s22 then some (!decide ((v1.getD s6.2.toNat default)=(⟨#[]⟩:ByteArray))) else some false) λs24=>bif s24 then gd (decide<|0<=s19.2/\s19.2<(v14.length:Int)) <|LF (iq<|v14.getD s19.2.toNat default) λv28=>gd (eB (s19.1.length+1) 32) <|gd (GV .i64<|s19.2+(1:Int)) <|some (.inl ((s19.1++[v28]),(s19.2+(1:Int)))) else some (.inr s19.1)
def cT (v1:(List ByteArray)):LS ((List<|List GY)×Int) (List<|List GY):=λs6=>LF (bif decide (s6.2<(v1.length:Int)) then some (decide<|s6.2<=(3:Int)) else some false) λs9=>bif s9 then LF (gd (decide<|0<=s6.2/\s6.2<(v1.length:Int)) <|LF (gL (v1.getD s6.2.toNat default) (59:Int)) λv14=>LF (bY (cE v1 s6 v14) (([]:List GY),(0:Int))) λs15=>gd (eB (s6.1.length+1) 24) <|some<|s6.1++[s15]) λs12=>gd (GV .i64<|s6.2+(1:Int)) <|some (.inl (s12,(s6.2+(1:Int)))) else some (.inr s6.1)
def aX (text:ByteArray):Option ((List<|List GY)×Bool):= LF (gL text (124:Int)) λv1=>LF (bY (cT v1) (([]:List<|List GY),(0:Int))) λs2=>LF (aV s2) λv36=>LF (bif !v36 then some true else LF (fU s2) λv39=>some<|!decide (v39=text)) λs37=>bif s37 then some (([]:List<|List GY),false) else some (s2,true)
def fO (r_:aa):Option (aa×GY):= LF (ax (⟨r_.b,r_.p⟩:aa) (2:Int)) λv1=>LF (ax (⟨v1.1.b,v1.1.p⟩:aa) (7:Int)) λv2=>bif (v2.2==(0:Int)) then some ((⟨v2.1.b,v2.1.p⟩:aa),(⟨(4:Int),(0:Int),(0:Int),(0:Int)⟩:GY)) else bif (v2.2==(1:Int)) then LF (ax (⟨v2.1.b,v2.1.p⟩:aa) (2:Int)) λv5=>some ((⟨v5.1.b,v5.1.p⟩:aa),(⟨(3:Int),v1.2,v5.2,(0:Int)⟩:GY)) else bif (v2.2==(2:Int)) then LF (ax (⟨v2.1.b,v2.1.p⟩:aa) (2:Int)) λv7=>LF (ax (⟨v7.1.b,v7.1.p⟩:aa) (3:Int)) λv8=>gd (GV .i64<|(1:Int)+v8.2) <|some ((⟨v8.1.b,v8.1.p⟩:aa),(⟨(5:Int),v1.2,v7.2,((1:Int)+v8.2)⟩:GY)) else LF (bif (v2.2==(3:Int)) then some (v2.2==(3:Int)) else some (v2.2==(4:Int))) λs10=>bif s10 then LF (ax (⟨v2.1.b,v2.1.p⟩:aa) (3:Int)) λv13=>gd (GV .i64<|(1:Int)+v13.2) <|some ((⟨v13.1.b,v13.1.p⟩:aa),(⟨(2:Int),v1.2,(0:Int),((1:Int)+v13.2)⟩:GY)) else LF (ax (⟨v2.1.b,v2.1.p⟩:aa) (2:Int)) λv15=>some ((⟨v15.1.b,v15.1.p⟩:aa),(⟨(1:Int),v1.2,v15.2,(0:Int)⟩:GY))
def fg:LS ((LI)×Int×(List GY)×Int) ((LI)×Int×(List GY)):=λs24=>bif decide ((0:Int)<s24.2.2.2) then LF (fO (⟨s24.1,s24.2.1⟩:aa)) λv28=>gd (eB (s24.2.2.1.length+1) 32) <|gd (GV .i64<|s24.2.2.2-(1:Int)) <|some (.inl (v28.1.b,v28.1.p,(s24.2.2.1++[v28.2]),(s24.2.2.2-(1:Int)))) else some (.inr (s24.1,s24.2.1,s24.2.2.1))
def fo:LS ((LI)×Int×(List<|List GY)×Int) ((LI)×Int×(List<|List GY)):=λs14=>bif decide ((0:Int)<s14.2.2.2) then LF (LF (LF (aR (⟨s14.1,s14.2.1⟩:aa) ([(2:Int),(1:Int),(3:Int),(2:Int),(0:Int)]:LI)) λv20=>bY fg (v20.1.b,v20.1.p,([]:List GY),v20.2)) λs19=>gd (eB (s14.2.2.1.length+1) 24) <|some (s19.1,s19.2.1,(s14.2.2.1++[s19.2.2]))) λs18=>gd (GV .i64<|s14.2.2.2-(1:Int)) <|some (.inl (s18.1,s18.2.1,s18.2.2,(s14.2.2.2-(1:Int)))) else some (.inr (s14.1,s14.2.1,s14.2.2.1))
def iZ (r_:aa):Option (aa×(List<|List GY)):= LF (eu) λv1=>sumK (LF (ax (⟨r_.b,r_.p⟩:aa) (3:Int)) λv3=>bif decide ((0:Int)<v3.2) then LF (ax (⟨v3.1.b,v3.1.p⟩:aa) (v1.length:Int)) λv5=>gd (decide<|0<=v5.2/\v5.2<(v1.length:Int)) <|LF (aX<|v1.getD v5.2.toNat default) λv7=>bif v7.2 then some (.inr ((⟨v5.1.b,v5.1.p⟩:aa),v7.1)) else some (.inl (v5.1.b,v5.1.p)) else some (.inl (v3.1.b,v3.1.p))) λs2=>LF (LF (aR (⟨s2.1,s2.2⟩:aa) ([(2:Int),(3:Int),(1:Int)]:LI)) λv10=>bY fo (v10.1.b,v10.1.p,([]:List<|List GY),v10.2)) λs9=>LF (aV s9.2.2) λv36=>bif v36 then some ((⟨s9.1,s9.2.1⟩:aa),s9.2.2) else LF (fO (⟨s9.1,s9.2.1⟩:aa)) λv38=>some ((⟨v38.1.b,v38.1.p⟩:aa),([([v38.2]:List GY)]:List<|List GY))
def gP (x:GY):Option Bool:= LF (bif (x.Op==(2:Int)) then some true else some (x.Op==(3:Int))) λs1=>LF (bif s1 then some true else some (x.Op==(5:Int))) λs3=>some s3
def bU (x:GY):Option Bool:= LF (bif (x.Op==(1:Int)) then some true else some (x.Op==(5:Int))) λs1=>some s1
def jX (p:List<|List GY) (loc:Int) (writes:Bool) (s4:Int×Int):LS (Int×Int) Int:=λs10=>gd (decide<|0<=s4.1/\s4.1<(p.length:Int)) <|bif decide (s10.1<((p.getD s4.1.toNat default).length:Int)) then LF (gd (decide<|0<=s10.1/\s10.1<((p.getD s4.1.toNat default).length:Int)) <|LF (bif ((((p.getD s4.1.toNat default).getD s10.1.toNat default).Loc)==loc) then LF (bif writes then LF (gP (⟨((p.getD s4.1.toNat default).getD s10.1.toNat default).Op,((p.getD s4.1.toNat default).getD s10.1.toNat default).Loc,((p.getD s4.1.toNat default).getD s10.1.toNat default).Reg,((p.getD s4.1.toNat default).getD s10.1.toNat default).Val⟩:GY)) λv20=>some v20 else some false) λs18=>LF (bif s18 then some true else LF (bif !writes then LF (bU (⟨((p.getD s4.1.toNat default).getD s10.1.toNat default).Op,((p.getD s4.1.toNat default).getD s10.1.toNat default).Loc,((p.getD s4.1.toNat default).getD s10.1.toNat default).Reg,((p.getD s4.1.toNat default).getD s10.1.toNat default).Val⟩:GY)) λv25=>some v25 else some false) λs23=>some s23) λs21=>some s21 else some false) λs16=>bif s16 then gd (GV .i64<|s10.2+(1:Int)) <|some (s10.2+(1:Int)) else some s10.2) λs14=>gd (GV .i64<|s10.1+(1:Int)) <|some (.inl ((s10.1+(1:Int)),s14)) else some (.inr s10.2)
def kE (p:List<|List GY) (loc:Int) (writes:Bool):LS (Int×Int) Int:=λs4=>bif decide (s4.1<(p.length:Int)) then LF (bY (jX p loc writes s4) ((0:Int),s4.2)) λs7=>gd (GV .i64<|s4.1+(1:Int)) <|some (.inl ((s4.1+(1:Int)),s7)) else some (.inr s4.2)
def fP (p:List<|List GY) (loc:Int) (writes:Bool):Option Int:= LF (bY (kE p loc writes) ((0:Int),(0:Int))) λs1=>some s1
def jY (p:List<|List GY) (most:Int) (s4:Int×Int) (v8:Int):LS (Int×Int) Int:=λs12=>LF (fP p s4.1 false) λv14=>LF (bif decide (s12.1<v14) then some (decide<|s12.2<=most) else some false) λs15=>bif s15 then gd (GV .i64<|v8+(1:Int)) <|gd (GV .i64<|s12.2*(v8+(1:Int))) <|gd (GV .i64<|s12.1+(1:Int)) <|some (.inl ((s12.1+(1:Int)),(s12.2*(v8+(1:Int))))) else some (.inr s12.2)
def jZ (most:Int) (v8:Int):LS (Int×Int) Int:=λs23=>LF (bif decide (s23.1<=v8) then some (decide<|s23.2<=most) else some false) λs25=>bif s25 then gd (GV .i64<|s23.2*s23.1) <|gd (GV .i64<|s23.1+(1:Int)) <|some (.inl ((s23.1+(1:Int)),(s23.2*s23.1))) else some (.inr s23.2)
def kF (p:List<|List GY) (most:Int):LS (Int×Int) Int:=λs4=>bif decide (s4.1<=(2:Int)) then LF (LF (fP p s4.1 true) λv8=>LF (bY (jY p most s4 v8) ((0:Int),s4.2)) λs9=>bY (jZ most v8) ((2:Int),s9)) λs7=>gd (GV .i64<|s4.1+(1:Int)) <|some (.inl ((s4.1+(1:Int)),s7)) else some (.inr s4.2)
def iw (p:List<|List GY) (most:Int):Option Int:= LF (bY (kF p most) ((0:Int),(1:Int))) λs1=>bif decide (most<s1) then gd (GV .i64<|most+(1:Int)) <|some (most+(1:Int)) else some s1
def iy (r_:aa):Option (aa×(List<|List GY)):= LF (iZ (⟨r_.b,r_.p⟩:aa)) λv1=>LF (iw v1.2 (200:Int)) λv2=>bif decide (v2<=(200:Int)) then some ((⟨v1.1.b,v1.1.p⟩:aa),v1.2) else LF (aX (⟨#[120,61,49,59,97,61,121,124,121,61,49,59,97,61,120]⟩:ByteArray)) λv4=>some ((⟨v1.1.b,v1.1.p⟩:aa),v4.1)
def Le {α:Type} (a b:Option α):Prop:=∀ q,a=some q->b=some q
theorem Le.refl {α:Type} (a:Option α):Le a a:=λ_ h=>h
theorem Le.bind {α β:Type} {a b:Option α} {k l:α->Option β} (h:Le a b) (hk:∀ x,Le (k x)<|l x):Le (a.bind k) (b.bind l):=λq hq=>by
 obtain ⟨x,h1,h2⟩:=Mc.1 hq;exact Mc.2 ⟨x,h x h1,hk x q h2⟩
theorem Le.gd {α:Type} {a b:Option α} (c:Bool) (h:Le a b):Le (gd c a) (gd c b):=λq hq=>by
 obtain ⟨h1,h2⟩:=gdL hq;rw [iL h1];exact h q h2
theorem Le.bif {α:Type} {a b a' b':Option α} (c:Bool) (h:Le a a') (h':Le b b'):Le (bif c then a else b) (bif c then a' else b'):=by
 cases c
 ·exact h'
 exact h
theorem Le.ifc {α:Type} {a b a' b':Option α} (c:Prop) [Decidable c] (h:Le a a') (h':Le b b'):Le (if c then a else b) (if c then a' else b'):=by
 split
 ·exact h
 exact h'
theorem Le.sumK {S W:Type} {a b:Option (S ⊕ W)} {k l:S->Option W} (h:Le a b) (hk:∀ x,Le (k x)<|l x):Le (sumK a k) (sumK b l):=λq hq=>by
 cases a with
 | none=>cases hq
 | some z=>
  rw [h z rfl]
  cases z with
  | inl s=>exact hk s q hq
  | inr w=>exact hq
def rW {S E:Type} (n:Nat) (step:S->Option (S ⊕ E)) (s:S):Option E:=
 Nat.rec (motive:=λ_=>S->Option E) (λ_=>none) (λ_ ih s=>match step s with
  | none=>none
  | some (.inl s')=>ih s'
  | some (.inr e)=>some e) n s
theorem Le.loop {S E:Type} {n:Nat} {step step':S->Option (S ⊕ E)} (h:∀ s,Le (step s)<|step' s) (s:S):Le (rW n step s) (bY step' s):=by
 induction n generalizing s with
 | zero=>intro q hq;cases hq
 | succ n ih=>
  intro q hq;rw [qG]
  change (match step s with
   | none=>none
   | some (.inl s')=>rW n step s'
   | some (.inr e)=>some e)=some q at hq
  match hs:step s with
  | none=>rw [hs] at hq;cases hq
  | some (.inl s')=>
   rw [hs] at hq;rw [h s _ hs];exact ih s' q hq
  | some (.inr e)=>
   rw [hs] at hq;rw [h s _ hs];exact hq
def F9 {α:Type} (e:Bool) (_ b:Option α):Option α:=bif e then none else b
theorem Le.nilK {α:Type} {e:Bool} {a b a' b':Option α} (_:Le a a') (h:Le b b'):Le (F9 e a b) (nilK e a' b'):=λq hq=>by
 cases e with
 | true=>cases hq
 | false=>
  unfold Go.Proofs.YtjcmfddobaplbaaGreat.nilK;exact h q hq
def i9 (n:Int):Option ByteArray:=bif decide (0<=n/\n<=9) then some (strOfNums ([((48:Int)+n)]:LI)++(⟨#[]⟩:ByteArray)) else none
theorem strOfNums_size (l:LI):(strOfNums l).size=l.length:=by
 simp [strOfNums,ByteArray.size]
theorem qo (n:Int):Le (i9 n) (iX n):=by
 intro v h;unfold i9 at h
 by_cases hn:0<=n/\n<=9
 ·rw [decide_eq_true hn] at h;obtain rfl:=osl h;refine D5 1 λk hk=>?_
  match k,hk with
  | k+1,_=>
   show gM (eO k) n=_;refine G7.eq ?_;unfold gM;refine .bifD (λh=>by omega) λ_ => .bifD (λh=>by omega) λ_=>?_;refine G7.bind (P:=(· = ((⟨#[]⟩:ByteArray),n))) ?_ λs hs=>?_
   ·refine G7.loop (λs=>s=((⟨#[]⟩:ByteArray),n)) (λ_=>0) rfl λs hs=>?_;subst hs;unfold kD;exact .bifD (λh=>by simp only [] at h;omega) λ_ => .pure rfl
   subst hs;refine .gdI (by simp only [];omega) (.gdY (by simp only [];omega)<|.gdD ?_<|.pure rfl);rw [strOfNums_size];exact nlb rfl
 rw [decide_eq_false hn] at h
 cases h
def iM (s:ByteArray) (c:Int):((List ByteArray)×Int×Int)->Option (((List ByteArray)×Int×Int) ⊕ (List ByteArray)):=λs5=>
 bif decide (s5.2.1<=(s.size:Int)) then
  LF (
   LF (bif (s5.2.1==(s.size:Int)) then
    some true
   else
    gd (decide<|0<=s5.2.1/\s5.2.1<(s.size:Int)) <|
    some (((s.data.getD s5.2.1.toNat 0).toNat:Int)==c)
   ) λs10=>
   bif s10 then
    gd (decide<|0<=s5.2.2/\s5.2.2<=s5.2.1/\s5.2.1<=(s.size:Int)) <|
    gd (eB (s5.1.length+1) 16) <|
    gd (GV .i64<|s5.2.1+(1:Int)) <|
    some ((s5.1++[(s.extract s5.2.2.toNat s5.2.1.toNat)]),(s5.2.1+(1:Int)))
   else
    some (s5.1,s5.2.2)
  ) λs9=>
  gd (GV .i64<|s5.2.1+(1:Int)) <|
  some (.inl (s9.1,(s5.2.1+(1:Int)),s9.2))
 else
  some (.inr s5.1)
theorem nE (s:ByteArray) (c:Int) (sQ:_):Le (iM s c sQ) (fT s c sQ):=by
 unfold iM fT
 solve_by_elim (maxDepth:=9999) only [*,Le.gd,Le.bif,Le.bind,Le.sumK,Le.loop,Le.nilK,Le.ifc,Le.refl]
def ja (s:ByteArray) (c:Int):Option (List ByteArray):=
 LF (
  rW 40 (iM s c) (([]:List ByteArray),(0:Int),(0:Int))
 ) λs1=>
 some s1
theorem ll (s:ByteArray) (c:Int):Le (ja s c) (gL s c):=by
 unfold ja gL
 solve_by_elim (maxDepth:=9999) only [*,nE,Le.gd,Le.bif,Le.bind,Le.sumK,Le.loop,Le.nilK,Le.ifc,Le.refl]
def bz (s:ByteArray) (at_:Int) (from_:Int) (most:Int):Option Int:=
 LF (bif decide ((s.size:Int)<=at_) then
  some true
 else
  gd (decide<|0<=at_/\at_<(s.size:Int)) <|
  some (decide<|((s.data.getD at_.toNat 0).toNat:Int)<from_)
 ) λs1=>
 LF (bif s1 then
  some true
 else
  gd (decide<|0<=at_/\at_<(s.size:Int)) <|
  gd (GV .u8<|((s.data.getD at_.toNat 0).toNat:Int)-from_) <|
  gd (GV .i64<|((s.data.getD at_.toNat 0).toNat:Int)-from_) <|
  some (decide<|most<(((s.data.getD at_.toNat 0).toNat:Int)-from_))
 ) λs4=>
 bif s4 then
  some (-1:Int)
 else
  gd (decide<|0<=at_/\at_<(s.size:Int)) <|
  gd (GV .u8<|((s.data.getD at_.toNat 0).toNat:Int)-from_) <|
  gd (GV .i64<|((s.data.getD at_.toNat 0).toNat:Int)-from_) <|
  some (((s.data.getD at_.toNat 0).toNat:Int)-from_)
theorem pV (s:ByteArray) (at_:Int) (from_:Int) (most:Int):Le (bz s at_ from_ most) (bh s at_ from_ most):=by
 unfold bz bh
 solve_by_elim (maxDepth:=9999) only [*,Le.gd,Le.bif,Le.bind,Le.sumK,Le.loop,Le.nilK,Le.ifc,Le.refl]
def j6 (s:ByteArray):Option GY:=
 bif decide (s=(⟨#[102,101,110,99,101]⟩:ByteArray)) then
  some (⟨(4:Int),(0:Int),(0:Int),(0:Int)⟩:GY)
 else
  LF (bz s (0:Int) (97:Int) (2:Int)) λv2=>
  LF (bz s (0:Int) (120:Int) (2:Int)) λv3=>
  LF (bif decide ((0:Int)<=v2) then
   some ((s.size:Int)==(3:Int))
  else
   some false
  ) λs4=>
  bif s4 then
   LF (bz s (2:Int) (120:Int) (2:Int)) λv7=>
   some (⟨(1:Int),v7,v2,(0:Int)⟩:GY)
  else
   LF (bif decide ((0:Int)<=v2) then
    some ((s.size:Int)==(5:Int))
   else
    some false
   ) λs8=>
   bif s8 then
    LF (bz s (2:Int) (120:Int) (2:Int)) λv11=>
    LF (bz s (4:Int) (48:Int) (3:Int)) λv12=>
    some (⟨(5:Int),v11,v2,v12⟩:GY)
   else
    LF (bif decide ((0:Int)<=v3) then
     LF (bz s (2:Int) (97:Int) (2:Int)) λv15=>
     some (decide<|(0:Int)<=v15)
    else
     some false
    ) λs13=>
    bif s13 then
     LF (bz s (2:Int) (97:Int) (2:Int)) λv17=>
     some (⟨(3:Int),v3,v17,(0:Int)⟩:GY)
    else
     LF (bz s (2:Int) (48:Int) (3:Int)) λv18=>
     some (⟨(2:Int),v3,(0:Int),v18⟩:GY)
theorem pW (s:ByteArray):Le (j6 s) (iq s):=by
 unfold j6 iq
 solve_by_elim (maxDepth:=9999) only [*,pV,Le.gd,Le.bif,Le.bind,Le.sumK,Le.loop,Le.nilK,Le.ifc,Le.refl]
def dU (v1:(List ByteArray)) (s6:(List<|List GY)×Int) (v14:(List ByteArray)):((List GY)×Int)->Option (((List GY)×Int) ⊕ (List GY)):=λs19=>
 LF (bif decide (s19.2<(v14.length:Int)) then
  some (decide<|s19.2<=(7:Int))
 else
  some false
 ) λs22=>
 LF (bif s22 then
  some (!decide ((v1.getD s6.2.toNat default)=(⟨#[]⟩:ByteArray)))
 else
  some false
 ) λs24=>
 bif s24 then
  gd (decide<|0<=s19.2/\s19.2<(v14.length:Int)) <|
  LF (j6<|v14.getD s19.2.toNat default) λv28=>
  gd (eB (s19.1.length+1) 32) <|
  gd (GV .i64<|s19.2+(1:Int)) <|
  some (.inl ((s19.1++[v28]),(s19.2+(1:Int))))
 else
  some (.inr s19.1)
theorem jw (v1:(List ByteArray)) (s6:(List<|List GY)×Int) (v14:(List ByteArray)) (sQ:_):Le (dU v1 s6 v14 sQ) (cE v1 s6 v14 sQ):=by
 unfold dU cE
 solve_by_elim (maxDepth:=9999) only [*,pW,Le.gd,Le.bif,Le.bind,Le.sumK,Le.loop,Le.nilK,Le.ifc,Le.refl]
def eF (v1:(List ByteArray)):((List<|List GY)×Int)->Option (((List<|List GY)×Int) ⊕ (List<|List GY)):=λs6=>
 LF (bif decide (s6.2<(v1.length:Int)) then
  some (decide<|s6.2<=(3:Int))
 else
  some false
 ) λs9=>
 bif s9 then
  LF (
   gd (decide<|0<=s6.2/\s6.2<(v1.length:Int)) <|
   LF (ja (v1.getD s6.2.toNat default) (59:Int)) λv14=>
   LF (
    rW 40 (dU v1 s6 v14) (([]:List GY),(0:Int))
   ) λs15=>
   gd (eB (s6.1.length+1) 24) <|
   some (s6.1++[s15])
  ) λs12=>
  gd (GV .i64<|s6.2+(1:Int)) <|
  some (.inl (s12,(s6.2+(1:Int))))
 else
  some (.inr s6.1)
theorem kg (v1:(List ByteArray)) (sQ:_):Le (eF v1 sQ) (cT v1 sQ):=by
 unfold eF cT
 solve_by_elim (maxDepth:=9999) only [*,ll,jw,Le.gd,Le.bif,Le.bind,Le.sumK,Le.loop,Le.nilK,Le.ifc,Le.refl]
def gQ (from_:Int) (n:Int):Option ByteArray:=
 gd (GV .u8 n) <|
 gd (GV .u8<|from_+n) <|
 some (strOfNums ([(from_+n)]:LI))
theorem oO (from_:Int) (n:Int):Le (gQ from_ n) (eM from_ n):=by
 unfold gQ eM
 solve_by_elim (maxDepth:=9999) only [*,Le.gd,Le.bif,Le.bind,Le.sumK,Le.loop,Le.nilK,Le.ifc,Le.refl]
def kU (x:GY):Option ByteArray:=
 LF (gQ (120:Int) x.Loc) λv1=>
 LF (gQ (97:Int) x.Reg) λv2=>
 bif (x.Op==(1:Int)) then
  gd (decide<|v2.size+(⟨#[61]⟩:ByteArray).size<=9223372036854775807) <|
  gd (decide<|(v2++(⟨#[61]⟩:ByteArray)).size+v1.size<=9223372036854775807) <|
  some ((v2++(⟨#[61]⟩:ByteArray))++v1)
 else
  bif (x.Op==(2:Int)) then
   gd (decide<|v1.size+(⟨#[61]⟩:ByteArray).size<=9223372036854775807) <|
   LF (i9 x.Val) λv8=>
   gd (decide<|(v1++(⟨#[61]⟩:ByteArray)).size+v8.size<=9223372036854775807) <|
   some ((v1++(⟨#[61]⟩:ByteArray))++v8)
  else
   bif (x.Op==(3:Int)) then
    gd (decide<|v1.size+(⟨#[61]⟩:ByteArray).size<=9223372036854775807) <|
    gd (decide<|(v1++(⟨#[61]⟩:ByteArray)).size+v2.size<=9223372036854775807) <|
    some ((v1++(⟨#[61]⟩:ByteArray))++v2)
   else
    bif (x.Op==(5:Int)) then
     gd (decide<|v2.size+(⟨#[61]⟩:ByteArray).size<=9223372036854775807) <|
     gd (decide<|(v2++(⟨#[61]⟩:ByteArray)).size+v1.size<=9223372036854775807) <|
     gd (decide<|((v2++(⟨#[61]⟩:ByteArray))++v1).size+(⟨#[58]⟩:ByteArray).size<=9223372036854775807) <|
     LF (i9 x.Val) λv17=>
     gd (decide<|(((v2++(⟨#[61]⟩:ByteArray))++v1)++(⟨#[58]⟩:ByteArray)).size+v17.size<=9223372036854775807) <|
     some ((((v2++(⟨#[61]⟩:ByteArray))++v1)++(⟨#[58]⟩:ByteArray))++v17)
    else
     some (⟨#[102,101,110,99,101]⟩:ByteArray)
theorem qp (x:GY):Le (kU x) (iY x):=by
 unfold kU iY
 solve_by_elim (maxDepth:=9999) only [*,oO,qo,Le.gd,Le.bif,Le.bind,Le.sumK,Le.loop,Le.nilK,Le.ifc,Le.refl]
def fG (p:List<|List GY) (s4:Int×ByteArray):(Int×ByteArray)->Option ((Int×ByteArray) ⊕ ByteArray):=λs13=>
 gd (decide<|0<=s4.1/\s4.1<(p.length:Int)) <|
 bif decide (s13.1<((p.getD s4.1.toNat default).length:Int)) then
  LF (
   bif decide ((0:Int)<s13.1) then
    gd (decide<|s13.2.size+(⟨#[59]⟩:ByteArray).size<=9223372036854775807) <|
    some (s13.2++(⟨#[59]⟩:ByteArray))
   else
    some s13.2
  ) λs17=>
  gd (decide<|0<=s13.1/\s13.1<((p.getD s4.1.toNat default).length:Int)) <|
  LF (kU<|(p.getD s4.1.toNat default).getD s13.1.toNat default) λv21=>
  gd (decide<|s17.size+v21.size<=9223372036854775807) <|
  gd (GV .i64<|s13.1+(1:Int)) <|
  some (.inl ((s13.1+(1:Int)),(s17++v21)))
 else
  some (.inr s13.2)
theorem kV (p:List<|List GY) (s4:Int×ByteArray) (sQ:_):Le (fG p s4 sQ) (fE p s4 sQ):=by
 unfold fG fE
 solve_by_elim (maxDepth:=9999) only [*,qp,Le.gd,Le.bif,Le.bind,Le.sumK,Le.loop,Le.nilK,Le.ifc,Le.refl]
def gm (p:List<|List GY):(Int×ByteArray)->Option ((Int×ByteArray) ⊕ ByteArray):=λs4=>
 bif decide (s4.1<(p.length:Int)) then
  LF (
   LF (
    bif decide ((0:Int)<s4.1) then
     gd (decide<|s4.2.size+(⟨#[124]⟩:ByteArray).size<=9223372036854775807) <|
     some (s4.2++(⟨#[124]⟩:ByteArray))
    else
     some s4.2
   ) λs8=>
   rW 40 (fG p s4) ((0:Int),s8)
  ) λs7=>
  gd (GV .i64<|s4.1+(1:Int)) <|
  some (.inl ((s4.1+(1:Int)),s7))
 else
  some (.inr s4.2)
theorem lG (p:List<|List GY) (sQ:_):Le (gm p sQ) (gb p sQ):=by
 unfold gm gb
 solve_by_elim (maxDepth:=9999) only [*,kV,Le.gd,Le.bif,Le.bind,Le.sumK,Le.loop,Le.nilK,Le.ifc,Le.refl]
def iN (p:List<|List GY):Option ByteArray:=
 LF (
  rW 40 (gm p) ((0:Int),(⟨#[]⟩:ByteArray))
 ) λs1=>
 some s1
theorem nG (p:List<|List GY):Le (iN p) (fU p):=by
 unfold iN fU
 solve_by_elim (maxDepth:=9999) only [*,lG,Le.gd,Le.bif,Le.bind,Le.sumK,Le.loop,Le.nilK,Le.ifc,Le.refl]
def dV (text:ByteArray):Option ((List<|List GY)×Bool):=
 LF (ja text (124:Int)) λv1=>
 LF (
  rW 40 (eF v1) (([]:List<|List GY),(0:Int))
 ) λs2=>
 LF (aV s2) λv36=>
 LF (bif !v36 then
  some true
 else
  LF (iN s2) λv39=>
  some (!decide (v39=text))
 ) λs37=>
 bif s37 then
  some (([]:List<|List GY),false)
 else
  some (s2,true)
theorem lH (text:ByteArray):Le (dV text) (aX text):=by
 unfold dV aX
 solve_by_elim (maxDepth:=9999) only [*,ll,kg,nG,Le.gd,Le.bif,Le.bind,Le.sumK,Le.loop,Le.nilK,Le.ifc,Le.refl]
def smI (x:GY):Bool:=decide<|(-1<=x.Op/\x.Op<=6)/\(-1<=x.Loc/\x.Loc<=3)/\(-1<=x.Reg/\x.Reg<=3)/\(-1<=x.Val/\x.Val<=4)
def smP (p:List<|List GY):Bool:=decide (p.length<=4)&&p.all λr=>decide (r.length<=8)&&r.all smI
def qL (t:ByteArray):Bool:=match dV t with
 | some v=>smP v.1
 | none=>false
theorem zx:∀ l,eu=some l->l.all qL=true:=by
 intro l h;obtain rfl:=osl h
 decide +kernel
theorem ul {t:ByteArray} (h:qL t=true):G7 (aX t) λv=>smP v.1=true:=by
 unfold qL at h
 cases hc:dV t with
 | none=>rw [hc] at h;cases h
 | some v=>
  rw [hc] at h;exact ⟨v,lH t v hc,h⟩
theorem C0:∀ l,eu=some l->∀ t∈l,G7 (aX t) λv=>smP v.1=true:=
 λl h t ht=>ul (LN.1 (zx l h) t ht)
def zy (p:List<|List GY):Bool:=decide (p.length<=1048576)&&p.all λr=>decide<|r.length<=1048576
def Cg (p:List<|List GY) (i:Nat) (x:List GY):List (List GY):=p.set i<|p.getD i []++x
def eP (r_:aa) (p:List<|List GY):Option (aa×List (List GY)):= gd (zy p) <|bif Nat.beq p.length 0 then some (r_,p) else LF (ax r_ (p.length:Int)) λv1=>LF (ax v1.1 (40:Int)) λv2=>gd (decide<|0<=v1.2/\v1.2<(p.length:Int)) <|bif v2.2==(0:Int) then LF (aR v2.1 ([(0:Int),(6:Int),(1:Int),(4:Int)]:LI)) λa=>LF (aR a.1 ([(0:Int),(3:Int),(-1:Int)]:LI)) λb=>some (b.1,Cg p v1.2.toNat [⟨a.2,b.2,0,0⟩]) else bif v2.2==(1:Int) then LF (aR v2.1 ([(4:Int),(-1:Int),(3:Int)]:LI)) λa=>some (a.1,Cg p v1.2.toNat [⟨2,0,0,a.2⟩]) else bif v2.2==(2:Int) then some (v2.1,p++List.replicate (4-p.length) []) else bif v2.2==(3:Int) then some (v2.1,Cg p v1.2.toNat<|List.replicate (8-(p.getD v1.2.toNat []).length) ⟨1,0,0,0⟩) else bif v2.2==(4:Int) then some (v2.1,(p.drop 1).take<|p.length-1) else some (v2.1,p)
theorem nH {p:List (List GY)}:smP p=true↔p.length<=4/\∀ r∈p,r.length<=8/\∀ x∈r,smI x=true:=by
 simp only [smP,bae,dte,LN]
theorem C8 {p:List (List GY)} (h:smP p=true):zy p=true:=by
 rw [nH] at h;simp only [zy,bae,dte,LN];exact ⟨by omega,λr hr=>by have := (h.2 r hr).1;omega⟩
theorem qM {α:Type} {m:Nat}:∀ {p:List (List α)},(∀ r∈p,r.length<=m)->total p<=p.length*m
 | [],_=>by simp [total]
 | r::p,h=>by
  have h1:=qM (p:=p) λx hx=>h x<|List.mem_cons_of_mem _ hx;have h2:=h r<|List.mem_cons_self;simp only [total,List.map_cons,List.sum_cons,llc,Nat.add_mul,Nat.one_mul] at h1 ⊢;omega
theorem FB {p:List (List GY)} (h:smP p=true):p.length<=1048576/\total p<=1048576:=by
 rw [nH] at h;have h1:=qM (m:=8) λr hr=>(h.2 r hr).1;have h2:p.length*8<=32:=by omega
 exact ⟨by omega,by omega⟩
theorem rX {k:Int} {r:aa} (h:Rd k r) (hk:k<=10000000):G7 (fO r) λv=>Rd (k+4) v.1/\smI v.2=true:=by
 unfold fO;refine (fS h.mk' (by omega) 2).bind λv1 ⟨a1,a2,a3⟩=>(fS a1.mk' (by omega) 7).bind λv2 ⟨b1,b2,b3⟩ => ?_;refine .bif (λ_ => .pure ⟨b1.mono (by omega),by simp only [smI];exact decide_eq_true<|by omega⟩) λ_=>?_;refine .bif (λ_=>(fS b1.mk' (by omega) 2).bind λv3 ⟨c1,c2,c3⟩ => .pure ⟨c1.mono (by omega),decide_eq_true<|by simp only [];omega⟩) λ_=>?_;refine .bif (λ_=>(fS b1.mk' (by omega) 2).bind λv3 ⟨c1,c2,c3⟩=>(fS c1.mk' (by omega) 3).bind λv4 ⟨d1,d2,d3⟩ => .gdI (by omega)<|.pure ⟨d1.mono (by omega),decide_eq_true<|by simp only [];omega⟩) λ_=>?_;refine G7.bind (P:=λ_=>True) (.bif (λ_ => .pure trivial) λ_ => .pure trivial) λs _=>?_;refine .bif (λ_=>(fS b1.mk' (by omega) 3).bind λv3 ⟨c1,c2,c3⟩ => .gdI (by omega)<|.pure ⟨c1.mono (by omega),decide_eq_true<|by simp only [];omega⟩) λ_=>?_;exact (fS b1.mk' (by omega) 2).bind λv3 ⟨c1,c2,c3⟩ => .pure ⟨c1.mono (by omega),decide_eq_true<|by simp only [];omega⟩
theorem zz {k:Int} {b:LI} {p n:Int} (h:Rd k ⟨b,p⟩) (hk:k<=1000000) (hn:0<=n/\n<=3):G7 (bY fg (b,p,([]:List GY),n)) λv=>Rd (k+12) ⟨v.1,v.2.1⟩/\v.2.2.length<=3/\∀ x∈v.2.2,smI x=true:=by
 refine G7.loop (λs=>Rd (k+4*(3-s.2.2.2)) ⟨s.1,s.2.1⟩/\(0<=s.2.2.2/\s.2.2.2+(s.2.2.1.length:Int)<=3)/\∀ x∈s.2.2.1,smI x=true) (λs=>s.2.2.2.toNat) ⟨h.mono (by simp only [];omega),by simp;omega,by simp⟩ λs ⟨h1,h2,h3⟩ => ?_;unfold fg;refine .bifD (λh0=>?_) λh0 => .pure ⟨h1.mono (by omega),by simp only [];omega,h3⟩;refine (rX h1<|by omega).bind λv ⟨a1,a2⟩ => .gdC (by omega) rfl<|.gdI (by omega)<|.pure ⟨⟨a1.mk'.mono (by simp only [];omega),by simp only [lla,llc,LX];omega,λx hx=>?_⟩,by simp only [];omega⟩;rcases LY.1 hx with hx | hx
 ·exact h3 x hx
 rw [LZ.1 hx];exact a2
theorem xq {k:Int} {b:LI} {p n:Int} (h:Rd k ⟨b,p⟩) (hk:k<=100000) (hn:0<=n/\n<=3):G7 (bY fo (b,p,([]:List<|List GY),n)) λv=>Rd (k+39) ⟨v.1,v.2.1⟩/\smP v.2.2=true:=by
 refine G7.loop (λs=>Rd (k+13*(3-s.2.2.2)) ⟨s.1,s.2.1⟩/\(0<=s.2.2.2/\s.2.2.2+(s.2.2.1.length:Int)<=3)/\∀ r∈s.2.2.1,r.length<=8/\∀ x∈r,smI x=true) (λs=>s.2.2.2.toNat) ⟨h.mono (by simp only [];omega),by simp;omega,by simp⟩ λs ⟨h1,h2,h3⟩ => ?_;unfold fo;refine .bifD (λh0=>?_) λh0 => .pure ⟨h1.mono (by omega),nH.2 ⟨by simp only [];omega,h3⟩⟩;refine G7.bind (P:=λv=>Rd (k+13*(3-s.2.2.2)+13) ⟨v.1,v.2.1⟩/\∃ t:List GY,v.2.2=s.2.2.1++[t]/\t.length<=8/\∀ x∈t,smI x=true) ?_ λv ⟨a1,t,a2,a3,a4⟩ => ?_
 ·refine G7.bind (P:=λv=>Rd (k+13*(3-s.2.2.2)+13) ⟨v.1,v.2.1⟩/\v.2.2.length<=3/\∀ x∈v.2.2,smI x=true) ?_ λv ⟨a1,a2,a3⟩ => .gdC (by omega) rfl<|.pure ⟨a1,v.2.2,rfl,by omega,a3⟩;refine (nD h1 (by omega) _<|by simp).bind λv ⟨b1,b2⟩=>(zz (n:=v.2) b1.mk' (by omega)<|by simp only [L6,L8,or_false] at b2;omega).mono λu ⟨c1,c2,c3⟩=>⟨c1.mono (by omega),c2,c3⟩
 refine .gdI (by omega)<|.pure ⟨⟨a1.mono (by simp only [];omega),by simp only [a2,lla,llc,LX];omega,λr hr=>?_⟩,by simp only [];omega⟩;simp only [a2] at hr;rcases LY.1 hr with hr | hr
 ·exact h3 r hr
 rw [LZ.1 hr];exact ⟨a3,a4⟩
theorem zA {k:Int} {r:aa} (h:Rd k r) (hk:k<=10000) (hp:∀ l,eu=some l->∀ t∈l,G7 (aX t) λv=>smP v.1=true):G7 (iZ r) λv=>Rd (k+46) v.1/\smP v.2=true:=by
 unfold iZ;have e1:∃ l,eu=some l/\0<l.length/\l.length<=100:=⟨_,rfl,by decide,by decide⟩;obtain ⟨l,e1,e2,e3⟩:=e1;have hp':=hp l e1;refine (G7.of (P:=λv=>v=l) e1 rfl).bind λv1 hv=>?_;subst hv;refine G7.sum (PS:=λs=>Rd (k+2) ⟨s.1,s.2⟩) (PW:=λv:aa×List (List GY)=>Rd (k+46) v.1/\smP v.2=true) ?_ λs hs=>?_
 ·refine (fS h.mk' (by omega) 3).bind λv3 ⟨a1,a2,a3⟩ => .bif (λ_=>?_) λ_ => .pure<|a1.mk'.mono (by omega);refine (fS a1.mk' (by omega) _).bind λv5 ⟨b1,b2,b3⟩ => .gdD ⟨b2,by omega⟩ ?_;have hlt:v5.2.toNat<v1.length:=by omega
  refine G7.bind (hp' (v1.getD v5.2.toNat default)<|by rw [gdq,geq hlt];exact LO _) λv7 h7=>?_;exact .bif (λ_ => .pure ⟨b1.mk'.mono (by omega),h7⟩) λ_ => .pure<|b1.mk'.mono (by omega)
 refine G7.bind (P:=λv=>Rd (k+42) ⟨v.1,v.2.1⟩/\smP v.2.2=true) ?_ λv ⟨a1,a2⟩ => ?_
 ·exact (nD hs (by omega) _<|by simp).bind λv ⟨b1,b2⟩=>(xq (n:=v.2) b1.mk' (by omega)<|by simp only [L6,L8,or_false] at b2;omega).mono λu ⟨c1,c2⟩=>⟨c1.mono (by omega),c2⟩
 have hv:G7 (aV v.2.2) λ_=>True := .gdD (FB a2)<|.pure trivial;refine hv.bind λb _ => .bif (λ_ => .pure ⟨a1.mono (by omega),a2⟩) λ_=>?_;exact (rX a1<|by omega).bind λu ⟨c1,c2⟩ => .pure ⟨c1.mk'.mono (by omega),nH.2 ⟨by simp,by simp [c2]⟩⟩
theorem Et {p:List (List GY)} (h:smP p=true) {i:Nat} (hi:i<p.length) {l:List GY} (hl:(p.getD i []).length+l.length<=9) (hx:∀ x∈l,smI x=true):(Cg p i l).length<=4/\∀ r∈Cg p i l,r.length<=9/\∀ x∈r,smI x=true:=by
 rw [nH] at h;unfold Cg;refine ⟨by rw [List.length_set];exact h.1,λr hr=>?_⟩;rcases List.mem_or_eq_of_mem_set hr with hr | rfl
 ·exact ⟨by have := (h.2 r hr).1;omega,(h.2 r hr).2⟩
 have hg:p.getD i []=p[i]:=by simp [hi]
 refine ⟨by rw [lla];omega,λx hxx=>?_⟩;rcases LY.1 hxx with hxx | hxx
 ·rw [hg] at hxx;exact (h.2 _<|LO hi).2 x hxx
 exact hx x hxx
def Sm (p:List<|List GY):Prop:=p.length<=9/\∀ r∈p,r.length<=9/\∀ x∈r,smI x=true
theorem yJ {p:List (List GY)} (h:smP p=true):Sm p:=by
 rw [nH] at h;exact ⟨by omega,λr hr=>⟨by have := (h.2 r hr).1;omega,(h.2 r hr).2⟩⟩
theorem Sm.sz {p:List (List GY)} (h:Sm p):p.length<=1048576/\total p<=1048576:=by
 have h1:=qM (m:=9) λr hr=>(h.2 r hr).1;have h2:p.length*9<=81:=by have := h.1;omega
 exact ⟨by have := h.1;omega,by omega⟩
theorem wm {k:Int} {r:aa} (h:Rd k r) (hk:k<=100000) {p:List (List GY)} (hp:smP p=true):G7 (eP r p) λv=>Rd (k+4) v.1/\Sm v.2:=by
 unfold eP;have hp0:=nH.1 hp;have hg:∀ i,(p.getD i []).length<=8:=λi=>by
  by_cases hi:i<p.length
  ·have : p.getD i []=p[i]:=by simp [hi]
   rw [this];exact (hp0.2 _<|LO hi).1
  simp [List.getD,gen (Nat.le_of_not_lt hi)]
 refine .gd (C8 hp)<|.bif (λ_ => .pure ⟨h.mono (by omega),yJ hp⟩) λh0=>?_;have hpos:0<p.length:=by
  cases hc:p.length with
  | zero=>rw [hc] at h0;cases h0
  | succ n=>omega
 refine (fS h (by omega) _).bind λv1 ⟨a1,a2,a3⟩=>(fS a1 (by omega) _).bind λv2 ⟨b1,b2,b3⟩ => .gdD ⟨a2,by omega⟩ ?_;have hi:v1.2.toNat<p.length:=by omega
 have put:∀ {l:List GY},(p.getD v1.2.toNat []).length+l.length<=9->(∀ x∈l,smI x=true)->Sm (Cg p v1.2.toNat l):=λ{l} hl hx=>by
  obtain ⟨g1,g2⟩:=Et hp hi hl hx;exact ⟨by omega,g2⟩
 refine .bif (λ_=>(nD b1 (by omega) _<|by simp).bind λa ⟨c1,c2⟩=>(nD c1 (by omega) _<|by simp).bind λb ⟨d1,d2⟩ => .pure ⟨d1.mono (by omega),put (by have := hg v1.2.toNat;simp only [llc,LX];omega) λx hx=>?_⟩) λ_=>?_
 ·rw [LZ.1 hx];simp only [L6,L8,or_false] at c2 d2;exact decide_eq_true (by simp only [];omega)
 refine .bif (λ_=>(nD b1 (by omega) _<|by simp).bind λa ⟨c1,c2⟩ => .pure ⟨c1.mono (by omega),put (by have := hg v1.2.toNat;simp only [llc,LX];omega) λx hx=>?_⟩) λ_=>?_
 ·rw [LZ.1 hx];simp only [L6,L8,or_false] at c2;exact decide_eq_true (by simp only [];omega)
 refine .bif (λ_ => .pure ⟨b1.mono (by omega),by simp only [lla,Md];omega,λr hr=>?_⟩) λ_=>?_
 ·rcases LY.1 hr with hr | hr
  ·exact ⟨by have := (hp0.2 r hr).1;omega,(hp0.2 r hr).2⟩
  rw [Me hr];exact ⟨by simp,by simp⟩
 refine .bif (λ_ => .pure ⟨b1.mono (by omega),put (by have := hg v1.2.toNat;rw [Md];omega) λx hx=>?_⟩) λ_=>?_
 ·rw [Me hx]
  rfl
 refine .bif (λ_ => .pure ⟨b1.mono (by omega),?_⟩) λ_ => .pure ⟨b1.mono (by omega),yJ hp⟩;exact ⟨by simp only [List.length_take,List.length_drop];omega,λr hr=>(yJ hp).2 r<|List.mem_of_mem_drop<|List.mem_of_mem_take hr⟩
theorem wu (x:GY):G7 (gP x) λ_=>True:=by
 unfold gP;exact G7.bind (P:=λ_=>True) (.bif (λ_ => .pure trivial) λ_ => .pure trivial) λ_ _=>G7.bind (P:=λ_=>True) (.bif (λ_ => .pure trivial) λ_ => .pure trivial) λ_ _ => .pure trivial
theorem xu (x:GY):G7 (bU x) λ_=>True:=by
 unfold bU;exact G7.bind (P:=λ_=>True) (.bif (λ_ => .pure trivial) λ_ => .pure trivial) λ_ _ => .pure trivial
theorem Sm.row {p:List (List GY)} (h:Sm p) (i:Nat):(p.getD i default).length<=9:=by
 by_cases hi:i<p.length
 ·have : p.getD i default=p[i]:=by simp [hi]
  rw [this];exact (h.2 _<|LO hi).1
 rw [gdq,gen (Nat.le_of_not_lt hi)];exact LP _
theorem rY {p:List (List GY)} (hp:Sm p) (loc:Int) (wr:Bool):G7 (fP p loc wr) λv=>0<=v/\v<=81:=by
 unfold fP;have hpl:=hp.1;refine G7.bind (P:=λv:Int=>0<=v/\v<=81) ?_ λv hv => .pure hv;refine G7.loop (λs=>0<=s.1/\s.1<=(p.length:Int)/\0<=s.2/\s.2<=9*s.1) (λs=>((p.length:Int)-s.1).toNat) ⟨LJ _,by simp only [];omega,LJ _,LJ _⟩ λs ⟨h1,h2,h3,h4⟩ => ?_;unfold kE;refine .bifD (λh0=>?_) λh0 => .pure ⟨h3,by omega⟩;have hrow:=hp.row s.1.toNat;refine G7.bind (P:=λv:Int=>0<=v/\v<=9*s.1+9) ?_ λv ⟨g1,g2⟩ => .gdI (by omega)<|.pure ⟨⟨by simp only [];omega,by simp only [];omega,g1,by simp only [];omega⟩,by simp only [];omega⟩;refine G7.loop (λt=>0<=t.1/\t.1<=((p.getD s.1.toNat default).length:Int)/\0<=t.2/\t.2<=9*s.1+t.1) (λt=>(((p.getD s.1.toNat default).length:Int)-t.1).toNat) ⟨LJ _,by simp only [];omega,h3,by simp only [];omega⟩ λt ⟨k1,k2,k3,k4⟩ => ?_;unfold jX;refine .gdD ⟨h1,h0⟩<|.bifD (λhk=>?_) λhk => .pure ⟨k3,by omega⟩;refine G7.bind (P:=λv:Int=>0<=v/\v<=t.2+1) ?_ λv ⟨g1,g2⟩ => .gdI (by omega)<|.pure ⟨⟨by simp only [];omega,by simp only [];omega,g1,by simp only [];omega⟩,by simp only [];omega⟩;refine .gdD ⟨k1,hk⟩<|G7.bind (P:=λ_=>True) ?_ λb _ => .bif (λ_ => .gdI (by omega)<|.pure ⟨by omega,by omega⟩) λ_ => .pure ⟨k3,by omega⟩;refine .bif (λ_=>?_) λ_ => .pure trivial;refine G7.bind (P:=λ_=>True) (.bif (λ_=>(wu _).bind λ_ _ => .pure trivial) λ_ => .pure trivial) λ_ _=>?_;refine G7.bind (P:=λ_=>True) (.bif (λ_ => .pure trivial) λ_=>?_) λ_ _ => .pure trivial;exact G7.bind (P:=λ_=>True) (.bif (λ_=>(xu _).bind λ_ _ => .pure trivial) λ_ => .pure trivial) λ_ _ => .pure trivial
theorem xw {p:List (List GY)} (hp:Sm p) {most:Int} (hm:0<=most/\most<=10000):G7 (iw p most) λ_=>True:=by
 unfold iw;refine G7.bind (P:=λv:Int=>0<=v/\v<=1000000000) ?_ λv ⟨h1,h2⟩ => .bifD (λ_ => .gdI (by omega)<|.pure trivial) λ_ => .pure trivial;refine G7.loop (λs=>0<=s.1/\s.1<=3/\0<=s.2/\s.2<=1000000000) (λs=>(3-s.1).toNat) ⟨LJ _,by decide,by decide,by decide⟩ λs ⟨h1,h2,h3,h4⟩ => ?_;unfold kF;refine .bifD (λh0=>?_) λh0 => .pure ⟨h3,h4⟩;refine G7.bind (P:=λv:Int=>0<=v/\v<=1000000000) ?_ λv ⟨g1,g2⟩ => .gdI (by omega)<|.pure ⟨⟨by simp only [];omega,by simp only [];omega,g1,g2⟩,by simp only [];omega⟩;refine (rY hp _ _).bind λw ⟨w1,w2⟩=>G7.bind (P:=λv:Int=>0<=v/\v<=1000000000) ?_ λv ⟨g1,g2⟩ => ?_
 ·refine G7.loop (λt=>0<=t.1/\t.1<=81/\0<=t.2/\t.2<=1000000000) (λt=>(81-t.1).toNat) ⟨LJ _,by simp only [];omega,h3,h4⟩ λt ⟨k1,k2,k3,k4⟩ => ?_;unfold jY;refine (rY hp _ _).bind λc ⟨c1,c2⟩=>G7.bind (P:=λb=>b=(decide (t.1<c)&&decide (t.2<=most))) (.bifD (λh => .pure<|by simp [h]) λh => .pure<|by simp [h]) λb hb => .bif (λht=>?_) λ_ => .pure ⟨k3,k4⟩;rw [hb] at ht;simp only [bae,dte] at ht;have e1:0<=t.2*(w+1)/\t.2*(w+1)<=10000*82:=⟨Int.mul_nonneg k3 (by omega),Int.mul_le_mul (by omega) (by omega) (by omega)<|by omega⟩;exact .gdI (by omega)<|.gdI (by omega)<|.gdI (by omega)<|.pure ⟨⟨by simp only [];omega,by simp only [];omega,e1.1,by simp only [];omega⟩,by simp only [];omega⟩
 refine G7.loop (λt=>2<=t.1/\t.1<=82/\0<=t.2/\t.2<=1000000000) (λt=>(82-t.1).toNat) ⟨LJ _,by simp only [];omega,g1,g2⟩ λt ⟨k1,k2,k3,k4⟩ => ?_;unfold jZ;refine G7.bind (P:=λb=>b=(decide (t.1<=w)&&decide (t.2<=most))) (.bifD (λh => .pure<|by simp [h]) λh => .pure<|by simp [h]) λb hb => .bif (λht=>?_) λ_ => .pure ⟨k3,k4⟩;rw [hb] at ht;simp only [bae,dte] at ht;have e1:0<=t.2*t.1/\t.2*t.1<=10000*82:=⟨Int.mul_nonneg k3 (by omega),Int.mul_le_mul (by omega) (by omega) (by omega)<|by omega⟩;exact .gdI (by omega)<|.gdI (by omega)<|.pure ⟨⟨by simp only [];omega,by simp only [];omega,e1.1,by simp only [];omega⟩,by simp only [];omega⟩
theorem Ga:qL (⟨#[120,61,49,59,97,61,121,124,121,61,49,59,97,61,120]⟩:ByteArray)=true:=by decide +kernel
theorem xx {k:Int} {r:aa} (h:Rd k r) (hk:k<=10000):G7 (iy r) λv=>Rd (k+46) v.1/\smP v.2=true:=by
 unfold iy;refine (zA h.mk' hk C0).bind λv ⟨a1,a2⟩=>(xw (yJ a2)<|by decide).bind λn _ => .bifD (λ_ => .pure ⟨a1.mk',a2⟩) λ_=>?_;exact (ul Ga).bind λu hu => .pure ⟨a1.mk',hu⟩
section
variable {α β:Type} [Inhabited β] {f:α->List Value} {s:Nat} {c:β->List AV} {w:World} {fz:Nat->Prop} {v:Value}
theorem m8 {u x:Value} (h:FRel w fz (.v u) x):x=u:=by
 cases h with
 | v _=>rfl
theorem um {e:β->α} (hf:∀ x,c x=(f<|e x).map AV.v) (hs:∀ x,(f<|e x).length=s) {l:List β} (h:FRel w fz (eL c l) v):Sl f s w 0 w.heap.size v (l.map e):=by
 unfold eL at h
 cases h with
 | sl us hc hm ha hr hu h1 h=>
  refine ⟨_,_,by rw [llm],by simpa using hc,hm,λhn=>?_⟩;rw [llm] at hn;obtain ⟨rfl,hg,hlt⟩:=ha hn;refine ⟨_,_,rfl,LP _,hlt,hlt,λk hk j u hu' => ?_⟩;rw [llm] at hk;rw [LK] at hu';have hk0:l.getD k default=l[k]:=by simp [List.getD,hk]
  have hrow:(c<|l.getD k default)[j]? = some (.v u):=by rw [hk0,hf,Mb,hu'];rfl
  have hs':=hr k hk
  dsimp only at hs'
  rw [hf,llm,hs] at hs';subst hs';have h2:=hu k j _ hk hrow;rw [m8 (h k j _ hk hrow)] at h2;exact h2
theorem iD {e:β->α} (hf:∀ x,c x=(f<|e x).map AV.v) (hs:∀ x,(f<|e x).length=s) {l:List (List β)} (h:FRel w fz (eL (cL c) l) v):nS f s w 0 w.heap.size v (l.map λr=>r.map e):=by
 unfold eL at h
 cases h with
 | sl us hc hm ha hr hu h1 h=>
  refine ⟨(LH l.length).map λi=>us i 0,?_,by simp,λk hk hk' => ?_⟩
  ·refine ⟨_,_,by rw [llm,L9],by simpa using hc,hm,λhn=>?_⟩;rw [llm,L9] at hn;obtain ⟨rfl,hg,hlt⟩:=ha hn;refine ⟨_,_,rfl,LP _,hlt,hlt,λk hk j u hu' => ?_⟩;rw [llm,L9] at hk;rw [LK,List.getElem_range] at hu';have hs':=hr k hk;change 1=_ at hs';subst hs'
   match j with
   | 0=>
    have h2:=hu k 0 _ hk rfl;rw [h2];simpa [Cf] using hu'
   | j+1=>simp [Cf] at hu'
  rw [llm,L9] at hk;rw [LK,LK,List.getElem_range];have h2:=h k 0 _ hk rfl;have hk0:l.getD k default=l[k]:=by simp [List.getD,hk]
  rw [hk0] at h2;exact um hf hs h2
theorem zB {e:α->β} (hf:∀ x,c (e x)=(f x).map AV.v) (hs:∀ x,(f x).length=s) (hp:∀ x,∀ u∈f x,plain u=true) {l:List α} {hi:Nat} (h:Sl f s w 0 hi v l):FRel w (λg=>g<w.heap.size) (eL c<|l.map e) v:=by
 obtain ⟨A,cap,rfl,hc,hm,h⟩:=h;have key:∀ (g o:Nat),(0<l.length->A=some ⟨g,o,none⟩/\g<w.heap.size/\∀ (k:Nat) (h:k<l.length) (j:Nat) (u:Value),(f l[k])[j]? = some u->w.cell? ⟨g,o+k*s+j,none⟩=some u)->FRel w (λg=>g<w.heap.size) (eL c<|l.map e) (.slice A l.length cap):=by
  intro g o hh;have hrow:∀ (i j:Nat) (a:AV),i<l.length->(c<|(l.map e).getD i default)[j]? = some a->∃ u,l[i]?.bind (λx=>(f x)[j]?)=some u/\a = .v u/\plain u=true/\w.cell? ⟨g,o+i*s+j,none⟩=some u:=by
   intro i j a hi ha;have h0:(l.map e).getD i default=e l[i]:=by simp [List.getD,hi]
   rw [h0,hf,Mb] at ha
   cases hq:(f l[i])[j]? with
   | none=>rw [hq] at ha;cases ha
   | some u=>
    rw [hq] at ha;refine ⟨u,by rw [geq hi];exact hq,(osl ha).symm,hp _ u<|Mf hq,(hh<|by omega).2.2 i hi j u hq⟩
  have e0:(l.map e).length=l.length:=by simp
  unfold eL;rw [e0];refine FRel.sl (s:=s) (g:=g) (o:=o) (λi j=>(l[i]?.bind λx=>(f x)[j]?).getD<|.bool false) hc hm (λhn=>⟨(hh hn).1,(hh hn).2.1,(hh hn).2.1⟩) (λi hi=>?_) (λi j a hi ha=>?_) (λi j a hi ha=>?_) λi j a hi ha=>?_
  ·have h0:(l.map e).getD i default=e l[i]:=by simp [List.getD,hi]
   rw [h0,hf,llm,hs]
  ·obtain ⟨u,h1,h2,h3,h4⟩:=hrow i j a hi ha;simp only [h1,LM];exact h4
  ·obtain ⟨u,h1,h2,h3,h4⟩:=hrow i j a hi ha;simp only [h1,LM];exact nT h3
  obtain ⟨u,h1,h2,h3,h4⟩:=hrow i j a hi ha;subst h2;simp only [h1,LM];exact .v h3
 by_cases h0:0<l.length
 ·obtain ⟨b,o,hA,_,_,hlt,hcell⟩:=h h0;exact key b o λ_=>⟨hA,hlt,hcell⟩
 exact key 0 0 λh1=>absurd h1 h0
theorem uV {P:Program} {g:FuncId} {ars:List AV} {r:AV} (h:aJ P g ars r) (vs:Array Value) (hl:vs.size=ars.length) (hr:∀ (i:Nat) (a:AV) (v:Value),ars[i]? = some a->vs[i]? = some v->FRel w (λg=>g<w.heap.size) a v) (hgl:Gl w (λg=>g<w.heap.size):=by exact zR) :
  Calls P g vs w λe w'=>∃ v fz',e = .returned v/\Below w.heap.size w w'/\FRel w' fz' r v:=
 (h.2 w _ vs (λg hg=>hg) hgl hl hr).mono λe w' ⟨v,fz',h1,h2,h3,_⟩=>⟨v,fz',h1,h2,h3⟩
theorem Gb {a:AV} {u:Value} (h:FRel w fz a u):∀ (i:Nat) (a':AV) (v:Value),[a][i]? = some a' -> #[u][i]? = some v->FRel w fz a' v:=by
 intro i a' v h1 h2
 match i with
 | 0=>
  obtain rfl:=osl h1;obtain rfl:u=v:=by simpa using h2
  exact h
 | i+1=>simp at h1
end
theorem zC {w:World} {v:Value} {hi:Nat} {l:LI} (h:Sl w9 1 w 0 hi v l):FRel w (λg=>g<w.heap.size) (eL cY l) v:=by
 have := zB (f:=w9) (s:=1) (c:=cY) (e:=id) (λ_=>rfl) (λ_=>rfl) (λx u hu=>by simp [w9] at hu;subst hu;rfl) h
 rwa [LQ] at this
theorem xy {P:Program} {g:FuncId} {ars:List AV} {w:World} {vs:Array Value} (h:aJ P g ars<|Bo true) (hl:vs.size=ars.length) (hr:∀ (i:Nat) (a:AV) (v:Value),ars[i]? = some a->vs[i]? = some v->FRel w (λg=>g<w.heap.size) a v) (hgl:Gl w (λg=>g<w.heap.size):=by exact zR) :
  Calls P g vs w λe w'=>e = .returned (.bool true)/\Below w.heap.size w w':=
 (uV h vs hl hr hgl).mono λe w' ⟨v,fz',h1,h2,h3⟩=>⟨by rw [h1,m8 h3],h2⟩
section
variable {α β:Type} [Inhabited β] {f:α->List Value} {s:Nat} {c:β->List AV} {w:World} {fz:Nat->Prop} {v:Value}
theorem xz {e:α->β} (hf:∀ x,c (e x)=(f x).map AV.v) (hs:∀ x,(f x).length=s) (hp:∀ x,∀ u∈f x,plain u=true) {l:List α} {lo hi:Nat} (hfz:∀ g,lo<=g->g<hi->fz g) (h:Sl f s w lo hi v l):FRel w fz (eL c<|l.map e) v:=by
 obtain ⟨A,cap,rfl,hc,hm,h⟩:=h;have key:∀ (g o:Nat),(0<l.length->A=some ⟨g,o,none⟩/\(fz g/\g<w.heap.size)/\∀ (k:Nat) (h:k<l.length) (j:Nat) (u:Value),(f l[k])[j]? = some u->w.cell? ⟨g,o+k*s+j,none⟩=some u)->FRel w fz (eL c<|l.map e) (.slice A l.length cap):=by
  intro g o hh;have hrow:∀ (i j:Nat) (a:AV),i<l.length->(c<|(l.map e).getD i default)[j]? = some a->∃ u,l[i]?.bind (λx=>(f x)[j]?)=some u/\a = .v u/\plain u=true/\w.cell? ⟨g,o+i*s+j,none⟩=some u:=by
   intro i j a hi ha;have h0:(l.map e).getD i default=e l[i]:=by simp [List.getD,hi]
   rw [h0,hf,Mb] at ha
   cases hq:(f l[i])[j]? with
   | none=>rw [hq] at ha;cases ha
   | some u=>
    rw [hq] at ha;refine ⟨u,by rw [geq hi];exact hq,(osl ha).symm,hp _ u<|Mf hq,(hh<|by omega).2.2 i hi j u hq⟩
  have e0:(l.map e).length=l.length:=by simp
  unfold eL;rw [e0];refine FRel.sl (s:=s) (g:=g) (o:=o) (λi j=>(l[i]?.bind λx=>(f x)[j]?).getD<|.bool false) hc hm (λhn=>⟨(hh hn).1,(hh hn).2.1.1,(hh hn).2.1.2⟩) (λi hi=>?_) (λi j a hi ha=>?_) (λi j a hi ha=>?_) λi j a hi ha=>?_
  ·have h0:(l.map e).getD i default=e l[i]:=by simp [List.getD,hi]
   rw [h0,hf,llm,hs]
  ·obtain ⟨u,h1,h2,h3,h4⟩:=hrow i j a hi ha;simp only [h1,LM];exact h4
  ·obtain ⟨u,h1,h2,h3,h4⟩:=hrow i j a hi ha;simp only [h1,LM];exact nT h3
  obtain ⟨u,h1,h2,h3,h4⟩:=hrow i j a hi ha;subst h2;simp only [h1,LM];exact .v h3
 by_cases h0:0<l.length
 ·obtain ⟨b,o,hA,h1,h2,hlt,hcell⟩:=h h0;exact key b o λ_=>⟨hA,⟨hfz b h1 h2,hlt⟩,hcell⟩
 exact key 0 0 λh1=>absurd h1 h0
end
theorem zD {α β:Type} [Inhabited β] {f:α->List Value} {s:Nat} {c:β->List AV} {e:α->β} (hf:∀ x,c (e x)=(f x).map AV.v) (hs:∀ x,(f x).length=s) (hp:∀ x,∀ u∈f x,plain u=true) {w:World} {v:Value} {l:List (List α)} {lo hi:Nat} {fz:Nat->Prop} (hfz:∀ g,lo<=g->g<hi->fz g) (h:nS f s w lo hi v l) :
  FRel w fz (eL (cL c)<|l.map λr=>r.map e) v:=by
 obtain ⟨xs,⟨A,cap,rfl,hc,hm,h⟩,hl,hr⟩:=h;have e0:(l.map λr=>r.map e).length=xs.length:=by rw [llm,hl]
 have key:∀ (g o:Nat),(0<xs.length->A=some ⟨g,o,none⟩/\(fz g/\g<w.heap.size)/\∀ (k:Nat) (h:k<xs.length),w.cell? ⟨g,o+k*1+0,none⟩=some xs[k])->FRel w fz (eL (cL c)<|l.map λr=>r.map e) (.slice A xs.length cap):=by
  intro g o hh;unfold eL;rw [e0];have hg:∀ i (h:i<xs.length),(l.map λr=>r.map e).getD i default=(l[i]'(by omega)).map e:=λi h=>by simp [List.getD,show i<l.length by omega]
  have one:∀ (i j:Nat) (a:AV),(cL c<|(l.map λr=>r.map e).getD i default)[j]? = some a->j=0/\a=eL c ((l.map λr=>r.map e).getD i default):=λi j a ha=>by
   match j with
   | 0=>exact ⟨rfl,(osl ha).symm⟩
   | j+1=>simp [cL] at ha
  have us:∀ i (h:i<xs.length),(xs[i]?.getD<|.bool false)=xs[i]:=λi h=>by simp [h]
  have ho:∀ i (h:i<xs.length),∃ A n k,xs[i] = .slice A n k:=λi h=>by
   obtain ⟨A,k,he,_⟩:=hr i h (by omega);exact ⟨A,_,k,he⟩
  refine FRel.sl (s:=1) (g:=g) (o:=o) (λi _=>xs[i]?.getD<|.bool false) hc hm (λhn=>⟨(hh hn).1,(hh hn).2.1.1,(hh hn).2.1.2⟩) (λi hi=>rfl) (λi j a hi ha=>?_) (λi j a hi ha=>?_) λi j a hi ha=>?_
  ·obtain ⟨rfl,_⟩:=one i j a ha;rw [us i hi];exact (hh<|by omega).2.2 i hi
  ·rw [us i hi];obtain ⟨A,n,k,he⟩:=ho i hi;rw [he]
   rfl
  obtain ⟨rfl,rfl⟩:=one i j a ha;rw [us i hi,hg i hi];exact xz hf hs hp hfz<|hr i hi (by omega)
 by_cases h0:0<xs.length
 ·obtain ⟨b,o,hA,h1,h2,hlt,hcell⟩:=h h0;exact key b o λ_=>⟨hA,⟨hfz b h1 h2,hlt⟩,λk hk=>hcell k hk 0 _ rfl⟩
 exact key 0 0 λh1=>absurd h1 h0
def sV (x:Ins):GY:=⟨x.op,x.loc,x.reg,x.val⟩
abbrev toP (p:List<|List GY):List (List Ins):=p.map λr=>r.map f8
abbrev ofP (p:List<|List Ins):List (List GY):=p.map λr=>r.map sV
theorem BJ {w:World} {v:Value} {p:List (List Ins)} {lo hi:Nat} {fz:Nat->Prop} (hfz:∀ g,lo<=g->g<hi->fz g) (h:nS Ins.cells 4 w lo hi v p):FRel w fz (eL (cL GY.c)<|ofP p) v:=
 zD (f:=Ins.cells) (s:=4) (c:=GY.c) (e:=sV) (λ_=>rfl) (λ_=>rfl) (λx u hu=>by simp [Ins.cells] at hu;rcases hu with rfl | rfl | rfl | rfl <;> rfl) hfz h
theorem C9 {w:World} {fz:Nat->Prop} {a b:AV} {u v:Value} (ha:FRel w fz a u) (hb:FRel w fz b v):FRel w fz (.tup [a,b]) (.tuple #[u,v]):=by
 refine .tup rfl λi c x hc hx=>?_
 match i with
 | 0=>
  obtain rfl:=osl hc;obtain rfl:u=x:=by simpa using hx
  exact ha
 | 1=>
  obtain rfl:=osl hc;obtain rfl:v=x:=by simpa using hx
  exact hb
 | i+2=>simp at hc
theorem yK {P:Program} {g:FuncId} {ars:List AV} {r:List (List Ins)×Bool} {to ti:TypeId} (hc:dO P g=true) (h:∀ (w:World) (fz:Nat->Prop) (vs:Array Value),vs.size=ars.length->(∀ (i:Nat) (a:AV) (v:Value),ars[i]? = some a->vs[i]? = some v->FRel w fz a v) ->
  Calls P g vs w λe w'=>(∃ v,e = .returned (.tuple #[v,.bool r.2])/\m6 Ins.cells 4 to ti w' w.heap.size w'.heap.size v r.1)/\Below w.heap.size w w'):aJ P g ars (.tup [eL (cL GY.c) (ofP r.1),Bo r.2]):=by
 refine ⟨hc,λw fz vs hlt _ hl hrel=>(h w fz vs hl hrel).mono λe w' ⟨⟨v,he,ho⟩,hb⟩ => ?_⟩;have hfz:∀ g,w.heap.size<=g->g<w'.heap.size->(λg=>fz g\/(w.heap.size<=g/\g<w'.heap.size)) g:=λg h1 h2 => .inr ⟨h1,h2⟩;refine ⟨_,λg=>fz g\/(w.heap.size<=g/\g<w'.heap.size),he,hb,C9 (BJ hfz ho.sl)<|.v rfl,λg hg => .inl hg,λg hg=>?_,λg hg=>?_⟩
 ·rcases hg with hg | hg
  ·exact .inl hg
  exact .inr hg.1
 rcases hg with hg | hg
 ·exact Nat.lt_of_lt_of_le (hlt g hg) hb.size
 exact hg.2
theorem BL {w:World} {fz:Nat->Prop} {vs:Array Value} {a:AV} {t i:Int} (hl:vs.size=[a,I t,I i].length) (hrel:∀ (j:Nat) (c:AV) (v:Value),[a,I t,I i][j]? = some c->vs[j]? = some v->FRel w fz c v):∃ u,vs = #[u,.int .i64 t,.int .i64 i]:=by
 obtain ⟨l⟩:=vs
 match l,hl with
 | [x,y,z],_=>
  have e1:=m8<|hrel 1 _ y rfl rfl;have e2:=m8<|hrel 2 _ z rfl rfl;subst e1 e2;exact ⟨x,rfl⟩
open Go.ChangeShapes Go.WideShapes Go.ChangeAt Go.RowKit

theorem Ow.setOther {α:Type} {f:α->List Value} {s:Nat} {t t':TypeId} {w:World} {lo hi g:Nat} {v:Value} {xs:List α} {cs:Array Value} (h:Ow f s t w lo hi v xs) (hB:G5 w g t' cs) (hne:t≠t') (i:Nat) (u:Value):Ow f s t (w.setCell ⟨g,i,none⟩ u) lo hi v xs:=by
 obtain ⟨A,c,rfl,hc,hm,r⟩:=h;refine ⟨A,c,rfl,hc,hm,λhn=>?_⟩;obtain ⟨g',cur,rfl,h1,h2,h3,h4⟩:=r hn;refine ⟨g',cur,rfl,h1,h2,h3.far ?_ _,h4⟩;rintro rfl;exact hne (h3.inj hB).1
theorem BM {lo hi:Nat} {u:Value} {xs:List Ins} {w:World} (hu:Sl Ins.cells 4 w lo hi u xs) (hx:xs.length<=1048576) :
  Calls Tryz.prog 101 #[u] w λe w'=>(∃ A c,e = .returned (.slice A xs.length c)/\Ow Ins.cells 4 69 w' w.heap.size w'.heap.size (.slice A xs.length c) xs)/\Below w.heap.size w w':=by
 obtain ⟨A,c,rfl,hsrc⟩:=hu.src pK (by omega);obtain ⟨A',c',hu',hc,hm,_⟩:=hu;injection hu' with h1 _ h2;subst h1 h2;obtain ⟨i0,hi0,hz0,hz1,hz2⟩:=info_parts Tryz.infoIns;have hnil:=λW=>Lib.run_eql_slice_nil (P:=Tryz.prog) W 66 69 A xs.length c 0 0 Tryz.underlying66;rcases A with _ | ad
 ·have h0:xs.length=0:=by
   rcases Nat.eq_zero_or_pos xs.length with h | h
   ·exact h
   obtain ⟨ad,h,_⟩:=hsrc h
   cases h
  have hxs:xs=[]:=Mg h0;have HXS:=Lib.hid hxs;clear hxs h0 hsrc
  go_enter Tryz.func101,Tryz.ntmps101
  go_wp2_with fail
  go_ret
  exact ⟨⟨none,0,by rw [HXS.out];rfl,by rw [HXS.out];exact Ow.qO _ _<|by omega⟩,Below.refl _ _⟩
 have SRC:=Lib.hid hsrc;clear hsrc;have NEW:Hid ((w.alloc<|.cells #[] 69).ownsRow w.heap.size 69 4 (.slice (some ⟨w.heap.size,0,none⟩) 0 0) 0 []):=World.ownsRow_made w #[] 0 (LG _) (by simp [maxLen]) rfl;have SRC2:Hid (Src (w.alloc<|.cells #[] 69) (some ad) xs.length<|xs.flatMap Ins.cells):=by
  intro hn;obtain ⟨ad',h,hc⟩:=SRC.out hn;refine ⟨ad',h,λj u hu=>?_⟩;have := hc j u hu;rw [World.cell?_alloc_lt w _ _ (World.block_lt_of_cell? w _ this)];exact this
 go_enter Tryz.func101,Tryz.ntmps101
 by_cases hn:0<xs.length
 ·go_wp2_with (at_builtin;refine jS _ rfl _ _ 66 rfl w.heap.size 69 i0 _ 4 32 Tryz.underlying66 hi0 hz0 hz1 hz2 rfl (by omega) (.slice (some ⟨w.heap.size,0,none⟩) 0 0) 0 [] rfl NEW.out (some ad) xs.length c (xs.flatMap Ins.cells) rfl (mL pK xs) SRC2.out (xa xs) (by simp only [maxLen];omega) (by omega) (by simp) (by omega) ?_;intro gg cap w1 hown hgrow hat hlt)
  go_ret
  refine ⟨⟨some ⟨gg,0,none⟩,cap,by simp, Ow.of_row pK (by simpa using hown) rfl rfl⟩,((Below.refl _ _).alloc (LG _) _).grown hgrow (by simp) λk hk=>by simp [Value.ownBlock] at hk;omega⟩
 have hxs:xs=[]:=Mg (by omega);have HXS:=Lib.hid hxs;clear hxs
 go_wp2_with (at_builtin;refine ij _ rfl _ _ 66 rfl w.heap.size 69 i0 _ 4 32 Tryz.underlying66 hi0 hz0 hz1 hz2 rfl (by omega) (.slice (some ⟨w.heap.size,0,none⟩) 0 0) 0 [] rfl NEW.out (some ad) xs.length c (xs.flatMap Ins.cells) rfl (mL pK xs) SRC2.out (xa xs) (by simp only [maxLen];omega) (by omega) (by simp) ?_;intro v' w1 hown hgrow hat)
 go_ret
 refine ⟨?_,((Below.refl _ _).alloc (LG _) _).grown hgrow (by simp) λk hk=>by simp [Value.ownBlock] at hk;omega⟩;rw [HXS.out] at hown ⊢;rcases hown.2 with ⟨rfl,_⟩ | ⟨g,cap,cur,rfl,_,_,_,hcap,_⟩
 ·exact ⟨none,0,rfl,Ow.qO _ _<|by omega⟩
 simp only [maxLen] at hcap;exact ⟨some ⟨g,0,none⟩,cap,rfl,Ow.qO _ _<|by omega⟩
theorem m6.made2 {α:Type} {f:α->List Value} {s:Nat} {to ti:TypeId} {w:World} {lo hi g c:Nat} {cs:Array Value} {p:List (List α)} {V:Nat->Value}
  (hB:G5 w g to cs) (hg:lo<=g/\g<hi) (hc:cs.size=c) (hpc:p.length<=c) (hc63:c<=9223372036854775807)
  (hrow:∀ j (h:j<p.length),cs[j]? = some (V j)/\Ow f s ti w lo hi (V j) p[j])
  (hsep:∀ i j (hi:i<p.length) (hj:j<p.length),i≠j->0<p[i].length->0<p[j].length->(V i).ownBlock≠(V j).ownBlock):m6 f s to ti w lo hi (.slice (some ⟨g,0,none⟩) p.length c) p:=by
 have hcl:p.length<=cs.toList.length:=by simp;omega
 have hlen:(cs.toList.take p.length).length=p.length:=by simp;omega
 have hget:∀ j (h:j<(cs.toList.take p.length).length) (h':j<p.length),(cs.toList.take p.length)[j]=V j:=by
  intro j h h';have h2:=(hrow j h').1;rw [List.getElem_take];rw [Array.getElem?_eq_some_iff] at h2;obtain ⟨_,h2⟩:=h2;simpa using h2
 refine ⟨cs.toList.take p.length,⟨_,c,by rw [hlen],by rw [hlen];exact hpc,hc63,λ_=>⟨g,cs,rfl,hg.1,hg.2,hB,by omega,λk h j u hu=>?_⟩⟩,hlen,λk h h' => ?_,λi j hi hj hi' hj' hne h1 h2=>?_⟩
 ·match j,hu with
  | 0,hu=>
   simp only [Cf,List.getElem?_cons_zero,sie] at hu;rw [<- hu,Nat.mul_one,Nat.add_zero,hget k h (by omega)];exact (hrow k<|by omega).1
  | n+1,hu=>simp [Cf] at hu
 ·rw [hget k h h'];exact (hrow k h').2
 rw [hget i hi hi',hget j hj hj'];exact hsep i j hi' hj' hne h1 h2
theorem qq {lo hi:Nat} {u:Value} {p:List (List Ins)} {w:World} (hu:nS Ins.cells 4 w lo hi u p) (hhi:hi<=w.heap.size) (hl:p.length<=1048576) (ht:total p<=1048576) :
  Calls Tryz.prog 67 #[u] w λe w'=>(∃ (g:Nat) (cs:Array Value) (V:Nat->Value),e = .returned (.slice (some ⟨g,0,none⟩) p.length p.length)/\G5 w' g 66 cs/\w.heap.size<=g/\cs.size=p.length /\
   (∀ j (h:j<p.length),cs[j]? = some (V j)/\Ow Ins.cells 4 69 w' w.heap.size w'.heap.size (V j) p[j]) /\
   (∀ i j (hi:i<p.length) (hj:j<p.length),i≠j->0<p[i].length->0<p[j].length->(V i).ownBlock≠(V j).ownBlock))/\Below w.heap.size w w':=by
 obtain ⟨xs,hxs,hxl,hxr⟩:=hu;obtain ⟨A,ca,rfl,hca,hma,hA⟩:=hxs.vals;clear hxs hma;obtain ⟨i0,hi0,hz0,hz1,hz2⟩:=info_parts Tryz.infoInsS;have hmk:=λW=>uP (P:=Tryz.prog) 24 66 i0 _ Tryz.underlying24 hi0 hz0 .i64 .i64 xs.length xs.length (LG _) (by rw [hz2];omega) (by omega) W;rw [hz1] at hmk;have HX:=Lib.hid hxl;have hxle:xs.length<=1048576:=by omega
 clear hxl;have HXR:=Lib.hid hxr;clear hxr
 go_enter Tryz.func67,Tryz.ntmps67
 go_wp2_with fail
 clear hmk
 go_loopw [11] (λi wr=>∃ (k:Nat) (cs:Array Value) (V:Nat->Value),k<=xs.length/\i = .int .i64 k/\Below w.heap.size w wr/\G5 wr w.heap.size 66 cs/\cs.size=xs.length /\
   (∀ j (h:j<p.length),j<k->cs[j]? = some (V j)/\Ow Ins.cells 4 69 wr w.heap.size wr.heap.size (V j) p[j]) /\
   (∀ i j (hi:i<p.length) (hj:j<p.length),i<k->j<k->i≠j->0<p[i].length->0<p[j].length->(V i).ownBlock≠(V j).ownBlock)) (λi _=>xs.length-(intOf i).toNat)
 case atStart=>
  exact ⟨0,_,λ_ => .slice none 0 0,LP _,rfl,(Below.refl _ _).alloc (LG _) _,G5.new _ _ _,by simp [size_madeCells],λj _ h=>absurd h (by omega),λi j _ _ h=>absurd h<|by omega⟩
 case round=>
  obtain ⟨k,cs,V,hk,rfl,hb,hB,hcs,hin,hdj⟩:=hrel;have HI:=Lib.hid hin;clear hin;have HD:=Lib.hid hdj;clear hdj;have HB:=Lib.hid hB;have HCS:=Lib.hid hcs;have hgl:=hB.lt;clear hB hcs
  by_cases hlt:k<xs.length
  ·obtain ⟨ba,oa,rfl,_,_,hba,hA⟩:=hA (by omega);have hp:k<p.length:=HX.out ▸ hlt;have ca1:=(hb.cell (p:=⟨ba,oa+k,none⟩) hba).trans<|hA k hlt;have RX:=Lib.hid<|(HXR.out k hlt hp).below hb hhi;have hr:p[k].length<=1048576:=LR (iz p k hp) ht;clear hA;have i1:(0:Int)<=(k:Int):=by omega
   have i2:(k:Int)<(xs.length:Int):=by omega
   go_wp2_with fail
   refine (BM RX.out hr).mono ?_;rintro e w1 ⟨⟨A1,c1,rfl,hown⟩,hq1⟩;have B1:=HB.out.below hq1 hgl;have HO:=Lib.hid hown;clear hown;have hz:k<cs.size:=by rw [HCS.out];omega
   have f0:=B1.frozen k;have e0:=B1.cell k;rw [Array.getElem?_eq_getElem (by omega)] at e0;have HB1:=Lib.hid B1;clear B1;have hw1:=hq1.size
   go_wp2_with fail
   go_roundw
   case rel=>
    refine ⟨k+1,cs.setIfInBounds k<|.slice A1 p[k].length c1,upd V k<|.slice A1 p[k].length c1,by omega,by go_num,(hb.trans<|hq1.mono hb.size).setCell (by simp) _,HB1.out.set_ _ _,?_,?_,?_⟩
    ·simp;exact HCS.out
    ·intro j h hj;have hsz:(w1.setCell ⟨w.heap.size,k,none⟩<|.slice A1 p[k].length c1).heap.size=w1.heap.size:=by simp [World.setCell]
     rw [hsz]
     by_cases e:j=k
     ·subst e;rw [upd_same];exact ⟨vR hz,(HO.out.mono (by omega)<|LG _).setOther HB1.out (by decide) _ _⟩
     rw [upd_ne _ _ e];obtain ⟨h3,h4⟩:=HI.out j h (by omega);exact ⟨by rw [zg (by omega)];exact h3,(((h4.below hq1<|LG _).mono (LG _) hw1).setOther HB1.out (by decide) _ _)⟩
    intro i j hi hj hik hjk hij h1 h2
    by_cases e:i=k
    ·subst e;rw [upd_same,upd_ne _ _ (by omega)];obtain ⟨g1,_,hg1,hl1,_⟩:=HO.out.block h1;obtain ⟨g2,_,hg2,_,hl2,_⟩:=(HI.out j hj<|by omega).2.block h2;rw [hg1,hg2];intro h;injection h with h;omega
    rw [upd_ne _ _ e]
    by_cases e2:j=k
    ·subst e2;rw [upd_same];obtain ⟨g1,_,hg1,hl1,_⟩:=HO.out.block h2;obtain ⟨g2,_,hg2,_,hl2,_⟩:=(HI.out i hi<|by omega).2.block h1;rw [hg1,hg2];intro h;injection h with h;omega
    rw [upd_ne _ _ e2];exact HD.out i j hi hj (by omega) (by omega) hij h1 h2
   case measure=>simp [intOf];omega
  have hkx:k=xs.length:=by omega
  go_wp2
  go_ret
  have hX:=HX.out;exact ⟨⟨w.heap.size,cs,V,by rw [<- hX];rfl,HB.out,LG _,by rw [<- hX];exact HCS.out,λj h=>HI.out j h (by omega),λi j hi hj=>HD.out i j hi hj (by omega)<|by omega⟩,hb⟩
section
variable {P:Program} (w:World) {α:Type} {f:α->List Value}
theorem ww {e:TypeId} {base:Nat} {size:Nat} {v':Value} {w':World} {xs:List α} (hf:∀ x,(f x).length=size) (h:w'.ownsRow base e size v' (0+xs.length)<|[]++xs.flatMap f) :
  ∃ A c,v' = .slice A xs.length c/\Ow f size e w' base w'.heap.size (.slice A xs.length c) xs:=by
 rw [Nat.zero_add,List.nil_append] at h;have h2:=Ow.of_row hf h rfl rfl;obtain ⟨A,c,rfl,r⟩:=h2;exact ⟨A,c,rfl,A,c,rfl,r⟩
theorem pX {ops:Array Oper} {rest:List Oper} {o:Oper} {a:Act} {Q:Exit->Act->World->Prop} (hgd:o.guard=none) (s x:Operand) (t:TypeId)
  (ho:o.op = .call { callee := .builtin .append,args := #[s,x],argTypes := #[t,t] })
  (base:Nat) (e:TypeId) (i:TypeInfo) (z:Value) (size bytes:Nat) (ht:P.underlying t=some (.slice e)) (hi:P.info? e=some i) (hz:i.zero=some z)
  (hsize:i.size=size) (hby:i.bytes=bytes) (hzs:z.cells.size=size) (hsz:0<size)
  (v:Value) (hs:a.eval s=v) (hown:w.ownsRow base e size v 0 [])
  (A:Option Addr) (c:Nat) (xs:List α) (hf:∀ x,(f x).length=size) (hx:a.eval x = .slice A xs.length c) (hr:Src w A xs.length<|xs.flatMap f) (h1:∀ u∈xs.flatMap f,u.oneCell'=true)
  (h63:0+xs.length<=maxLen) (hbytes:(0+xs.length)*bytes<=140737488355328) (hbase:base<=w.heap.size)
  (h:∀ A' c' w',Ow f size e w' base w'.heap.size (.slice A' xs.length c') xs->w.grownBy w' v.ownBlock->wpList P ops Q rest (a.put o.dst<|.slice A' xs.length c') w'):wpList P ops Q (o::rest) a w:=by
 refine ij w hgd s x t ho base e i z size bytes ht hi hz hsize hby hzs hsz v 0 [] hs hown A xs.length c (xs.flatMap f) hx (mL hf xs) hr h1 h63 hbytes hbase λv' w' h2 h3 _=>?_;obtain ⟨A',c',rfl,ho'⟩:=ww hf h2;exact h A' c' w' ho' h3
end
section
variable {α:Type} {f:α->List Value} {s:Nat} {t e:TypeId} {w w':World} {lo hi:Nat} {u v:Value} {xs:List α} {base size n:Nat} {cells:List Value}
theorem Ow.grownRow (h:Ow f s t w lo hi v xs) (ho:w.ownsRow base e size u n cells) (hne:t≠e) (hg:w.grownBy w' u.ownBlock):Ow f s t w' lo hi v xs:=by
 refine h.grown hg λhn=>?_;obtain ⟨g,cur,h1,_,_,h2⟩:=h.block hn;rw [h1];rcases ho.2 with ⟨rfl,_⟩ | ⟨g',cap,cur',rfl,_,hh,_⟩
 ·simp [Value.ownBlock]
 simp only [Value.ownBlock,ne_eq,sie];rintro rfl;have h3:G5 w g e cur':=hh;exact hne (h2.inj h3).1
end
theorem Src.one {w:World} {g:Nat} {t:TypeId} {u:Value} (h:G5 w g t #[u]):Src w (some ⟨g,0,none⟩) 1 [u]:=by
 intro _;refine ⟨_,rfl,λj x hx=>?_⟩;rw [kx,Nat.zero_add,h.cell]
 match j,hx with
 | 0,hx=>simpa using hx
 | j+1,hx=>simp at hx
theorem Src.below {w w':World} {B m:Nat} {A:Option Addr} {news:List Value} (h:Src w A m news) (hb:Below B w w') (hB:w.heap.size<=B):Src w' A m news:=by
 intro hm;obtain ⟨ad,rfl,hc⟩:=h hm;refine ⟨ad,rfl,λj u hu=>?_⟩;have := hc j u hu;rw [hb.cell (Nat.lt_of_lt_of_le (World.block_lt_of_cell? w _ this) hB)];exact this


theorem m6.of_row {α:Type} {f:α->List Value} {s:Nat} {to ti:TypeId} {w:World} {base n:Nat} {v:Value} {p:List (List α)} {V:Nat->Value}
  (ho:w.ownsRow base to 1 v n<|(LH n).map V) (hn:n=p.length)
  (hrow:∀ j (h:j<p.length),Ow f s ti w base w.heap.size (V j) p[j])
  (hsep:∀ i j (hi:i<p.length) (hj:j<p.length),i≠j->0<p[i].length->0<p[j].length->(V i).ownBlock≠(V j).ownBlock):m6 f s to ti w base w.heap.size v p:=by
 subst hn;have hlen:((LH p.length).map V).length=p.length:=by simp
 refine ⟨(LH p.length).map V,Ow.of_row Ea ho hlen.symm (AK _).symm,hlen,λk h h' => ?_,λi j hi hj hi' hj' hne h1 h2=>?_⟩
 ·have : ((LH p.length).map V)[k]=V k:=by simp
  rw [this];exact hrow k h'
 have e1:((LH p.length).map V)[i]=V i:=by simp
 have e2:((LH p.length).map V)[j]=V j:=by simp
 rw [e1,e2];exact hsep i j hi' hj' hne h1 h2
theorem sW {V:Nat->Value} (k:Nat) (x:Value):(LH<|k+1).map (upd V k x)=(LH k).map V++[x]:=by
 rw [List.range_succ,List.map_append]
 congr 1
 ·apply List.map_congr_left;intro a ha;rw [List.mem_range] at ha;exact upd_ne _ _ (by omega)
 simp [upd_same]
theorem BN {to ti:TypeId} (hne:ti≠to) {B k n:Nat} {wr w1 w2:World} {o1 o2:Obj} {u v1:Value} {cells:List Value} {q:List (List Ins)} {V:Nat->Value} (hB:B<=wr.heap.size)
  (hI:∀ j (h:j<q.length),j<k->Ow Ins.cells 4 ti wr B wr.heap.size (V j) q[j])
  (hD:∀ i j (hi:i<q.length) (hj:j<q.length),i<k->j<k->i≠j->0<q[i].length->0<q[j].length->(V i).ownBlock≠(V j).ownBlock)
  (hk:k<q.length) (hO:Ow Ins.cells 4 ti w1 wr.heap.size w1.heap.size v1 q[k]) (hg1:(wr.alloc o1).grownBy w1<|some wr.heap.size)
  (hout:(w1.alloc o2).ownsRow B to 1 u n cells) (hg2:(w1.alloc o2).grownBy w2 u.ownBlock) :
  (∀ j (h:j<q.length),j<k+1->Ow Ins.cells 4 ti w2 B w2.heap.size (upd V k v1 j) q[j]) /\
  (∀ i j (hi:i<q.length) (hj:j<q.length),i<k+1->j<k+1->i≠j->0<q[i].length->0<q[j].length->(upd V k v1 i).ownBlock≠(upd V k v1 j).ownBlock):=by
 have s1:=hg1.size;have s2:=hg2.size;simp only [World.size_alloc] at s1 s2;refine ⟨λj h hj=>?_,λi j hi hj hik hjk hij h1 h2=>?_⟩
 ·by_cases e:j=k
  ·subst e;rw [upd_same];exact ((hO.fr ((Fr.refl 0 0 w1).alloc o2)<|by omega).grownRow hout hne hg2).mono hB (by omega)
  rw [upd_ne _ _ e];have h0:=hI j h (by omega);have h3:=(h0.fr ((Fr.refl 0 0 wr).alloc o1) (by omega)).grown hg1 (λhn=>by
   obtain ⟨g,cur,h4,_,h5,_⟩:=h0.block hn;rw [h4];intro h6;injection h6 with h6;omega)
  exact ((h3.fr ((Fr.refl 0 0 w1).alloc o2)<|by omega).grownRow hout hne hg2).mono (LG _) (by omega)
 by_cases e:i=k
 ·subst e;rw [upd_same,upd_ne _ _ (by omega)];obtain ⟨g1,_,hg1,hl1,_⟩:=hO.block h1;obtain ⟨g2,_,hg2,_,hl2,_⟩:=(hI j hj<|by omega).block h2;rw [hg1,hg2];intro h;injection h with h;omega
 rw [upd_ne _ _ e]
 by_cases e2:j=k
 ·subst e2;rw [upd_same];obtain ⟨g1,_,hg1,hl1,_⟩:=hO.block h2;obtain ⟨g2,_,hg2,_,hl2,_⟩:=(hI i hi<|by omega).block h1;rw [hg1,hg2];intro h;injection h with h;omega
 rw [upd_ne _ _ e2];exact hD i j hi hj (by omega) (by omega) hij h1 h2
set_option maxHeartbeats 1000000 in
theorem zE {lo hi:Nat} {u:Value} {p:List (List Ins)} {w:World} (hu:nS Ins.cells 4 w lo hi u p) (hhi:hi<=w.heap.size) (hl:p.length<=1048576) (ht:total p<=1048576) :
  Calls Tryz.prog 75 #[u] w λe w'=>(∃ (A:Option Addr) (c:Nat),e = .returned (.slice A p.length c)/\m6 Ins.cells 4 66 69 w' w.heap.size w'.heap.size (.slice A p.length c) p)/\Below w.heap.size w w':=by
 obtain ⟨xs,hxs,hxl,hxr⟩:=hu;obtain ⟨A,ca,rfl,hca,hma,hA⟩:=hxs.vals;clear hxs hma;obtain ⟨i0,hi0,hz0,hz1,hz2⟩:=info_parts Tryz.infoIns;obtain ⟨j0,hj0,hy0,hy1,hy2⟩:=info_parts Tryz.infoInsS;have HX:=Lib.hid hxl;have hxle:xs.length<=1048576:=by omega
 clear hxl;have HXR:=Lib.hid hxr;clear hxr
 go_enter Tryz.func75,Tryz.ntmps75
 go_wp2_with fail
 go_loopw [3,4] (λsv i wr=>∃ (k:Nat) (V:Nat->Value) (A:Option Addr) (c:Nat),k<=xs.length/\i = .int .i64 k/\sv = .slice A k c/\Below w.heap.size w wr /\
   wr.ownsRow w.heap.size 66 1 (.slice A k c) k ((LH k).map V) /\
   (∀ j (h:j<p.length),j<k->Ow Ins.cells 4 69 wr w.heap.size wr.heap.size (V j) p[j]) /\
   (∀ i j (hi:i<p.length) (hj:j<p.length),i<k->j<k->i≠j->0<p[i].length->0<p[j].length->(V i).ownBlock≠(V j).ownBlock)) (λ_ i _=>xs.length-(intOf i).toNat)
 case atStart=>
  exact ⟨0,λ_ => .slice none 0 0,_,_,LP _,rfl,rfl,(Below.refl _ _).alloc (LG _) _,World.ownsRow_made w #[] 0 (LG _) (by simp [maxLen]) rfl,λj _ h=>absurd h (by omega),λi j _ _ h=>absurd h<|by omega⟩
 case round=>
  obtain ⟨k,V,A',c',hk,rfl,rfl,hb,hown,hin,hdj⟩:=hrel;have HI:=Lib.hid hin;clear hin;have HD:=Lib.hid hdj;clear hdj;have HOUT:=Lib.hid hown;clear hown;have hws:=hb.size
  by_cases hlt:k<xs.length
  ·obtain ⟨ba,oa,rfl,_,_,hba,hA⟩:=hA (by omega);have hp:k<p.length:=HX.out ▸ hlt;have ca1:=(hb.cell (p:=⟨ba,oa+k,none⟩) hba).trans<|hA k hlt;obtain ⟨Ak,ck,hk1,hsrc⟩:=((HXR.out k hlt hp).below hb hhi).src pK (by omega);rw [hk1] at ca1;have hr:p[k].length<=1048576:=LR (iz p k hp) ht;clear hA hk1;have i1:(0:Int)<=(k:Int):=by omega
   have i2:(k:Int)<(xs.length:Int):=by omega
   have NEW:Hid ((wr.alloc<|.cells #[] 69).ownsRow wr.heap.size 69 4 (.slice (some ⟨wr.heap.size,0,none⟩) 0 0) 0 []):=World.ownsRow_made wr #[] 0 (LG _) (by simp [maxLen]) rfl;have SRC:Hid (Src (wr.alloc<|.cells #[] 69) Ak p[k].length<|p[k].flatMap Ins.cells):=hsrc.below ((Below.refl wr.heap.size wr).alloc (LG _) _)<|LG _;clear hsrc;have ca2:(wr.alloc<|.cells #[] 69).cell? ⟨ba,oa+k,none⟩=some (.slice Ak p[k].length ck):=by
    rw [World.cell?_alloc_lt _ _ _ (World.block_lt_of_cell? wr _ ca1)];exact ca1
   clear ca1;have OUT2:Hid (∀ w1:World,(wr.alloc<|.cells #[] 69).grownBy w1 (some wr.heap.size)->∀ o,(w1.alloc o).ownsRow w.heap.size 66 1 (.slice A' k c') k<|(LH k).map V):=by
    intro w1 hg o;refine ((HOUT.out.alloc _).kept hg ?_).alloc o
    by_cases h:(Value.slice A' k c').ownBlock=some wr.heap.size
    ·have := (HOUT.out.lt _ h).2;omega
    exact .inr h
   go_wp2_with (first
    | (at_builtin;refine pX _ rfl (.tmp 13) (.tmp 17) 66 rfl wr.heap.size 69 i0 _ 4 32 Tryz.underlying66 hi0 hz0 hz1 hz2 rfl (by omega) (.slice (some ⟨wr.heap.size,0,none⟩) 0 0) rfl NEW.out Ak ck p[k] pK rfl SRC.out (xa p[k]) (by simp only [maxLen];omega) (by omega) (by simp) ?_;intro A1 c1 w1 hown1 hg1;have s1:=hg1.size;have HO1:=Lib.hid hown1;clear hown1;have HG1:=Lib.hid hg1;clear hg1)
    | (at_builtin;refine jS _ rfl (.tmp 12) (.tmp 19) 24 rfl w.heap.size 66 j0 _ 1 24 Tryz.underlying24 hj0 hy0 hy1 hy2 rfl (by omega) (.slice A' k c') k ((LH k).map V) rfl (OUT2.out w1 HG1.out _) (some ⟨w1.heap.size,0,none⟩) 1 1 [.slice A1 p[k].length c1] rfl rfl (Src.one (G5.new w1 _ _)) (by simp [Value.oneCell']) (by simp only [maxLen];omega) (by omega) (by simp at s1 ⊢;omega) (by omega) ?_;intro gg cap w2 hown2 hg2 hat2 hlt2))
   go_roundw
   case rel=>
    have CS:=BN (by decide) hb.size HI.out HD.out hp HO1.out HG1.out (OUT2.out w1 HG1.out _) hg2;have s2:=hg2.size;refine ⟨k+1,upd V k<|.slice A1 p[k].length c1,some ⟨gg,0,none⟩,cap,by omega,by go_num,rfl,?_,?_,CS.1,CS.2⟩
    ·have g1:=((Below.refl w.heap.size wr).alloc hb.size<|.cells #[] 69).grown HG1.out (by simp;omega) (λq hq=>by simp [Value.ownBlock] at hq;omega);have g2:=((hb.trans g1).alloc (by simp at s1;omega)<|.cells #[.slice A1 p[k].length c1] 66).grown hg2 (by simp at s1 ⊢;omega) (λq hq=>(HOUT.out.lt q hq).1);exact g2
    rw [sW];exact hown2
   case measure=>simp [intOf];omega
  have hkx:k=xs.length:=by omega
  go_wp2
  go_ret
  have hX:=HX.out;refine ⟨⟨A',c',by rw [<- hX,<- hkx];rfl,?_⟩,hb⟩;rw [<- hX,<- hkx];exact m6.of_row HOUT.out (by omega) (λj h=>HI.out j h<|by omega) λi j hi hj=>HD.out i j hi hj (by omega) (by omega)
theorem wy {lo hi:Nat} {u:Value} {p:List (List Ins)} {w:World} (t:Int) (b:Bool) (hu:nS Ins.cells 4 w lo hi u p) (hhi:hi<=w.heap.size) (ht:total p<=1048576) (hp:p.length<=1048576)
  (hb:(aY p&&G6 t ((p.length:Int)-1))=b) :
  Calls Tryz.prog 66 #[u,.int .i64 t] w λe w'=>e = .returned (.bool b)/\Below w.heap.size w w':=by
 subst hb;have HU:=Lib.hid hu;obtain ⟨xs,hxs,hxl,hxr⟩:=hu;obtain ⟨A,ca,rfl,hca,hma,hA⟩:=hxs.vals;clear hxs hxr hA;have HX:=Lib.hid hxl;have hxle:xs.length<=1048576:=by omega
 clear hxl;have PV:=Lib.hid<|iB (w:=w) HU.out hhi ht
 cases hv:aY p with
 | false=>
  rw [hv] at PV
  go_enter Tryz.func66,Tryz.ntmps66
  go_wp2_with (go_at_call 16;refine PV.out.mono ?_;rintro e w1 ⟨rfl,hb⟩)
  go_ret
  exact ⟨rfl,hb⟩
 | true=>
  rw [hv] at PV;have hw:(decide (0<=t)&&decide (t<=(xs.length:Int)-1))=G6 t ((p.length:Int)-1):=by rw [HX.out];rfl
  have HW:=Lib.hid hw;clear hw
  go_enter Tryz.func66,Tryz.ntmps66
  go_wp2_with (first | (go_at_call 16;refine PV.out.mono ?_;rintro e w1 ⟨rfl,hb⟩) | (go_at_call 47;refine (bZ _ _ _ _ HW.out _).mono ?_;rintro e w2 ⟨rfl,rfl⟩))
  go_ret
  exact ⟨aH (by simp),hb⟩
def qN (p:List<|List Ins) (t:Int):Bool:=aY p&&G6 t ((p.length:Int)-1)
theorem mP (p:List<|List Ins) (a:Nat) (h:a<p.length):p.getD a []=p[a]:=by simp [h]
theorem m6.openRow {to ti:TypeId} {w:World} {lo hi:Nat} {v:Value} {p:List (List Ins)} (hne:ti≠to) (h:m6 Ins.cells 4 to ti w lo hi v p) (t:Nat) (ht:t<p.length) (hn:0<p[t].length) :
  ∃ (go co gt ct:Nat) (cur:Array Value),v = .slice (some ⟨go,0,none⟩) p.length co/\lo<=go/\go<hi/\go<w.heap.size/\go≠gt/\lo<=gt/\gt<hi/\w.cell? ⟨go,t,none⟩=some (.slice (some ⟨gt,0,none⟩) p[t].length ct) /\
   G5 w gt ti cur/\cur.size=ct*4/\p[t].length<=ct/\(∀ k (h:k<p[t].length),gG cur (k*4) p[t][k]) /\
   ∀ (w':World) (cur':Array Value) (xs:List Ins),(∀ k,k≠gt->w'.heap[k]? = w.heap[k]?)->G5 w' gt ti cur'->cur'.size=cur.size->xs.length=p[t].length->(∀ k (h:k<xs.length),gG cur' (k*4) xs[k]) ->
    m6 Ins.cells 4 to ti w' lo hi v (p.set t xs):=by
 obtain ⟨vs,ho,hl,hrow,hsep⟩:=h;obtain ⟨A,co,rfl,hco,hmo,hx⟩:=ho;obtain ⟨go,curo,rfl,hg1,hg2,hBo,hszo,hcells⟩:=hx (by omega);obtain ⟨At,ct,hvt,hct,hmt,hxt⟩:=hrow t (by omega) ht;obtain ⟨gt,cur,rfl,hg3,hg4,hBt,hszt,hcur⟩:=hxt hn;have hgg:go≠gt:=by
  intro e;subst e;exact hne (hBt.inj hBo).1
 refine ⟨go,co,gt,ct,cur,by rw [hl],hg1,hg2,hBo.lt,hgg,hg3,hg4,?_,hBt,hszt,hct,λk hk => .of_cells<|hcur k hk,?_⟩
 ·rw [hBo.cell];have := hcells t (by omega) 0 vs[t] (by simp [Cf]);rw [hvt] at this;simpa using this
 intro w' cur' xs hfr hB' hsz' hxl hhas;refine ⟨vs,⟨_,co,rfl,hco,hmo,λ_=>⟨go,curo,rfl,hg1,hg2,(hfr go hgg).trans hBo,hszo,hcells⟩⟩,by simp [hl],λk hk hk' => ?_,λi j hi hj hi' hj' hij h1 h2=>?_⟩
 ·by_cases e:k=t
  ·subst e;rw [hvt];simp only [List.getElem_set_self];exact ⟨_,ct,by rw [hxl],by omega,hmt,λ_=>⟨gt,cur',rfl,hg3,hg4,hB',by omega,λq hq=>(hhas q hq).cells⟩⟩
  have hkp:k<p.length:=by simpa using hk'
  have hget:(p.set t xs)[k]=p[k]:=by simp [Ne.symm e]
  rw [hget];obtain ⟨Ak,ck,hvk,hck,hmk,hxk⟩:=hrow k hk hkp;refine ⟨Ak,ck,hvk,hck,hmk,λhn' => ?_⟩;obtain ⟨gk,curk,rfl,h3,h4,hBk,hszk,hcurk⟩:=hxk hn';have hs:=hsep k t hk (by omega) hkp ht e hn' hn;rw [hvk,hvt] at hs;refine ⟨gk,curk,rfl,h3,h4,(hfr gk ?_).trans hBk,hszk,hcurk⟩;intro e2;subst e2;exact hs rfl
 have hip:i<p.length:=by simpa using hi'
 have hjp:j<p.length:=by simpa using hj'
 refine hsep i j hi hj hip hjp hij ?_ ?_
 ·by_cases e:i=t
  ·subst e;exact hn
  simpa [Ne.symm e] using h1
 by_cases e:j=t
 ·subst e;exact hn
 simpa [Ne.symm e] using h2
def setInsW (w:World) (g o:Nat) (x:Ins):World:=(((w.setCell ⟨g,o,none⟩<|.int .i64 x.op).setCell ⟨g,o+1,none⟩<|.int .i64 x.loc).setCell ⟨g,o+2,none⟩<|.int .i64 x.reg).setCell ⟨g,o+3,none⟩<|.int .i64 x.val
theorem G5.setInsW {w:World} {g o:Nat} {t:TypeId} {cs:Array Value} (h:G5 w g t cs) (x:Ins):G5 (setInsW w g o x) g t (iO cs o x):=(((h.set_ _ _).set_ _ _).set_ _ _).set_ _ _
theorem j3 (w:World) (g o:Nat) (x:Ins):(setInsW w g o x).heap.size=w.heap.size:=by simp [setInsW,World.setCell]
theorem iE (w:World) (g o:Nat) (x:Ins) (k:Nat) (hk:k≠g):(setInsW w g o x).heap[k]? = w.heap[k]? := by
 unfold setInsW;rw [Below.heap_setCell _ _ _ _ (by exact hk),Below.heap_setCell _ _ _ _ (by exact hk),Below.heap_setCell _ _ _ _ (by exact hk),Below.heap_setCell _ _ _ _ (by exact hk)]
theorem jb {B:Nat} {a w:World} (h:Below B a w) {g o:Nat} (hg:B<=g) (x:Ins):Below B a (setInsW w g o x):=(((h.setCell hg _).setCell hg _).setCell hg _).setCell hg _
def setInsW2 (w:World) (g o1 o2:Nat) (y x:Ins):World:=(setInsW (setInsW w g o1 y) g o2 x).drew
theorem heap_drew (w:World):w.drew.heap=w.heap:=rfl
theorem uW (w:World) (g o1 o2:Nat) (y x:Ins):(setInsW2 w g o1 o2 y x).heap.size=w.heap.size:=by
 unfold setInsW2;rw [heap_drew,j3,j3]
theorem uX (w:World) (g o1 o2:Nat) (y x:Ins) (k:Nat) (hk:k≠g):(setInsW2 w g o1 o2 y x).heap[k]? = w.heap[k]? := by
 unfold setInsW2;rw [heap_drew,iE _ _ _ _ _ hk,iE _ _ _ _ _ hk]
theorem G5.setInsW2 {w:World} {g o1 o2:Nat} {t:TypeId} {cs:Array Value} (h:G5 w g t cs) (y x:Ins):G5 (setInsW2 w g o1 o2 y x) g t (iO (iO cs o1 y) o2 x):=((h.setInsW y).setInsW x).drew
theorem sZ {B:Nat} {a w:World} (h:Below B a w) {g o1 o2:Nat} (hg:B<=g) (y x:Ins):Below B a (setInsW2 w g o1 o2 y x):=(jb (jb h hg y) hg x).drew
theorem uo {xs:List Ins} {cur:Array Value} {b:Nat} (hb:b+1<xs.length) (hs:xs.length*4<=cur.size) (h:∀ k (hk:k<xs.length),gG cur (k*4) xs[k]) (ys:List Ins) (hl:ys.length=xs.length)
  (h1:∀ h:b<ys.length,ys[b]=xs[b+1]) (h2:∀ h:b+1<ys.length,ys[b+1]=xs[b]) (h3:∀ k (h:k<ys.length) (h':k<xs.length),k≠b->k≠b+1->ys[k]=xs[k]) :
  ∀ k (hk:k<ys.length),gG (iO (iO cur (b*4) xs[b+1]) ((b+1)*4) xs[b]) (k*4) ys[k]:=by
 intro k hk
 by_cases e:k=b+1
 ·subst e;rw [h2];exact gG.same (by rw [jk];omega)
 by_cases e2:k=b
 ·subst e2;rw [h1];exact (gG.same<|by omega).far (by omega)
 rw [h3 k hk (by omega) e2 e];exact ((h k<|by omega).far<|by omega).far (by omega)
def nbB (p:List<|List Ins) (t i:Int):Bool:=qN p t&&G6 i (((p.getD t.toNat []).length:Int)-2)
theorem lm {lo hi:Nat} {u:Value} {p:List (List Ins)} {w:World} (t i:Int) (b:Bool) (hu:nS Ins.cells 4 w lo hi u p) (hhi:hi<=w.heap.size) (ht:total p<=1048576) (hp:p.length<=1048576)
  (hb:nbB p t i=b) :
  Calls Tryz.prog 77 #[u,.int .i64 t,.int .i64 i] w λe w'=>e = .returned (.bool b)/\Below w.heap.size w w':=by
 subst hb;have HU:=Lib.hid hu;obtain ⟨xs,hxs,hxl,hxr⟩:=hu;obtain ⟨A,ca,rfl,hca,hma,hA⟩:=hxs.vals;clear hxs;have HX:=Lib.hid hxl;have hxle:xs.length<=1048576:=by omega
 clear hxl;have HXR:=Lib.hid hxr;clear hxr;have HAA:=Lib.hid hA;clear hA;have IT:=Lib.hid<|wy (w:=w) t (qN p t) HU.out hhi ht hp rfl;unfold nbB
 by_cases hv:qN p t=true
 ·rw [hv] at IT ⊢;have h1:=hv;simp only [qN,G6,bae,dte] at h1;obtain ⟨_,h10,h11⟩:=h1;obtain ⟨a,rfl⟩:=LU h10;simp only [tnn] at *;have ha:a<p.length:=by omega
  have hax:a<xs.length:=by rw [HX.out];exact ha
  rw [mP p a ha];obtain ⟨ba,oa,rfl,_,_,hba,hA⟩:=HAA.out (by omega);have ca1:=hA a hax;obtain ⟨Ak,ck,hk1,hck,hmk,-⟩:=HXR.out a hax ha;rw [hk1] at ca1;clear hA hk1 hv;have hr:p[a].length<=1048576:=LR (iz p a ha) ht;generalize p[a].length=n at *;have hw:(decide (0<=i)&&decide (i<=(n:Int)-2))=G6 i ((n:Int)-2):=rfl;have HW:=Lib.hid hw;clear hw;have a0:(0:Int)<=(a:Int):=by omega
  have a1:(a:Int)<(xs.length:Int):=by omega
  go_enter Tryz.func77,Tryz.ntmps77
  go_wp2_with (first | (go_at_call 66;refine IT.out.mono ?_;rintro e w1 ⟨rfl,hb⟩;replace ca1:=(hb.cell (p:=⟨ba,oa+a,none⟩) hba).trans ca1) | (go_at_call 47;refine (bZ _ _ _ _ HW.out _).mono ?_;rintro e w2 ⟨rfl,rfl⟩))
  go_ret
  exact ⟨aH (by simp),hb⟩
 have hv':qN p t=false:=by simpa using hv
 rw [hv'] at IT ⊢;clear hv hv'
 go_enter Tryz.func77,Tryz.ntmps77
 go_wp2_with (go_at_call 66;refine IT.out.mono ?_;rintro e w1 ⟨rfl,hb⟩)
 go_ret
 exact ⟨rfl,hb⟩
def eQ (xs:List Ins) (i:Nat):List Ins:=(xs.set i<|xs.getD (i+1) default).set (i+1)<|xs.getD i default
def gZ (p:List<|List Ins) (t i:Nat):List (List Ins):=p.set t<|eQ (p.getD t []) i
def bI (p:List<|List Ins) (t i:Int):List (List Ins)×Bool:=if nbB p t i=true then (gZ p t.toNat i.toNat,true) else ([],false)
theorem ez (xs:List Ins) (i:Nat):(eQ xs i).length=xs.length:=by simp [eQ]
theorem nI (xs:List Ins) (b:Nat) (hb:b+1<xs.length) (h:b<(eQ xs b).length):(eQ xs b)[b]=xs[b+1]:=by simp [eQ,hb]
theorem nJ (xs:List Ins) (b:Nat) (hb:b+1<xs.length) (h:b+1<(eQ xs b).length):(eQ xs b)[b+1]=xs[b]:=by simp [eQ,show b<xs.length by omega]
theorem nK (xs:List Ins) (b k:Nat) (h:k<(eQ xs b).length) (h':k<xs.length) (h1:k≠b) (h2:k≠b+1):(eQ xs b)[k]=xs[k]:=by simp [eQ,Ne.symm h1,Ne.symm h2]
theorem uY {p:List (List Ins)} {t i:Int} (h:nbB p t i=true):∃ (a b:Nat) (ha:a<p.length),t=a/\i=b/\b+1<p[a].length:=by
 simp only [nbB,qN,G6,bae,dte] at h;obtain ⟨⟨_,h1,h2⟩,h3,h4⟩:=h;obtain ⟨a,rfl⟩:=LU h1;obtain ⟨b,rfl⟩:=LU h3;have ha:a<p.length:=by omega
 simp only [tnn] at h4;rw [mP p a ha] at h4;exact ⟨a,b,ha,rfl,rfl,by omega⟩
set_option maxHeartbeats 1000000 in
theorem l9 {lo hi:Nat} {u:Value} {p:List (List Ins)} {w:World} (t i:Int) (hu:nS Ins.cells 4 w lo hi u p) (hhi:hi<=w.heap.size) (ht:total p<=1048576) (hp:p.length<=1048576) :
  Calls Tryz.prog 32 #[u,.int .i64 t,.int .i64 i] w λe w'=>(∃ v,e = .returned (.tuple #[v,.bool (bI p t i).2])/\m6 Ins.cells 4 66 69 w' w.heap.size w'.heap.size v (bI p t i).1)/\Below w.heap.size w w':=by
 have HU:=Lib.hid hu;clear hu
 by_cases h1:nbB p t i=true
 ·obtain ⟨a,b,ha,rfl,rfl,hab⟩:=uY h1;have hr:bI p a b=(gZ p a b,true):=by unfold bI;rw [h1];rfl
  rw [hr];have AN:=Lib.hid<|lm (w:=w) a b true HU.out hhi ht hp h1;clear h1 hr;have hrl:p[a].length<=1048576:=LR (iz p a ha) ht
  go_enter Tryz.func32,Tryz.ntmps32
  go_wp2_with fail
  refine AN.out.mono ?_;rintro e w1 ⟨rfl,hb1⟩;have s1:=hb1.size
  go_wp2_with fail
  refine (qq (HU.out.below hb1 hhi) (by omega) hp ht).mono ?_;rintro e w3 ⟨⟨g,cs,V,rfl,hB,hg,hcs,hrow,hsep⟩,hb3⟩;have hM:=m6.made2 (f:=Ins.cells) (s:=4) (ti:=69) (p:=p) (c:=p.length) hB (lo:=w1.heap.size) (hi:=w3.heap.size) ⟨hg,hB.lt⟩ hcs (LG _) (by omega) hrow hsep;obtain ⟨go,co,gt,ct,cur,he,hl1,hl2,hl3,hgg,hg1,hg2,hcell,hBt,hsz,hct,hhas,hset⟩:=hM.openRow (by decide) a ha (by omega);injection he with he1 he2 he3;injection he1 with he1;injection he1 with he1;subst he1 he3;have HSET:=Lib.hid hset;clear hset;have HROW:=Lib.hid hrow;clear hrow;have HSEP:=Lib.hid hsep;clear hsep;have HM:=Lib.hid hM;clear hM;have hx:=hhas b (by omega);have hy:=hhas (b+1) hab;generalize hxx:p[a][b]=x at *;generalize hyy:p[a][b+1]=y at *;have HXX:=Lib.hid hxx;clear hxx;have HYY:=Lib.hid hyy;clear hyy;have IX:=hBt.ins hx;have IY:=hBt.ins hy;obtain ⟨x0,x1,x2,x3⟩:=IX;obtain ⟨y0,y1,y2,y3⟩:=IY;have HHAS:=Lib.hid hhas;clear hhas;have HX:=Lib.hid hx;clear hx;have HY:=Lib.hid hy;clear hy;have FZ:=λk=>hBt.frozen k;have HBT:=Lib.hid hBt;clear hBt;have HB:=Lib.hid hB;clear hB;have HCS:=Lib.hid hcs;clear hcs;have HSZ:=Lib.hid hsz;clear hsz;have i1:(0:Int)<=(a:Int):=by omega
  have i2:(a:Int)<(p.length:Int):=by omega
  have i3:(0:Int)<=(b:Int):=by omega
  have i4:(b:Int)<(p[a].length:Int):=by omega
  have i5:(0:Int)<=(b:Int)+1:=by omega
  have i6:(b:Int)+1<(p[a].length:Int):=by omega
  go_wp2_with fail
  go_region
  go_wp2_with fail
  go_ret2
  have g2:Below w.heap.size w w3:=hb1.trans<|hb3.mono s1;have hF:m6 Ins.cells 4 66 69 (setInsW2 w3 gt (b*4) ((b+1)*4) y x) w1.heap.size w3.heap.size (.slice (some ⟨g,0,none⟩) p.length p.length) (p.set a<|eQ p[a] b):=by
   refine HSET.out _ (iO (iO cur (b*4) y) ((b+1)*4) x) _ (λk hk=>uX _ _ _ _ _ _ k hk) (HBT.out.setInsW2 y x) (by rw [jk,jk]) (ez _ _) ?_;rw [<- HXX.out,<- HYY.out];exact uo hab (by rw [HSZ.out];omega) HHAS.out _ (ez _ _) (λh=>nI _ _ hab h) (λh=>nJ _ _ hab h) (λk h h' h1 h2=>nK _ _ _ h h' h1 h2)
  have hfin:=hF.mono s1<|Nat.le_of_eq (uW w3 gt (b*4) ((b+1)*4) y x).symm;have hbel:=sZ (o1:=b*4) (o2:=(b+1)*4) g2 (show w.heap.size<=gt by omega) y x;unfold gZ;rw [mP p a ha];unfold setInsW2 setInsW at hfin hbel;exact ⟨⟨_,rfl,hfin⟩,hbel⟩
 have hr:bI p t i=([],false):=by unfold bI;simp [h1]
 rw [hr];have h1':nbB p t i=false:=by simpa using h1
 have AN:=Lib.hid<|lm (w:=w) t i false HU.out hhi ht hp h1';clear h1 h1' hr
 go_enter Tryz.func32,Tryz.ntmps32
 go_wp2_with fail
 refine AN.out.mono ?_;rintro e w1 ⟨rfl,hb1⟩
 go_wp2_with fail
 go_ret2
 exact ⟨⟨_,rfl,m6.qO _ _<|by omega⟩,hb1⟩
theorem BO (p:List<|List Ins) (t:Int):(aY p=false/\qN p t=false)\/(aY p=true/\G6 t ((p.length:Int)-1)=false/\qN p t=false)\/(aY p=true/\G6 t ((p.length:Int)-1)=true/\qN p t=true/\∃ a:Nat,t=a/\a<p.length):=by
 unfold qN
 cases h:aY p with
 | false=>exact .inl ⟨rfl,rfl⟩
 | true=>
  cases h2:G6 t ((p.length:Int)-1) with
  | false=>exact .inr (.inl ⟨rfl,rfl,rfl⟩)
  | true=>
   refine .inr<|.inr ⟨rfl,rfl,rfl,?_⟩;simp only [G6,bae,dte] at h2;obtain ⟨a,rfl⟩:=LU h2.1;exact ⟨a,rfl,by omega⟩
set_option maxHeartbeats 2000000 in
theorem ma {lo hi:Nat} {u:Value} {p:List (List Ins)} {w:World} (t i:Int) (hu:nS Ins.cells 4 w lo hi u p) (hhi:hi<=w.heap.size) (ht:total p<=1048576) (hp:p.length<=1048576) :
  Calls Tryz.prog 33 #[u,.int .i64 t,.int .i64 i] w λe w'=>(∃ v,e = .returned (.tuple #[v,.bool (bI p t i).2])/\m6 Ins.cells 4 66 69 w' w.heap.size w'.heap.size v (bI p t i).1)/\Below w.heap.size w w':=by
 have HU:=Lib.hid hu;obtain ⟨xs,hxs,hxl,hxr⟩:=hu;obtain ⟨A,ca,rfl,hca,hma,hA⟩:=hxs.vals;clear hxs hma;have HX:=Lib.hid hxl;have hxle:xs.length<=1048576:=by omega
 clear hxl;have HXR:=Lib.hid hxr;clear hxr;have HAA:=Lib.hid hA;clear hA;have PV:=Lib.hid<|iA (w:=w) HU.out hhi ht;have hl1:(decide (0<=t)&&decide (t<=(xs.length:Int)-1))=G6 t ((p.length:Int)-1):=by rw [HX.out];rfl
 rcases BO p t with ⟨hv,h1⟩ | ⟨hv,h2,h1⟩ | ⟨hv,h2,h1,a,rfl,ha⟩
 ·have hr:bI p t i=([],false):=by unfold bI nbB;rw [h1];rfl
  rw [hr];rw [hv] at PV;clear hv hr h1 hl1
  go_enter Tryz.func33,Tryz.ntmps33
  go_wp2_with fail
  refine PV.out.mono ?_;rintro e w1 ⟨rfl,hb1⟩
  go_wp2_with fail
  go_ret2
  exact ⟨⟨_,rfl,m6.qO _ _<|by omega⟩,hb1.alloc hb1.size _⟩
 ·have hr:bI p t i=([],false):=by unfold bI nbB;rw [h1];rfl
  rw [hr];rw [hv] at PV;rw [h2] at hl1;have L1:=Lib.hid hl1;clear hv hr h1 h2 hl1
  go_enter Tryz.func33,Tryz.ntmps33
  go_wp2_with fail
  refine PV.out.mono ?_;rintro e w1 ⟨rfl,hb1⟩
  go_wp2_with fail
  refine (gH _ _ false L1.out _).mono ?_;rintro e w2 ⟨rfl,rfl⟩
  go_wp2_with fail
  go_ret2
  exact ⟨⟨_,rfl,m6.qO _ _<|by omega⟩,hb1.alloc hb1.size _⟩
 rw [hv] at PV;rw [h2] at hl1;have L1:=Lib.hid hl1;have H1:=Lib.hid h1;clear hv h1 h2 hl1;have hax:a<xs.length:=by rw [HX.out];exact ha
 obtain ⟨ba,oa,rfl,_,_,hba,hA⟩:=HAA.out (by omega);have ca1:=hA a hax;obtain ⟨Ak,ck,hk1,hck,hmk,hAk⟩:=(HXR.out a hax ha).inss;rw [hk1] at ca1;clear hA hk1;have HAK:=Lib.hid hAk;clear hAk;have hr:p[a].length<=1048576:=LR (iz p a ha) ht;have a0:(0:Int)<=(a:Int):=by omega
 have a1:(a:Int)<(xs.length:Int):=by omega
 have a2:(a:Int)<(p.length:Int):=by omega
 by_cases c1:i<0
 ·have hr:bI p a i=([],false):=by
   unfold bI nbB;rw [H1.out,if_neg (by simp [G6];omega)]
  rw [hr];clear hr
  go_enter Tryz.func33,Tryz.ntmps33
  go_wp2_with fail
  refine PV.out.mono ?_;rintro e w1 ⟨rfl,hb1⟩
  go_wp2_with fail
  refine (gH _ _ true L1.out _).mono ?_;rintro e w2 ⟨rfl,rfl⟩;have cb1:=(hb1.cell (p:=⟨ba,oa+a,none⟩) hba).trans ca1;have s1:=hb1.size
  go_wp2_with fail
  go_ret2
  exact ⟨⟨_,rfl,m6.qO _ _<|by omega⟩,hb1.alloc hb1.size _⟩
 obtain ⟨b,rfl⟩:=LU (show 0<=i by omega)
 by_cases c2:(b:Int)>=(p[a].length:Int)-1
 ·have hr:bI p a b=([],false):=by
   unfold bI nbB;simp only [tnn];rw [H1.out,mP p a ha,if_neg (by simp [G6];omega)]
  rw [hr];clear hr
  go_enter Tryz.func33,Tryz.ntmps33
  go_wp2_with fail
  refine PV.out.mono ?_;rintro e w1 ⟨rfl,hb1⟩
  go_wp2_with fail
  refine (gH _ _ true L1.out _).mono ?_;rintro e w2 ⟨rfl,rfl⟩;have cb1:=(hb1.cell (p:=⟨ba,oa+a,none⟩) hba).trans ca1;have s1:=hb1.size
  go_wp2_with fail
  go_ret2
  exact ⟨⟨_,rfl,m6.qO _ _<|by omega⟩,hb1.alloc hb1.size _⟩
 have hnb:nbB p a b=true:=by
  unfold nbB;simp only [tnn];rw [H1.out,mP p a ha];simp [G6];omega
 have hr:bI p a b=(gZ p a b,true):=by unfold bI;rw [hnb];rfl
 rw [hr];clear hr hnb
 go_enter Tryz.func33,Tryz.ntmps33
 go_wp2_with fail
 refine PV.out.mono ?_;rintro e w1 ⟨rfl,hb1⟩
 go_wp2_with fail
 refine (gH _ _ true L1.out _).mono ?_;rintro e w2 ⟨rfl,rfl⟩;have cb1:=(hb1.cell (p:=⟨ba,oa+a,none⟩) hba).trans ca1;have s1:=hb1.size;have hab:b+1<p[a].length:=by omega
 go_wp2_with fail
 refine (zE (HU.out.below hb1 hhi) (by omega) hp ht).mono ?_;rintro e w3 ⟨⟨A0,c0,rfl,hM⟩,hb3⟩;obtain ⟨go,co,gt,ct,cur,he,hl1,hl2,hl3,hgg,hg1,hg2,hcell,hBt,hsz,hct,hhas,hset⟩:=hM.openRow (by decide) a ha (by omega);injection he with he1 he2 he3;subst he1 he3;have HSET:=Lib.hid hset;clear hset;have HM:=Lib.hid hM;clear hM;have s3:=hb3.size;obtain ⟨bp,op,rfl,_,_,hbp,hAp⟩:=HAK.out (by omega);have hx:=hAp b (by omega);have hy:=hAp (b+1) hab;clear hAp;generalize hxx:p[a][b]=x at *;generalize hyy:p[a][b+1]=y at *;have HXX:=Lib.hid hxx;clear hxx;have HYY:=Lib.hid hyy;clear hyy;have hb13:=hb1.trans<|hb3.mono s1;have hx3:=hx.below hb13 hbp;have hy3:=hy.below hb13 hbp;have IX:=Lib.hid hx;clear hx;have HX3:=Lib.hid hx3;clear hx3;obtain ⟨y0,y1,y2,y3⟩:=hy3;clear hy;have cc1:=(hb3.cell (p:=⟨ba,oa+a,none⟩)<|by simp;omega).trans cb1;clear cb1 ca1;have T1:=hBt.ins<|hhas b (by omega);rw [HXX.out] at T1;obtain ⟨z0,z1,z2,z3⟩:=T1;have hHY:gG cur ((b+1)*4) y:=by rw [<- HYY.out];exact hhas (b+1) hab
 have HHAS:=Lib.hid hhas;clear hhas;have FZ:=λk=>hBt.frozen k;have HBT:=Lib.hid hBt;clear hBt;have HSZ:=Lib.hid hsz;clear hsz;have d1:bp≠gt:=by omega
 have d2:ba≠gt:=by omega
 have i3:(0:Int)<=(b:Int):=by omega
 have i4:(b:Int)<(p[a].length:Int):=by omega
 have i5:(0:Int)<=(b:Int)+1:=by omega
 have i6:(b:Int)+1<(p[a].length:Int):=by omega
 go_wp2_with fail
 go_region
 obtain ⟨w4,hw4⟩:∃ w4,w4=(setInsW w3 gt (b*4) y).drew:=⟨_,rfl⟩;have B4:G5 w4 gt 69 (iO cur (b*4) y):=by rw [hw4];exact (HBT.out.setInsW y).drew
 have L4:Below w1.heap.size w3 w4:=by rw [hw4];exact (jb ((Below.refl _ _).mono s3) hg1 y).drew
 have cd1:=(L4.cell (p:=⟨ba,oa+a,none⟩)<|by simp;omega).trans cc1;have X4:=HX3.out.below L4 (by omega);have hcell4:w4.cell? ⟨go,a,none⟩=some (.slice (some ⟨gt,0,none⟩) p[a].length ct):=by
  rw [<- hcell];refine World.cell?_of_block ?_;rw [hw4,heap_drew];exact iE _ _ _ _ _ hgg
 have T2':vQ w4 gt ((b+1)*4) y:=B4.ins<|(hHY).far (by omega);have FZ4:=λk=>B4.frozen k;have HB4:=Lib.hid B4;clear B4;have HL4:=Lib.hid L4;clear L4;have HW4:=Lib.hid hw4;unfold setInsW at hw4;rw [<- hw4];clear hw4 FZ cc1 hcell y0 y1 y2 y3 z0 z1 z2 z3;obtain ⟨v0,v1,v2,v3⟩:=X4;obtain ⟨z0,z1,z2,z3⟩:=T2'
 go_wp2_with fail
 go_region
 go_wp2_with fail
 go_ret2
 have hB5:G5 (setInsW w4 gt ((b+1)*4) x).drew gt 69 (iO (iO cur (b*4) y) ((b+1)*4) x):=(HB4.out.setInsW x).drew;have hfr:∀ k,k≠gt->(setInsW w4 gt ((b+1)*4) x).drew.heap[k]? = w3.heap[k]? := by
  intro k hk;rw [heap_drew,iE _ _ _ _ _ hk,HW4.out,heap_drew,iE _ _ _ _ _ hk]
 have hsz:(setInsW w4 gt ((b+1)*4) x).drew.heap.size=w3.heap.size:=by rw [heap_drew,j3,HW4.out,heap_drew,j3]
 have hF:=HSET.out _ _ (eQ p[a] b) hfr hB5 (by rw [jk,jk]) (ez _ _) (by
  rw [<- HXX.out,<- HYY.out];exact uo hab (by rw [HSZ.out];omega) HHAS.out _ (ez _ _) (λh=>nI _ _ hab h) (λh=>nJ _ _ hab h) (λk h h' h1 h2=>nK _ _ _ h h' h1 h2))
 have hfin:=hF.mono s1<|Nat.le_of_eq hsz.symm;have hbel:=(jb (o:=(b+1)*4) (hb13.trans<|HL4.out.mono s1) (show w.heap.size<=gt by omega) x).drew;unfold gZ;rw [mP p a ha];unfold setInsW at hfin hbel;exact ⟨⟨_,rfl,hfin⟩,hbel⟩
section
variable {w:World} {g:Nat} {t:TypeId} {cs:Array Value}
end


theorem xB {α β:Type} (p:List α) (t:Nat) (x d:α) (g:α->β) (h:g x=g (p.getD t d)):(p.set t x).map g=p.map g:=by
 refine List.ext_getElem (by simp) λk h1 h2=>?_;rw [LK,LK,List.getElem_set]
 split
 ·rename_i e;subst e;have hk:t<p.length:=by simpa using h2
  rw [h];simp [hk]
 rfl
theorem BP {p:List (List Ins)} {t:Nat} {r:List Ins} (hr:r.Perm<|p.getD t []):aY (p.set t r)=aY p:=by
 have hc:∀ f,kz f (p.set t r)=kz f p:=λf=>by
  unfold kz;rw [xB p t r [] (List.countP f) (hr.countP_eq f)]
 have ho:rowOk r=rowOk (p.getD t []):=by
  unfold rowOk;rw [hr.length_eq]
  congr 1
  rw [Bool.eq_iff_iff,LN,LN];exact ⟨λh x hx=>h x<|hr.mem_iff.2 hx,λh x hx=>h x<|hr.mem_iff.1 hx⟩
 have ha:(p.set t r).all rowOk=p.all rowOk:=by
  have e:∀ l:List (List Ins),l.all rowOk=(l.map rowOk).all id:=λl=>by rw [List.all_map];rfl
  rw [e,e,xB p t r [] rowOk ho]
 have he:jT (p.set t r)=jT p:=by
  unfold jT;simp only [pT,Gp,cw,cr,hc]
 have hn:=hc mS;unfold aY jV;rw [ha,hn,he,List.length_set]
theorem wz {xs:List Ins} {b:Nat} (h:b+1<xs.length):(eQ xs b).Perm xs:=by
 have e1:xs.getD (b+1) default=xs[b+1]:=by simp [h]
 have e2:xs.getD b default=xs[b]:=by simp [show b<xs.length by omega]
 unfold eQ;rw [e1,e2];exact List.set_set_perm (by omega) h
theorem xC {p:List (List Ins)} {a b:Nat} (ha:a<p.length) (h:b+1<p[a].length):aY (gZ p a b)=aY p:=by
 have e1:p.getD a []=p[a]:=by simp [ha]
 unfold gZ;exact BP (by rw [e1];exact wz h)
theorem zF {p:List (List Ins)} {a b:Nat} (ha:a<p.length):(gZ p a b).map List.length=p.map List.length:=by
 unfold gZ;exact xB p a _ [] List.length (by rw [ez])
theorem Eu (p:List<|List Ins):toP (ofP p)=p:=by
 simp only [toP,ofP,Ma];have : (List.map f8 ∘ List.map sV)=(id:List Ins->List Ins):=by
  funext l
  simp only [Function.comp,Ma];have : (f8 ∘ sV)=(id:Ins->Ins):=rfl;rw [this,LQ,id]
 show List.map ((λr=>List.map f8 r) ∘ λr=>List.map sV r) p=p;rw [show ((λr=>List.map f8 r) ∘ λr=>List.map sV r)=(id:List Ins->List Ins) from this,LQ]
theorem Ev (p:List<|List GY):ofP (toP p)=p:=by
 simp only [toP,ofP,Ma];have : ((λr=>List.map sV r) ∘ λr=>List.map f8 r)=(id:List GY->List GY):=by
  funext l
  simp only [Function.comp,Ma];have : (sV ∘ f8)=(id:GY->GY):=rfl;rw [this,LQ,id]
 rw [this,LQ]
theorem Da (p:List<|List Ins):(ofP p).map List.length=p.map List.length:=by simp [ofP,Mh]
theorem Db (p:List<|List GY):(toP p).map List.length=p.map List.length:=by simp [toP,Mh]
theorem FC {k:Int} {r:aa} (h:Rd k r) (hk:k<=100000000) (l:List ByteArray) (hl:l≠[]):G7 (gI r l) λv=>Rd (k+1) v.1/\v.2∈l:=by
 have hpos:0<l.length:=List.length_pos_iff.2 hl;unfold gI;refine (fS h.mk' hk _).bind λv ⟨h1,h2,h3⟩ => ?_;refine .gdD ⟨h2,by omega⟩<|.pure ⟨h1,?_⟩;have : v.2.toNat<l.length:=by omega
 rw [gdq,geq this];exact LO _
section
variable {P:Nat->List GY} {d:Bool} {cl:Int->Int}
def Aft (cl:Int->Int) (x y:GY):Prop:=pQ x=true/\(y.Op=1/\x.Loc≠y.Loc /\ ¬ (x.Op=3/\x.Reg=y.Reg)\/pQ y=true/\cl x.Loc≠cl y.Loc)
theorem Dc {x y:GY} (h:Aft cl x y) (a:TS) (t:Nat):G8 false cl (G8 false cl a t x) t y=G8 false cl (G8 false cl a t y) t x:=by
 obtain ⟨hx,h⟩:=h;obtain ⟨x1,x2,x3,x4⟩:=uT hx;have x5:(x.Op==5)=false:=by simpa using x4
 rcases h with ⟨h1,h2,h3⟩ | ⟨h1,h2⟩
 ·have y1:rdX y=true:=by unfold rdX;rw [h1];rfl
  have y2:wrX y=false:=by unfold wrX;rw [h1];rfl
  have y3:pQ y=false:=by unfold pQ;rw [h1];rfl
  have hv:mU (G8 false cl a t y) t x=mU a t x:=by
   unfold mU
   split
   ·rename_i h;simp only [G8,y1,if_true,cH];rw [gz];exact λe=>h3 ⟨h,e⟩
   rfl
  have hs:jv cl (G8 false cl a t x) t y.Loc=jv cl a t y.Loc:=by
   unfold jv;simp only [G8,hx,x2,x5,LV,LW,Bool.or_self,Bool.and_false,if_true,cH,Bool.false_eq_true,if_false];unfold ud
   split
   ·rename_i e;rw [xk,if_neg h2,e]
   rfl
  refine TS.ext ?_ ?_ ?_ ?_
  ·simp [G8]
  ·rw [yw _ _ (G8 false cl a t x),hs];simp [G8,x1,y1]
  ·simp [G8,y2,x5,x2]
  rw [m7 _ _ (G8 false cl a t y),hv];simp [G8,hx,y3]
 obtain ⟨y1,y2,y3,y4⟩:=uT h1;have y5:(y.Op==5)=false:=by simpa using y4
 have v1:mU (G8 false cl a t y) t x=mU a t x:=by unfold mU G8;simp [y1]
 have v2:mU (G8 false cl a t x) t y=mU a t y:=by unfold mU G8;simp [x1]
 refine TS.ext ?_ ?_ ?_ ?_
 ·simp [G8]
 ·simp [G8,x1,y1]
 ·simp [G8,x5,y5]
 rw [m7 _ _ (G8 false cl a t y),m7 _ _ (G8 false cl a t x),v1,v2];simp only [G8,hx,h1,LV,LW,if_true,cH,ui];rw [gz h2,gz λe=>h2 e.symm,nC _ _ _ h2]
theorem BQ {x z:GY} (hx:pQ x=true) (a:TS) {t u:Nat} (h:u≠t):G8 false cl (G8 false cl a t x) u z=G8 false cl (G8 false cl a u z) t x:=by
 obtain ⟨x1,x2,x3,x4⟩:=uT hx;have x5:(x.Op==5)=false:=by simpa using x4
 have v1:mU (G8 false cl a u z) t x=mU a t x:=by
  unfold mU G8;simp only []
  split
  ·split
   ·rw [gz λe=>h e.symm]
   rfl
  rfl
 have v2:mU (G8 false cl a t x) u z=mU a u z:=by unfold mU G8;simp [x1]
 have s2:jv cl (G8 false cl a t x) u z.Loc=jv cl a u z.Loc:=by
  unfold jv;simp [G8,hx,x5,gz h]
 refine TS.ext ?_ ?_ ?_ ?_
 ·simp only [G8];rw [gz h,gz λe=>h e.symm,nC _ _ _ h.symm]
 ·rw [yw _ _ (G8 false cl a t x),s2];simp [G8,x1]
 ·rw [Bj _ _ (G8 false cl a t x),v2];simp [G8,x5]
 rw [m7 _ _ (G8 false cl a t x),m7 _ _ (G8 false cl a u z),v1,v2];simp only [G8,hx,LV,LW,if_true]
 split
 ·rw [gz h,gz λe=>h e.symm,nC _ _ _ h.symm]
 rfl
theorem FD {x:GY} (hx:pQ x=true) (a:TS) {t u:Nat} {c:Int} {e:Int×Int} {r:List (Int×Int)} (h:a.bf u c=e::r):∃ r',(G8 false cl a t x).bf u c=e::r'/\flT (G8 false cl a t x) u c e r'=G8 false cl (flT a u c e r) t x:=by
 obtain ⟨x1,x2,x3,x4⟩:=uT hx;have x5:(x.Op==5)=false:=by simpa using x4
 have hv:mU (flT a u c e r) t x=mU a t x:=rfl
 by_cases hu:u=t
 ·subst hu
  by_cases hc:c=cl x.Loc
  ·subst hc;refine ⟨r++[(x.Loc,mU a u x)],by simp [G8,hx,cH,h],?_⟩;refine TS.ext rfl ?_ ?_ ?_
   ·simp [G8,flT,x1]
   ·simp [G8,flT,x5]
   rw [m7,hv];simp [G8,flT,hx,cH,ui]
  refine ⟨r,by simp [G8,hx,cH,gz hc,h],?_⟩;refine TS.ext rfl ?_ ?_ ?_
  ·simp [G8,flT,x1]
  ·simp [G8,flT,x5]
  rw [m7 _ _ (flT a u c e r),hv];simp only [G8,flT,hx,cH,ui,LV,LW,if_true];rw [gz λe=>hc e.symm,nC _ _ _ hc]
 refine ⟨r,by simp [G8,hx,gz hu,h],?_⟩;refine TS.ext rfl ?_ ?_ ?_
 ·simp [G8,flT,x1]
 ·simp [G8,flT,x5]
 rw [m7 _ _ (flT a u c e r),hv];simp only [G8,flT,hx,LV,LW,if_true];rw [gz hu,gz λe=>hu e.symm,nC _ _ _ λe=>hu e.symm]
theorem Ew {Q:Nat->List GY} {t i:Nat} {x y:GY} (hA:Aft cl x y) (p1:(P t)[i]? = some x) (p2:(P t)[i+1]? = some y) (q1:(Q t)[i]? = some y) (q2:(Q t)[i+1]? = some x) (hj:∀ j,j≠i->j≠i+1->(Q t)[j]? = (P t)[j]?) (ho:∀ u,u≠t->Q u=P u) (hl:(Q t).length=(P t).length) {n:Nat} {o:LI} (h:EO Q false cl n o):EO P false cl n o:=by
 obtain ⟨a,h1,h2,h3⟩:=h;obtain ⟨x1,x2,x3,x4⟩:=uT hA.1;have sim:=h1.sim (S':=StT P false cl) (b0:=a0T) (λa b=>b=a/\a.pc t≠i+1\/a.pc t=i+1/\b=G8 false cl a t x) (.inl ⟨rfl,by show 0≠i+1;omega⟩) ?_
 ·obtain ⟨b,h4,⟨rfl,h5⟩ | ⟨h5,_⟩⟩:=sim
  ·refine ⟨b,h4,⟨λu=>?_,h2.2⟩,h3⟩
   by_cases hu:u=t
   ·subst hu;rw [<- hl];exact h2.1 u
   rw [<- ho u hu];exact h2.1 u
  have := h2.1 t;rw [h5] at this;have := (ges q2).1;omega
 intro a a' b _ _ R s;rcases R with ⟨rfl,hn⟩ | ⟨hm,rfl⟩
 ·cases s with
  | @ex u z hc=>
   by_cases hu:u=t
   ·subst hu
    by_cases e1:b.pc u=i
    ·have hz:z=y:=by
      have := hc.1;rw [e1,q1] at this;exact (osl this).symm
     subst hz;refine ⟨G8 false cl (G8 false cl b u x) u z,.step (.step .base<|.ex ⟨by rw [e1];exact p1,λh=>(h.elim x3 x4).elim⟩)<|.ex ⟨?_,λh=>?_⟩,.inr ⟨?_,Dc hA b u⟩⟩
     ·show (P u)[ud b.pc u (b.pc u+1) u]? = _;rw [cH,e1];exact p2
     ·exfalso;rcases hA.2 with ⟨g,_⟩ | ⟨g,_⟩
      ·omega
      have := uT g;omega
     show ud b.pc u (b.pc u+1) u=_;rw [cH,e1]
    refine ⟨_,.step .base<|.ex ⟨by rw [<- hj _ e1 hn];exact hc.1,hc.2⟩,.inl ⟨rfl,?_⟩⟩;show ud b.pc u (b.pc u+1) u≠_;rw [cH];omega
   refine ⟨_,.step .base<|.ex ⟨by rw [<- ho u hu];exact hc.1,hc.2⟩,.inl ⟨rfl,?_⟩⟩;show ud b.pc u (b.pc u+1) t≠_;rw [gz λe=>hu e.symm];exact hn
  | fl h=>exact ⟨_,.step .base<|.fl h,.inl ⟨rfl,hn⟩⟩
 cases s with
 | @ex u z hc=>
  by_cases hu:u=t
  ·subst hu;have hz:z=x:=by
    have := hc.1;rw [hm,q2] at this;exact (osl this).symm
   subst hz;refine ⟨_,.base,.inl ⟨rfl,?_⟩⟩;show ud a.pc u (a.pc u+1) u≠_;rw [cH];omega
  refine ⟨G8 false cl (G8 false cl a t x) u z,.step .base<|.ex ⟨?_,λh c=>?_⟩,.inr ⟨?_,BQ hA.1 a hu⟩⟩
  ·show (P u)[ud a.pc t (a.pc t+1) u]? = _;rw [gz hu,<- ho u hu];exact hc.1
  ·simp only [G8]
   split
   ·rw [gz hu];exact hc.2 h c
   exact hc.2 h c
  show ud a.pc u (a.pc u+1) t=_;rw [gz λe=>hu e.symm];exact hm
 | fl h=>
  obtain ⟨r',g1,g2⟩:=FD (cl:=cl) (t:=t) hA.1 a h;exact ⟨_,.step .base<|.fl g1,.inr ⟨hm,g2⟩⟩
end
def dW (p:List<|List GY) (t i:Int):Option (List (List GY)×Bool):=gd (decide<|p.length<=1048576/\total p<=1048576)<|some (ofP (bI (toP p) t i).1,(bI (toP p) t i).2)
def dX (p:List<|List GY) (t i:Int):Option (List (List GY)×Bool):=gd (decide<|p.length<=1048576/\total p<=1048576)<|some (ofP (bI (toP p) t i).1,(bI (toP p) t i).2)
end
end Go.Proofs.YtjcmfddobaplbaaGreat
