/- Texts joined. No conditions. -/
import Derived.Test.YtjcmfddobaplbaaGreatW7
namespace Go.Proofs.YtjcmfddobaplbaaGreat
noncomputable section
open _root_.Option renaming bind -> RI, bind_eq_some_iff -> Sn
open _root_.List renaming range -> RJ, getElem_mem -> RL, mem_range -> RO, length_take -> RP, length_nil -> RQ, countP -> RR, getElem?_map -> RV, mem_append -> RY, mem_singleton -> RZ, length_drop -> R3, map_congr_left -> R4, mem_map -> R6, mem_cons -> R9, not_mem_nil -> Sa, mem_flatMap -> Sd, ext_getElem? -> Se, getElem?_range -> Sf, mem_of_mem_drop -> Sg, mem_of_mem_take -> Si, all_eq_true -> Sj, mem_append_left -> Sk, mem_or_eq_of_mem_set -> Sq, length_replicate -> Sr, eq_of_mem_replicate -> Ss, take_succ_cons -> Su, mem_append_right -> Sy
open _root_.Int renaming le_refl -> RN, eq_ofNat_of_zero_le -> R8
open _root_.Nat renaming le_trans -> RU, mul_right_comm -> R7, mul_le_mul -> Sb, mul_assoc -> Sc, pow_le_pow_right -> Sv, mul_le_mul_right -> Sw
open _root_.BitVec renaming ofInt -> R5
open Go.RowKit
set_option maxRecDepth 100000
def gD:Option (List ByteArray):= some ([(⟨#[120,61,49,59,97,61,121,124,121,61,49,59,97,61,120]⟩:ByteArray),(⟨#[120,61,49,59,102,101,110,99,101,59,97,61,121,124,121,61,49,59,102,101,110,99,101,59,97,61,120]⟩:ByteArray),(⟨#[120,61,49,59,121,61,49,124,97,61,121,59,98,61,120]⟩:ByteArray),(⟨#[120,61,49,59,121,61,49,124,97,61,121,59,102,101,110,99,101,59,98,61,120]⟩:ByteArray),(⟨#[120,61,49,59,102,101,110,99,101,59,121,61,49,124,97,61,121,59,98,61,120]⟩:ByteArray),(⟨#[97,61,120,59,121,61,49,124,97,61,121,59,120,61,49]⟩:ByteArray),(⟨#[97,61,120,59,121,61,97,124,97,61,121,59,120,61,97]⟩:ByteArray),(⟨#[120,61,49,124,120,61,50,124,97,61,120,59,98,61,120]⟩:ByteArray),(⟨#[120,61,49,124,121,61,49,124,97,61,120,59,98,61,121,124,97,61,121,59,98,61,120]⟩:ByteArray),(⟨#[120,61,49,124,97,61,120,59,121,61,49,124,97,61,121,59,98,61,120]⟩:ByteArray),(⟨#[120,61,49,124,121,61,49,124,97,61,120,59,98,61,121]⟩:ByteArray),(⟨#[97,61,120,58,49,124,97,61,120,58,50,124,120,61,51]⟩:ByteArray),(⟨#[120,61,49,59,97,61,120,59,98,61,121,124,121,61,49,59,97,61,121,59,98,61,120]⟩:ByteArray),(⟨#[120,61,50,59,121,61,49,124,121,61,50,59,120,61,49]⟩:ByteArray),(⟨#[97,61,120,58,49,59,98,61,121,124,97,61,121,58,49,59,98,61,120]⟩:ByteArray),(⟨#[120,61,49,59,120,61,50,124,97,61,120,59,98,61,120]⟩:ByteArray),(⟨#[120,61,49,59,121,61,49,59,97,61,122,124,122,61,49,59,97,61,121,59,98,61,120]⟩:ByteArray),(⟨#[97,61,120,58,49,124,98,61,120,58,49]⟩:ByteArray),(⟨#[102,101,110,99,101]⟩:ByteArray),(⟨#[]⟩:ByteArray),(⟨#[120,61,49,59,97,61,121,124,121,61,49,59,102,101,110,99,101,59,97,61,120]⟩:ByteArray)]:List ByteArray)
def iW (s:ByteArray) (c:Int):LS ((List ByteArray)×Int×Int) (List ByteArray):=λs5=>bif decide (s5.2.1<=(s.size:Int)) then RI (RI (bif (s5.2.1==(s.size:Int)) then some true else gd (decide<|0<=s5.2.1/\s5.2.1<(s.size:Int)) <|some<|((s.data.getD s5.2.1.toNat 0).toNat:Int)==c) λs10=>bif s10 then gd (decide<|0<=s5.2.2/\s5.2.2<=s5.2.1/\s5.2.1<=(s.size:Int)) <|gd (dH (s5.1.length+1) 16) <|gd (Nb .i64<|s5.2.1+(1:Int)) <|some ((s5.1++[(s.extract s5.2.2.toNat s5.2.1.toNat)]),(s5.2.1+(1:Int))) else some (s5.1,s5.2.2)) λs9=>gd (Nb .i64<|s5.2.1+(1:Int)) <|some (.inl (s9.1,(s5.2.1+(1:Int)),s9.2)) else some (.inr s5.1)
def jr (s:ByteArray) (c:Int):Option (List ByteArray):= RI (bA (iW s c) (([]:List ByteArray),(0:Int),(0:Int))) λs1=>some s1
def cf (s:ByteArray) (at_:Int) (from_:Int) (most:Int):Option Int:= RI (bif decide ((s.size:Int)<=at_) then some true else gd (decide<|0<=at_/\at_<(s.size:Int)) <|some<|decide<|((s.data.getD at_.toNat 0).toNat:Int)<from_) λs1=>RI (bif s1 then some true else gd (decide<|0<=at_/\at_<(s.size:Int)) <|gd (Nb .u8<|((s.data.getD at_.toNat 0).toNat:Int)-from_) <|gd (Nb .i64<|((s.data.getD at_.toNat 0).toNat:Int)-from_) <|some<|decide<|most<(((s.data.getD at_.toNat 0).toNat:Int)-from_)) λs4=>bif s4 then some (-1:Int) else gd (decide<|0<=at_/\at_<(s.size:Int)) <|gd (Nb .u8<|((s.data.getD at_.toNat 0).toNat:Int)-from_) <|gd (Nb .i64<|((s.data.getD at_.toNat 0).toNat:Int)-from_) <|some<|((s.data.getD at_.toNat 0).toNat:Int)-from_
def kx (s:ByteArray):Option Nf:= bif decide (s=(⟨#[102,101,110,99,101]⟩:ByteArray)) then some (⟨(4:Int),(0:Int),(0:Int),(0:Int)⟩:Nf) else RI (cf s (0:Int) (97:Int) (2:Int)) λv2=>RI (cf s (0:Int) (120:Int) (2:Int)) λv3=>RI (bif decide ((0:Int)<=v2) then some ((s.size:Int)==(3:Int)) else some false) λs4=>bif s4 then RI (cf s (2:Int) (120:Int) (2:Int)) λv7=>some (⟨(1:Int),v7,v2,(0:Int)⟩:Nf) else RI (bif decide ((0:Int)<=v2) then some ((s.size:Int)==(5:Int)) else some false) λs8=>bif s8 then RI (cf s (2:Int) (120:Int) (2:Int)) λv11=>RI (cf s (4:Int) (48:Int) (3:Int)) λv12=>some (⟨(5:Int),v11,v2,v12⟩:Nf) else RI (bif decide ((0:Int)<=v3) then RI (cf s (2:Int) (97:Int) (2:Int)) λv15=>some (decide<|(0:Int)<=v15) else some false) λs13=>bif s13 then RI (cf s (2:Int) (97:Int) (2:Int)) λv17=>some (⟨(3:Int),v3,v17,(0:Int)⟩:Nf) else RI (cf s (2:Int) (48:Int) (3:Int)) λv18=>some (⟨(2:Int),v3,(0:Int),v18⟩:Nf)
def ik (from_:Int) (n:Int):Option ByteArray:= gd (Nb .u8 n) <|gd (Nb .u8<|from_+n) <|some<|strOfNums ([(from_+n)]:LI)
def mW:LS (ByteArray×Int) (ByteArray×Int):=λs9=>bif decide ((9:Int)<s9.2) then gd (decide<|(10:Int)≠0) <|gd (Nb .i64<|(48:Int)+(s9.2.tmod (10:Int))) <|gd (Nb .u8<|(48:Int)+(s9.2.tmod (10:Int))) <|gd (decide<|(strOfNums ([((48:Int)+(s9.2.tmod (10:Int)))]:LI)).size+s9.1.size<=9223372036854775807) <|gd (Nb .i64<|s9.2.tdiv (10:Int)) <|some (.inl (((strOfNums ([((48:Int)+(s9.2.tmod (10:Int)))]:LI))++s9.1),(s9.2.tdiv (10:Int)))) else some (.inr (s9.1,s9.2))
def ju (rcf:Int->Option ByteArray) (n:Int):Option ByteArray:= bif decide (n<(-9223372036854775807:Int)) then some (⟨#[45,57,50,50,51,51,55,50,48,51,54,56,53,52,55,55,53,56,48,56]⟩:ByteArray) else bif decide (n<(0:Int)) then gd (Nb .i64<|0-n) <|RI (rcf<|0-n) λv4=>gd (decide<|(⟨#[45]⟩:ByteArray).size+v4.size<=9223372036854775807) <|some ((⟨#[45]⟩:ByteArray)++v4) else RI (bA mW ((⟨#[]⟩:ByteArray),n)) λs6=>gd (Nb .i64<|(48:Int)+s6.2) <|gd (Nb .u8<|(48:Int)+s6.2) <|gd (decide<|(strOfNums ([((48:Int)+s6.2)]:LI)).size+s6.1.size<=9223372036854775807) <|some<|(strOfNums ([((48:Int)+s6.2)]:LI))++s6.1
def il:Nat->Int->Option ByteArray
 | 0=>λ_=>none
 | n+1=>ju (il n)
def lu (n:Int):Option ByteArray:=KH λnf=>il nf n
def lw (x:Nf):Option ByteArray:= RI (ik (120:Int) x.Loc) λv1=>RI (ik (97:Int) x.Reg) λv2=>bif (x.Op==(1:Int)) then gd (decide<|v2.size+(⟨#[61]⟩:ByteArray).size<=9223372036854775807) <|gd (decide<|(v2++(⟨#[61]⟩:ByteArray)).size+v1.size<=9223372036854775807) <|some ((v2++(⟨#[61]⟩:ByteArray))++v1) else bif (x.Op==(2:Int)) then gd (decide<|v1.size+(⟨#[61]⟩:ByteArray).size<=9223372036854775807) <|RI (lu x.Val) λv8=>gd (decide<|(v1++(⟨#[61]⟩:ByteArray)).size+v8.size<=9223372036854775807) <|some ((v1++(⟨#[61]⟩:ByteArray))++v8) else bif (x.Op==(3:Int)) then gd (decide<|v1.size+(⟨#[61]⟩:ByteArray).size<=9223372036854775807) <|gd (decide<|(v1++(⟨#[61]⟩:ByteArray)).size+v2.size<=9223372036854775807) <|some ((v1++(⟨#[61]⟩:ByteArray))++v2) else bif (x.Op==(5:Int)) then gd (decide<|v2.size+(⟨#[61]⟩:ByteArray).size<=9223372036854775807) <|gd (decide<|(v2++(⟨#[61]⟩:ByteArray)).size+v1.size<=9223372036854775807) <|gd (decide<|((v2++(⟨#[61]⟩:ByteArray))++v1).size+(⟨#[58]⟩:ByteArray).size<=9223372036854775807) <|RI (lu x.Val) λv17=>gd (decide<|(((v2++(⟨#[61]⟩:ByteArray))++v1)++(⟨#[58]⟩:ByteArray)).size+v17.size<=9223372036854775807) <|some ((((v2++(⟨#[61]⟩:ByteArray))++v1)++(⟨#[58]⟩:ByteArray))++v17) else some (⟨#[102,101,110,99,101]⟩:ByteArray)
def iK (p:List<|List Nf) (s4:Int×ByteArray):LS (Int×ByteArray) ByteArray:=λs13=>gd (decide<|0<=s4.1/\s4.1<(p.length:Int)) <|bif decide (s13.1<((p.getD s4.1.toNat default).length:Int)) then RI (bif decide ((0:Int)<s13.1) then gd (decide<|s13.2.size+(⟨#[59]⟩:ByteArray).size<=9223372036854775807) <|some (s13.2++(⟨#[59]⟩:ByteArray)) else some s13.2) λs17=>gd (decide<|0<=s13.1/\s13.1<((p.getD s4.1.toNat default).length:Int)) <|RI (lw<|(p.getD s4.1.toNat default).getD s13.1.toNat default) λv21=>gd (decide<|s17.size+v21.size<=9223372036854775807) <|gd (Nb .i64<|s13.1+(1:Int)) <|some (.inl ((s13.1+(1:Int)),(s17++v21))) else some (.inr s13.2)
def ja (p:List<|List Nf):LS (Int×ByteArray) ByteArray:=λs4=>bif decide (s4.1<(p.length:Int)) then RI (RI (bif decide ((0:Int)<s4.1) then gd (decide<|s4.2.size+(⟨#[124]⟩:ByteArray).size<=9223372036854775807) <|some (s4.2++(⟨#[124]⟩:ByteArray)) else some s4.2) λs8=>bA (iK p s4) ((0:Int),s8)) λs7=>gd (Nb .i64<|s4.1+(1:Int)) <|some (.inl ((s4.1+(1:Int)),s7)) else some (.inr s4.2)
def iX (p:List<|List Nf):Option ByteArray:= RI (bA (ja p) ((0:Int),(⟨#[]⟩:ByteArray))) λs1=>some s1
def dK (v1:(List ByteArray)) (s6:(List<|List Nf)×Int) (v14:(List ByteArray)):LS ((List Nf)×Int) (List Nf):=λs19=>RI (bif decide (s19.2<(v14.length:Int)) then some (decide<|s19.2<=(7:Int)) else some false) λs22=>RI (bif s22 then some (!decide ((v1.getD s6.2.toNat default)=(⟨#[]⟩:ByteArray))) else some false) λs24=>bif s24 then gd (decide<|0<=s19.2/\s19.2<(v14.length:Int)) <|RI (kx<|v14.getD s19.2.toNat default) λv28=>gd (dH (s19.1.length+1) 32) <|gd (Nb .i64<|s19.2+(1:Int)) <|some (.inl ((s19.1++[v28]),(s19.2+(1:Int)))) else some (.inr s19.1)
def dZ (v1:(List ByteArray)):LS ((List<|List Nf)×Int) (List<|List Nf):=λs6=>RI (bif decide (s6.2<(v1.length:Int)) then some (decide<|s6.2<=(3:Int)) else some false) λs9=>bif s9 then RI (gd (decide<|0<=s6.2/\s6.2<(v1.length:Int)) <|RI (jr (v1.getD s6.2.toNat default) (59:Int)) λv14=>RI (bA (dK v1 s6 v14) (([]:List Nf),(0:Int))) λs15=>gd (dH (s6.1.length+1) 24) <|some<|s6.1++[s15]) λs12=>gd (Nb .i64<|s6.2+(1:Int)) <|some (.inl (s12,(s6.2+(1:Int)))) else some (.inr s6.1)
def bO (text:ByteArray):Option ((List<|List Nf)×Bool):= RI (jr text (124:Int)) λv1=>RI (bA (dZ v1) (([]:List<|List Nf),(0:Int))) λs2=>RI (cZ s2) λv36=>RI (bif !v36 then some true else RI (iX s2) λv39=>some<|!decide (v39=text)) λs37=>bif s37 then some (([]:List<|List Nf),false) else some (s2,true)
def iS (r_:ak):Option (ak×Nf):= RI (aP (⟨r_.b,r_.p⟩:ak) (2:Int)) λv1=>RI (aP (⟨v1.1.b,v1.1.p⟩:ak) (7:Int)) λv2=>bif (v2.2==(0:Int)) then some ((⟨v2.1.b,v2.1.p⟩:ak),(⟨(4:Int),(0:Int),(0:Int),(0:Int)⟩:Nf)) else bif (v2.2==(1:Int)) then RI (aP (⟨v2.1.b,v2.1.p⟩:ak) (2:Int)) λv5=>some ((⟨v5.1.b,v5.1.p⟩:ak),(⟨(3:Int),v1.2,v5.2,(0:Int)⟩:Nf)) else bif (v2.2==(2:Int)) then RI (aP (⟨v2.1.b,v2.1.p⟩:ak) (2:Int)) λv7=>RI (aP (⟨v7.1.b,v7.1.p⟩:ak) (3:Int)) λv8=>gd (Nb .i64<|(1:Int)+v8.2) <|some ((⟨v8.1.b,v8.1.p⟩:ak),(⟨(5:Int),v1.2,v7.2,((1:Int)+v8.2)⟩:Nf)) else RI (bif (v2.2==(3:Int)) then some (v2.2==(3:Int)) else some (v2.2==(4:Int))) λs10=>bif s10 then RI (aP (⟨v2.1.b,v2.1.p⟩:ak) (3:Int)) λv13=>gd (Nb .i64<|(1:Int)+v13.2) <|some ((⟨v13.1.b,v13.1.p⟩:ak),(⟨(2:Int),v1.2,(0:Int),((1:Int)+v13.2)⟩:Nf)) else RI (aP (⟨v2.1.b,v2.1.p⟩:ak) (2:Int)) λv15=>some ((⟨v15.1.b,v15.1.p⟩:ak),(⟨(1:Int),v1.2,v15.2,(0:Int)⟩:Nf))
def iz:LS ((LI)×Int×(List Nf)×Int) ((LI)×Int×(List Nf)):=λs24=>bif decide ((0:Int)<s24.2.2.2) then RI (iS (⟨s24.1,s24.2.1⟩:ak)) λv28=>gd (dH (s24.2.2.1.length+1) 32) <|gd (Nb .i64<|s24.2.2.2-(1:Int)) <|some (.inl (v28.1.b,v28.1.p,(s24.2.2.1++[v28.2]),(s24.2.2.2-(1:Int)))) else some (.inr (s24.1,s24.2.1,s24.2.2.1))
def iA:LS ((LI)×Int×(List<|List Nf)×Int) ((LI)×Int×(List<|List Nf)):=λs14=>bif decide ((0:Int)<s14.2.2.2) then RI (RI (RI (bH (⟨s14.1,s14.2.1⟩:ak) ([(2:Int),(1:Int),(3:Int),(2:Int),(0:Int)]:LI)) λv20=>bA iz (v20.1.b,v20.1.p,([]:List Nf),v20.2)) λs19=>gd (dH (s14.2.2.1.length+1) 24) <|some (s19.1,s19.2.1,(s14.2.2.1++[s19.2.2]))) λs18=>gd (Nb .i64<|s14.2.2.2-(1:Int)) <|some (.inl (s18.1,s18.2.1,s18.2.2,(s14.2.2.2-(1:Int)))) else some (.inr (s14.1,s14.2.1,s14.2.2.1))
def lC (r_:ak):Option (ak×(List<|List Nf)):= RI (gD) λv1=>sumK (RI (aP (⟨r_.b,r_.p⟩:ak) (3:Int)) λv3=>bif decide ((0:Int)<v3.2) then RI (aP (⟨v3.1.b,v3.1.p⟩:ak) (v1.length:Int)) λv5=>gd (decide<|0<=v5.2/\v5.2<(v1.length:Int)) <|RI (bO<|v1.getD v5.2.toNat default) λv7=>bif v7.2 then some (.inr ((⟨v5.1.b,v5.1.p⟩:ak),v7.1)) else some (.inl (v5.1.b,v5.1.p)) else some (.inl (v3.1.b,v3.1.p))) λs2=>RI (RI (bH (⟨s2.1,s2.2⟩:ak) ([(2:Int),(3:Int),(1:Int)]:LI)) λv10=>bA iA (v10.1.b,v10.1.p,([]:List<|List Nf),v10.2)) λs9=>RI (cZ s9.2.2) λv36=>bif v36 then some ((⟨s9.1,s9.2.1⟩:ak),s9.2.2) else RI (iS (⟨s9.1,s9.2.1⟩:ak)) λv38=>some ((⟨v38.1.b,v38.1.p⟩:ak),([([v38.2]:List Nf)]:List<|List Nf))
def jv (x:Nf):Option Bool:= RI (bif (x.Op==(2:Int)) then some true else some (x.Op==(3:Int))) λs1=>RI (bif s1 then some true else some (x.Op==(5:Int))) λs3=>some s3
def kz (x:Nf):Option Bool:= RI (bif (x.Op==(1:Int)) then some true else some (x.Op==(5:Int))) λs1=>some s1
def mr (p:List<|List Nf) (loc:Int) (writes:Bool) (s4:Int×Int):LS (Int×Int) Int:=λs10=>gd (decide<|0<=s4.1/\s4.1<(p.length:Int)) <|bif decide (s10.1<((p.getD s4.1.toNat default).length:Int)) then RI (gd (decide<|0<=s10.1/\s10.1<((p.getD s4.1.toNat default).length:Int)) <|RI (bif ((((p.getD s4.1.toNat default).getD s10.1.toNat default).Loc)==loc) then RI (bif writes then RI (jv (⟨((p.getD s4.1.toNat default).getD s10.1.toNat default).Op,((p.getD s4.1.toNat default).getD s10.1.toNat default).Loc,((p.getD s4.1.toNat default).getD s10.1.toNat default).Reg,((p.getD s4.1.toNat default).getD s10.1.toNat default).Val⟩:Nf)) λv20=>some v20 else some false) λs18=>RI (bif s18 then some true else RI (bif !writes then RI (kz (⟨((p.getD s4.1.toNat default).getD s10.1.toNat default).Op,((p.getD s4.1.toNat default).getD s10.1.toNat default).Loc,((p.getD s4.1.toNat default).getD s10.1.toNat default).Reg,((p.getD s4.1.toNat default).getD s10.1.toNat default).Val⟩:Nf)) λv25=>some v25 else some false) λs23=>some s23) λs21=>some s21 else some false) λs16=>bif s16 then gd (Nb .i64<|s10.2+(1:Int)) <|some (s10.2+(1:Int)) else some s10.2) λs14=>gd (Nb .i64<|s10.1+(1:Int)) <|some (.inl ((s10.1+(1:Int)),s14)) else some (.inr s10.2)
def mX (p:List<|List Nf) (loc:Int) (writes:Bool):LS (Int×Int) Int:=λs4=>bif decide (s4.1<(p.length:Int)) then RI (bA (mr p loc writes s4) ((0:Int),s4.2)) λs7=>gd (Nb .i64<|s4.1+(1:Int)) <|some (.inl ((s4.1+(1:Int)),s7)) else some (.inr s4.2)
def iT (p:List<|List Nf) (loc:Int) (writes:Bool):Option Int:= RI (bA (mX p loc writes) ((0:Int),(0:Int))) λs1=>some s1
def mD (p:List<|List Nf) (most:Int) (s4:Int×Int) (v8:Int):LS (Int×Int) Int:=λs12=>RI (iT p s4.1 false) λv14=>RI (bif decide (s12.1<v14) then some (decide<|s12.2<=most) else some false) λs15=>bif s15 then gd (Nb .i64<|v8+(1:Int)) <|gd (Nb .i64<|s12.2*(v8+(1:Int))) <|gd (Nb .i64<|s12.1+(1:Int)) <|some (.inl ((s12.1+(1:Int)),(s12.2*(v8+(1:Int))))) else some (.inr s12.2)
def mE (most:Int) (v8:Int):LS (Int×Int) Int:=λs23=>RI (bif decide (s23.1<=v8) then some (decide<|s23.2<=most) else some false) λs25=>bif s25 then gd (Nb .i64<|s23.2*s23.1) <|gd (Nb .i64<|s23.1+(1:Int)) <|some (.inl ((s23.1+(1:Int)),(s23.2*s23.1))) else some (.inr s23.2)
def mY (p:List<|List Nf) (most:Int):LS (Int×Int) Int:=λs4=>bif decide (s4.1<=(2:Int)) then RI (RI (iT p s4.1 true) λv8=>RI (bA (mD p most s4 v8) ((0:Int),s4.2)) λs9=>bA (mE most v8) ((2:Int),s9)) λs7=>gd (Nb .i64<|s4.1+(1:Int)) <|some (.inl ((s4.1+(1:Int)),s7)) else some (.inr s4.2)
def kD (p:List<|List Nf) (most:Int):Option Int:= RI (bA (mY p most) ((0:Int),(1:Int))) λs1=>bif decide (most<s1) then gd (Nb .i64<|most+(1:Int)) <|some (most+(1:Int)) else some s1
def kE (r_:ak):Option (ak×(List<|List Nf)):= RI (lC (⟨r_.b,r_.p⟩:ak)) λv1=>RI (kD v1.2 (200:Int)) λv2=>bif decide (v2<=(200:Int)) then some ((⟨v1.1.b,v1.1.p⟩:ak),v1.2) else RI (bO (⟨#[120,61,49,59,97,61,121,124,121,61,49,59,97,61,120]⟩:ByteArray)) λv4=>some ((⟨v1.1.b,v1.1.p⟩:ak),v4.1)
def nL (code:LI):Option ((List<|List Nf)×Int×Int):= RI (iR code) λv1=>RI (kE (⟨v1.b,v1.p⟩:ak)) λv2=>RI (ij (⟨v2.1.b,v2.1.p⟩:ak) v2.2) λv3=>RI (bH (⟨v3.1.b,v3.1.p⟩:ak) ([(0:Int),(1:Int),(0:Int),(2:Int),(-1:Int)]:LI)) λv4=>RI (bH (⟨v4.1.b,v4.1.p⟩:ak) ([(1:Int),(0:Int),(2:Int),(3:Int)]:LI)) λv5=>some (v3.2,v4.2,v5.2)
def iq (x:Int):Option Bool:= RI (fZ x (0:Int) (3:Int)) λv1=>some<|!v1
def bQ (s:LI):LS Int (Unit ⊕ Int):=λs4=>bif decide (s4<(s.length:Int)) then gd (decide<|0<=s4/\s4<(s.length:Int)) <|RI (iq<|s.getD s4.toNat default) λv8=>bif v8 then some (.inr<|.inr s4) else gd (Nb .i64<|s4+(1:Int)) <|some (.inl<|s4+(1:Int)) else some (.inr<|.inl ())
def bi (s:LI):Option Int:= sumK (bA (bQ s) (0:Int)) λs1=>some (-1:Int)
def aZ (s:LI):Option Bool:= RI (bi s) λv1=>some<|decide<|(0:Int)<=v1
def f9 (p:List<|List Nf) (o_:LI):Option Bool:= RI (aA p) λv1=>RI (bif v1 then gd (Nb .i64<|(3:Int)*(p.length:Int)) <|gd (Nb .i64<|((3:Int)*(p.length:Int))+(2:Int)) <|gd (Nb .i64<|(((3:Int)*(p.length:Int))+(2:Int))+(1:Int)) <|some ((o_.length:Int)==((((3:Int)*(p.length:Int))+(2:Int))+(1:Int))) else some false) λs2=>RI (bif s2 then RI (aZ o_) λv9=>some (!v9) else some false) λs7=>some s7
def iw (p:List<|List Nf) (t:Int):Option Bool:= RI (aA p) λv1=>RI (bif v1 then gd (Nb .i64<|(p.length:Int)-(1:Int)) <|RI (fZ t (0:Int)<|(p.length:Int)-(1:Int)) λv5=>some v5 else some false) λs2=>some s2
def kM (loc:Int):Option Bool:= RI (fZ loc (0:Int) (2:Int)) λv1=>some v1
def j5 (s:LI):Option (LI):= nilK (s.isEmpty) (some ([]:LI)) (gd (dH (([]:LI).length+s.length) 8) <|some<|([]:LI)++s)
def lD (x:Int) (i:Int) (k_:Int):Option Int:= bif (x==i) then some k_ else bif (x==k_) then some i else some x
def gL (o_:LI) (i:Int) (k_:Int) (s28:(LI)×Int):LS ((LI)×Int) (LI):=λs40=>bif decide (s40.2<(3:Int)) then RI (lD s28.2 i k_) λv46=>gd (Nb .i64<|(3:Int)*v46) <|gd (Nb .i64<|((3:Int)*v46)+s40.2) <|gd (Nb .i64<|(3:Int)*s28.2) <|gd (Nb .i64<|((3:Int)*s28.2)+s40.2) <|gd (decide<|0<=(((3:Int)*s28.2)+s40.2)/\(((3:Int)*s28.2)+s40.2)<(o_.length:Int)) <|gd (decide<|0<=(((3:Int)*v46)+s40.2)/\(((3:Int)*v46)+s40.2)<(s40.1.length:Int)) <|gd (Nb .i64<|s40.2+(1:Int)) <|some (.inl ((s40.1.set ((((3:Int)*v46)+s40.2).toNat)<|o_.getD (((3:Int)*s28.2)+s40.2).toNat default),(s40.2+(1:Int)))) else some (.inr s40.1)
def gM (p:List<|List Nf) (o_:LI) (i:Int) (k_:Int):LS ((LI)×Int) (LI):=λs28=>bif decide (s28.2<(p.length:Int)) then RI (bA (gL o_ i k_ s28) (s28.1,(0:Int))) λs34=>gd (Nb .i64<|s28.2+(1:Int)) <|some (.inl (s34,(s28.2+(1:Int)))) else some (.inr s28.1)
def eH (p:List<|List Nf) (o_:LI) (i:Int) (k_:Int) (x:Int) (y:Int):Option ((LI)×Bool):= RI (f9 p o_) λv1=>RI (bif !v1 then some true else RI (iw p i) λv4=>some<|!v4) λs2=>RI (bif s2 then some true else RI (iw p k_) λv7=>some<|!v7) λs5=>RI (bif s5 then some true else RI (kM x) λv10=>some<|!v10) λs8=>RI (bif s8 then some true else RI (kM y) λv13=>some<|!v13) λs11=>bif s11 then some (([]:LI),false) else RI (j5 o_) λv15=>RI (bA (gM p o_ i k_) (v15,(0:Int))) λs19=>gd (Nb .i64<|(3:Int)*(p.length:Int)) <|gd (Nb .i64<|((3:Int)*(p.length:Int))+x) <|gd (Nb .i64<|((3:Int)*(p.length:Int))+y) <|gd (decide<|0<=(((3:Int)*(p.length:Int))+y)/\(((3:Int)*(p.length:Int))+y)<(o_.length:Int)) <|gd (decide<|0<=(((3:Int)*(p.length:Int))+x)/\(((3:Int)*(p.length:Int))+x)<(o_.length:Int)) <|gd (decide<|0<=(((3:Int)*(p.length:Int))+x)/\(((3:Int)*(p.length:Int))+x)<(s19.length:Int)) <|gd (decide<|0<=(((3:Int)*(p.length:Int))+y)/\(((3:Int)*(p.length:Int))+y)<(s19.length:Int)) <|some (((s19.set ((((3:Int)*(p.length:Int))+x).toNat)<|o_.getD (((3:Int)*(p.length:Int))+y).toNat default).set ((((3:Int)*(p.length:Int))+y).toNat)<|o_.getD (((3:Int)*(p.length:Int))+x).toNat default),true)
def lT (list:LL) (o_:LI):LS Int (Unit ⊕ Bool):=λs4=>bif decide (s4<(list.length:Int)) then gd (decide<|0<=s4/\s4<(list.length:Int)) <|RI (lq (list.getD s4.toNat default) o_) λv8=>bif v8 then some (.inr<|.inr true) else gd (Nb .i64<|s4+(1:Int)) <|some (.inl<|s4+(1:Int)) else some (.inr<|.inl ())
def gz (list:LL) (o_:LI):Option Bool:= sumK (bA (lT list o_) (0:Int)) λs1=>some false
def gb (code:LI):Option ((List<|List Nf)×Int×Int):= RI (nL code) λv1=>some (v1.1,v1.2.1,v1.2.2)
def kN (v2:(List<|List Nf)×Int×Int) (v22:(LL)) (v23:(LL)):LS Int (Unit ⊕ (Unit ⊕ (Int ⊕ (Unit ⊕ Bool)))):=λs27=>bif decide (s27<(v22.length:Int)) then gd (decide<|0<=s27/\s27<(v22.length:Int)) <|RI (eH v2.1 (v22.getD s27.toNat default) (0:Int) (0:Int) v2.2.1 v2.2.2) λv31=>RI (bif !v31.2 then some true else RI (gz v23 v31.1) λv34=>some<|!v34) λs32=>bif s32 then some (.inr<|.inr<|.inr<|.inr<|.inr false) else gd (Nb .i64<|s27+(1:Int)) <|some (.inl<|s27+(1:Int)) else some (.inr<|.inl ())
def kO (v2:(List<|List Nf)×Int×Int) (v3:(List<|List Nf)×Bool):LS Int (Unit ⊕ Bool):=λs17=>bif decide (s17<(([(⟨#[115,101,113]⟩:ByteArray),(⟨#[116,115,111]⟩:ByteArray),(⟨#[112,115,111]⟩:ByteArray),(⟨#[114,97]⟩:ByteArray)]:List ByteArray).length:Int)) then sumK (gd (decide<|0<=s17/\s17<(([(⟨#[115,101,113]⟩:ByteArray),(⟨#[116,115,111]⟩:ByteArray),(⟨#[112,115,111]⟩:ByteArray),(⟨#[114,97]⟩:ByteArray)]:List ByteArray).length:Int)) <|RI (aK v2.1<|([(⟨#[115,101,113]⟩:ByteArray),(⟨#[116,115,111]⟩:ByteArray),(⟨#[112,115,111]⟩:ByteArray),(⟨#[114,97]⟩:ByteArray)]:List ByteArray).getD s17.toNat default) λv22=>RI (aK v3.1<|([(⟨#[115,101,113]⟩:ByteArray),(⟨#[116,115,111]⟩:ByteArray),(⟨#[112,115,111]⟩:ByteArray),(⟨#[114,97]⟩:ByteArray)]:List ByteArray).getD s17.toNat default) λv23=>sumK (bA (kN v2 v22 v23) (0:Int)) λs24=>bif ((v22.length:Int) != (v23.length:Int)) then some (.inr<|.inr<|.inr false) else some (.inl ())) λs20=>gd (Nb .i64<|s17+(1:Int)) <|some (.inl<|s17+(1:Int)) else some (.inr<|.inl ())
def fE (code:LI):Option Bool:= bif decide ((1048576:Int)<(code.length:Int)) then some true else RI (gb code) λv2=>RI (jp v2.1 v2.2.1 v2.2.2) λv3=>RI (jq v2.1 v2.2.1 v2.2.2) λv4=>RI (bif (!(v3.2==v4.2)) then some true else RI (eF v3.1 v4.1) λv7=>some<|!v7) λs5=>RI (bif s5 then some true else some (!v3.2)) λs8=>bif s8 then RI (bif (v3.2==v4.2) then RI (eF v3.1 v4.1) λv13=>some v13 else some false) λs11=>some s11 else sumK (bA (kO v2 v3) (0:Int)) λs14=>some true
def tF (n i k x y:Nat) (o:LI):LI:=(RJ<|3*n+3).map λj=>if j<3*n then o.getD (3*fB (j / 3) i k+j % 3) default else o.getD (3*n+fB (j-3*n) x y) default
theorem Bt {N m:Nat} (f:Nat->Int) (hm:m<N) (v:Int):((RJ N).map f).set m v=(RJ N).map λj=>if j=m then v else f j:=by
 refine Se λj=>?_;rw [List.getElem?_set,RV,RV,llm,List.length_range]
 by_cases h:m=j
 ·subst h;rw [if_pos rfl,if_pos hm,Sf hm];simp
 rw [if_neg h];rcases Nat.lt_or_ge j N with g | g
 ·rw [Sf g];simp [Ne.symm h]
 rw [gen (by simpa using g)]
 rfl
theorem IG {o:LI} {N:Nat} (h:o.length=N):o=(RJ N).map λj=>o.getD j default:=by
 refine Se λj=>?_;rw [RV];rcases Nat.lt_or_ge j N with g | g
 ·rw [Sf g,geq (by omega)];simp [List.getD,h,g]
 rw [gen (by omega),gen (by simpa using g)]
 rfl
theorem nM (t i k:Nat):fB (fB t i k) i k=t:=by
 unfold fB
 by_cases h1:t=i
 ·subst h1;rw [if_pos rfl]
  by_cases h2:k=t
  ·rw [if_pos h2,h2]
  rw [if_neg h2,if_pos rfl]
 rw [if_neg h1]
 by_cases h2:t=k
 ·subst h2;rw [if_pos rfl,if_pos rfl]
 rw [if_neg h2,if_neg h1,if_neg h2]
theorem FO (t i k:Nat):lD (t:Int) (i:Int) (k:Int)=some ((fB t i k:Nat):Int):=by
 unfold lD fB
 by_cases h:t=i
 ·subst h;simp
 have h1:((t:Int)==(i:Int))=false:=by simp;omega
 rw [h1,if_neg h]
 by_cases g:t=k
 ·subst g;simp
 have h2:((t:Int)==(k:Int))=false:=by simp;omega
 rw [h2,if_neg g]
 rfl
section
variable {p:List (List Nf)} {o:LI}
theorem DL (hv:aA p=some true) (hn:p.length<=3) (ho:o.length=3*p.length+3) (hb:∀ v∈o,0<=v/\v<=3):Nk (f9 p o) (· = true):=by
 unfold f9;rw [hv];refine Nk.bind (P:=(· = true)) (.pure rfl) λb hb' => ?_;subst hb';refine Nk.bind (P:=(· = true)) (.bif (λ_ => .gdI (by omega)<|.gdI (by omega)<|.gdI (by omega)<|.pure ?_) λh=>by cases h) λb hb' => ?_
 ·rw [beq_iff_eq];omega
 subst hb';refine Nk.bind (P:=(· = true)) (.bif (λ_=>?_) λh=>by cases h) λb hb' => .pure hb';unfold aZ;refine Nk.bind (P:=(· = false)) (Nk.bind (P:=(· = (-1:Int))) ?_ λv hv => .pure<|by rw [hv];rfl) λv hv => .pure (by rw [hv];rfl);unfold bi;refine Nk.sum (PS:=λ_=>True) (PW:=(· = (-1:Int))) ?_ λ_ _ => .pure rfl;refine Nk.loop (λz=>0<=z/\z<=(o.length:Int)) (λz=>((o.length:Int)-z).toNat) ⟨RN _,by omega⟩ λz ⟨h1,h2⟩ => ?_;unfold bQ;refine .bifD (λhlt => .gdD ⟨h1,hlt⟩ ?_) λ_ => .pure trivial;have hm:o.getD z.toNat default∈o:=by
  rw [gdq,geq (by omega)];exact RL _
 have hz:=hb _ hm;refine Nk.bind (P:=(· = false)) ?_ λb hb' => .bif (λh=>absurd h<|by rw [hb'];decide) λ_ => .gdI (by omega) (.pure ⟨⟨by omega,by omega⟩,by omega⟩);unfold iq fZ;rw [decide_eq_true hz.1,decide_eq_true hz.2];exact .pure rfl
theorem Ab {x lo hi:Int} (h:lo<=x/\x<=hi):fZ x lo hi=some true:=by
 unfold fZ;rw [decide_eq_true h.1,decide_eq_true h.2]
 rfl
theorem wm (hv:aA p=some true) (hn:p.length<=3) {t:Nat} (ht:t<p.length):iw p t=some true:=by
 refine Nk.eq ?_;unfold iw;rw [hv];refine Nk.bind (P:=(· = true)) (.pure rfl) λb hb=>?_;subst hb;refine Nk.bind (P:=(· = true)) (.bif (λ_ => .gdI (by omega) ?_) λh=>by cases h) λb hb => .pure hb;rw [Ab ⟨by omega,by omega⟩];exact .pure rfl
theorem CG {x:Nat} (hx:x<=2):kM (x:Int)=some true:=by
 unfold kM;rw [Ab ⟨by omega,by omega⟩]
 rfl
theorem FP (hv:aA p=some true) (hn:p.length<=3) (ho:o.length=3*p.length+3) (hb:∀ v∈o,0<=v/\v<=3) {i k x y:Nat} (hi:i<p.length) (hk:k<p.length) (hx:x<=2) (hy:y<=2) :
  Nk (eH p o i k x y) (· = (tF p.length i k x y o,true)):=by
 unfold eH;refine (DL hv hn ho hb).bind λv1 e1=>?_;subst e1;rw [wm hv hn hi,wm hv hn hk,CG hx,CG hy];refine Nk.bind (P:=(· = false)) (.pure rfl) λs e=>?_;subst e;refine Nk.bind (P:=(· = false)) (.pure rfl) λs e=>?_;subst e;refine Nk.bind (P:=(· = false)) (.pure rfl) λs e=>?_;subst e;refine Nk.bind (P:=(· = false)) (.pure rfl) λs e=>?_;subst e;refine .bif (λh=>by cases h) λ_=>?_;refine Nk.bind (P:=(· = o)) (uY (λe=>by rw [List.isEmpty_iff.1 e])<|kT<|dY (by simp;omega) rfl) λv15 e15=>?_;subst e15;have hS:∀ t:Nat,t<p.length->fB t i k<p.length:=λt ht=>yL ht hi hk;refine Nk.bind (P:=(· = (RJ<|3*p.length+3).map λj=>if j<3*p.length then v15.getD (3*fB (j / 3) i k+j % 3) default else v15.getD j default)) ?_ λs19 e19=>?_
 ·refine Nk.loop (λz=>(0<=z.2/\z.2<=(p.length:Int))/\z.1=(RJ<|3*p.length+3).map λj=>if j<3*p.length/\fB (j / 3) i k<z.2.toNat then v15.getD (3*fB (j / 3) i k+j % 3) default else v15.getD j default) (λz=>((p.length:Int)-z.2).toNat) ⟨⟨RN _,by simp only [];omega⟩,?_⟩ λz ⟨⟨h1,h2⟩,h3⟩ => ?_
  ·simp only [Int.toNat_zero,Nat.not_lt_zero,and_false,if_false];exact IG ho
  obtain ⟨l,t⟩:=z;simp only at h1 h2 h3;obtain ⟨t,rfl⟩:=R8 h1;simp only [tnn] at h3;unfold gM;refine .bifD (λhlt=>?_) λhge => .pure ?_
  ·have ht:t<p.length:=by omega
   have hst:=hS t ht;refine Nk.bind (P:=λv=>v=(RJ<|3*p.length+3).map λj=>if j<3*p.length/\fB (j / 3) i k<t+1 then v15.getD (3*fB (j / 3) i k+j % 3) default else v15.getD j default) ?_ λv hv => .gdI (by simp only [];omega) (.pure ⟨⟨⟨by simp only [];omega,by simp only [];omega⟩,?_⟩,by simp only [];omega⟩)
   ·refine Nk.loop (λz=>(0<=z.2/\z.2<=3)/\z.1=(RJ<|3*p.length+3).map λj=>if j<3*p.length/\(fB (j / 3) i k<t\/fB (j / 3) i k=t/\j % 3<z.2.toNat) then v15.getD (3*fB (j / 3) i k+j % 3) default else v15.getD j default) (λz=>(3-z.2).toNat) ⟨⟨RN _,by simp only [];omega⟩,?_⟩ λz ⟨⟨k1,k2⟩,k3⟩ => ?_
    ·simp only [Int.toNat_zero,Nat.not_lt_zero,and_false,or_false];exact h3
    obtain ⟨l',g⟩:=z;simp only at k1 k2 k3;obtain ⟨g,rfl⟩:=R8 k1;simp only [tnn] at k3;unfold gL;simp only [FO];refine .bifD (λhlt2=>?_) λhge2 => .pure ?_
    ·have hll:l'.length=3*p.length+3:=by rw [k3];simp
     refine Nk.bind (P:=(· = ((fB t i k:Nat):Int))) (.pure rfl) λv46 e46=>?_;subst e46;refine .gdI (by omega)<|.gdI (by omega)<|.gdI (by omega)<|.gdI (by omega)<|.gdD ⟨by omega,by omega⟩<|.gdD ⟨by omega,by omega⟩<|.gdI (by omega)<|.pure ⟨⟨⟨by omega,by omega⟩,?_⟩,by omega⟩;simp only;rw [show ((3:Int)*((fB t i k:Nat):Int)+(g:Int)).toNat=3*fB t i k+g by omega,show ((3:Int)*(t:Int)+(g:Int)).toNat=3*t+g by omega,show ((g:Int)+1).toNat=g+1 by omega,k3,Bt _ (by omega)];refine R4 λj hj=>?_;have hj:=RO.1 hj
     by_cases e:j=3*fB t i k+g
     ·have e1:j / 3=fB t i k:=by omega
      have e2:j % 3=g:=by omega
      rw [if_pos e,e1,e2,nM,if_pos ⟨by omega,.inr ⟨rfl,by omega⟩⟩]
     rw [if_neg e];have : (j<3*p.length/\(fB (j / 3) i k<t\/fB (j / 3) i k=t/\j % 3<g))↔(j<3*p.length/\(fB (j / 3) i k<t\/fB (j / 3) i k=t/\j % 3<g+1)):=by
      constructor
      ·rintro ⟨a,b⟩;exact ⟨a,by omega⟩
      rintro ⟨a,b⟩;refine ⟨a,?_⟩;rcases b with b | ⟨b,c⟩
      ·exact .inl b
      refine .inr ⟨b,?_⟩;have : j % 3≠g:=λc'=>e (by
       have : j / 3=fB t i k:=by rw [<- b,nM]
       omega)
      omega
     simp only [this]
    rw [k3,show g=3 by omega];refine R4 λj hj=>?_;have : (j<3*p.length/\(fB (j / 3) i k<t\/fB (j / 3) i k=t/\j % 3<3))↔(j<3*p.length/\fB (j / 3) i k<t+1):=by
     have := Nat.mod_lt j (show 0<3 by decide);omega
    simp only [this]
   rw [hv];simp only [show ((t:Int)+1).toNat=t+1 by omega]
  rw [h3,show t=p.length by omega];refine R4 λj hj=>?_
  by_cases hj3:j<3*p.length
  ·have := hS (j / 3) (by omega);rw [if_pos ⟨hj3,this⟩,if_pos hj3]
  rw [if_neg λh=>hj3 h.1,if_neg hj3]
 subst e19;refine .gdI (by omega)<|.gdI (by omega)<|.gdI (by omega)<|.gdD ⟨by omega,by omega⟩<|.gdD ⟨by omega,by omega⟩<|.gdD ⟨by omega,by simp;omega⟩<|.gdD ⟨by omega,by simp;omega⟩<|.pure ?_;refine Prod.ext ?_ rfl;simp only;rw [show ((3:Int)*(p.length:Int)+(x:Int)).toNat=3*p.length+x by omega,show ((3:Int)*(p.length:Int)+(y:Int)).toNat=3*p.length+y by omega,Bt _ (by omega),Bt _ (by omega)];unfold tF;refine R4 λj hj=>?_;have hj:=RO.1 hj
 by_cases hj3:j<3*p.length
 ·rw [if_neg (by omega),if_neg (by omega),if_pos hj3];simp only [if_pos hj3]
 simp only [if_neg hj3];rw [show fB (j-3*p.length) x y=if j-3*p.length=x then y else if j-3*p.length=y then x else j-3*p.length from rfl]
 by_cases e1:j=3*p.length+y
 ·rw [if_pos e1]
  by_cases e2:j-3*p.length=x
  ·rw [if_pos e2,show x=y by omega]
  rw [if_neg e2,if_pos (by omega)]
 rw [if_neg e1]
 by_cases e2:j=3*p.length+x
 ·rw [if_pos e2,if_pos (by omega)]
 rw [if_neg e2,if_neg (by omega),if_neg (by omega),show 3*p.length+(j-3*p.length)=j by omega]
end
theorem Ha (s:List Nf) (h:s.length<=1048576):Nk (bz s s) (· = true):=by
 unfold bz;refine .bif (λh=>by simp at h) λ_=>Nk.sum (PS:=λ_=>True) (PW:=(· = true)) ?_ λ_ _ => .pure rfl;refine Nk.loop (λi=>0<=i/\i<=(s.length:Int)) (λi=>((s.length:Int)-i).toNat) ⟨RN _,by omega⟩ λi ⟨h1,h2⟩ => ?_;unfold dw;refine .bifD (λh3 => .gdD ⟨h1,h3⟩<|.gdD ⟨h1,h3⟩<|.bif (λh=>by simp at h) λ_ => .gdI (by omega)<|.pure ⟨⟨by omega,by omega⟩,by omega⟩) λ_ => .pure trivial
theorem Hd (p:List<|List Nf) (h:p.length<=1048576) (hr:∀ r∈p,r.length<=1048576):Nk (eF p p) (· = true):=by
 unfold eF;refine Nk.bind (P:=(· = true)) ?_ λv hv => .pure hv;unfold aG;refine .bif (λh=>by simp at h) λ_=>Nk.sum (PS:=λ_=>True) (PW:=(· = true)) ?_ λ_ _ => .pure rfl;refine Nk.loop (λi=>0<=i/\i<=(p.length:Int)) (λi=>((p.length:Int)-i).toNat) ⟨RN _,by omega⟩ λi ⟨h1,h2⟩ => ?_;unfold aL;refine .bifD (λh3 => .gdD ⟨h1,h3⟩<|.gdD ⟨h1,h3⟩ ?_) λ_ => .pure trivial;have hi:i.toNat<p.length:=by omega
 have hm:p.getD i.toNat default∈p:=by
  rw [gdq,geq hi];exact RL _
 unfold iJ;refine Nk.bind (Nk.bind (Ha _<|hr _ hm) λv hv => .pure (P:=(· = true)) hv) λv hv=>?_;subst hv;exact .bif (λh=>by simp at h) λ_ => .gdI (by omega)<|.pure ⟨⟨by omega,by omega⟩,by omega⟩
section
variable {α:Type} {r:Option α}
theorem jw {n:Int} {x:Option α} (h : -9223372036854775808<=n/\n<=9223372036854775807) (hx:x=r):gd (Nb .i64 n) x=r:=by rw [kT (Iw h)];exact hx
theorem rR {A:Prop} [Decidable A] {x:Option α} (h:A) (hx:x=r):gd (decide A) x=r:=by rw [kT (decide_eq_true h)];exact hx
theorem FQ {b:Bool} {x y:Option α} (h:b=true) (hx:x=r):(bif b then x else y)=r:=by rw [h];exact hx
theorem Bu {b:Bool} {x y:Option α} (h:b=false) (hx:y=r):(bif b then x else y)=r:=by rw [h];exact hx
theorem tH {β:Type} {o:Option β} {k:β->Option α} {v:β} (h:o=some v) (hx:k v=r):o.bind k=r:=by rw [h];exact hx
end
def Bts (b:LI):Prop:=b.length<=1048576/\∀ y∈b,0<=y/\y<=255
theorem Bts.get {b:LI} (h:Bts b) (k:Nat):0<=b.getD k default/\b.getD k default<=255:=by
 rw [gdq]
 by_cases hk:k<b.length
 ·rw [geq hk];exact h.2 _<|RL _
 rw [gen (by omega)];exact ⟨by decide,by decide⟩
theorem He {m n:Int} (hm:0<=m/\m<=1000000000000) (hn:0<=n/\n<=1000000000000):0<=LR .i64 m n:=by
 have e1:∀ x:Int,0<=x->x<=1000000000000->(R5 64 x).toNat<2 ^ 62:=by
  intro x h1 h2;rw [BitVec.toNat_ofInt];have : x % ((2:Nat) ^ 64:Nat)=x:=by
   rw [Int.emod_eq_of_lt h1];omega
  omega
 have h3:(R5 64 m ^^^ R5 64 n).toNat<2 ^ 62:=by
  rw [BitVec.toNat_xor];exact Nat.xor_lt_two_pow (e1 m hm.1 hm.2)<|e1 n hn.1 hn.2
 have h4:=IntWalk.i64_in (((R5 64 m ^^^ R5 64 n).toNat:Nat):Int) ⟨by omega,by omega⟩;unfold LR;rw [show IntKind.i64.bits=64 from rfl,h4];omega
theorem Hf {a n:Int} (ha:0<=a) (hn:0<n):0<=a.tmod n/\a.tmod n<n:=by
 rw [Int.tmod_eq_emod_of_nonneg ha];exact ⟨Int.emod_nonneg _ (by omega),Int.emod_lt_of_pos _ hn⟩
theorem K5 {a n:Int} (ha:0<=a) (hn:0<=n):0<=a.tdiv n/\a.tdiv n<=a:=by
 rw [Int.tdiv_eq_ediv_of_nonneg ha];exact ⟨Int.ediv_nonneg ha hn,Int.ediv_le_self _ ha⟩
theorem FR {b:LI} {p:Int} (hb:Bts b) (hp:0<=p/\p<=100000000) (n:Int):∃ v,aP ⟨b,p⟩ n=some (⟨b,p+1⟩,v)/\0<=v/\(v<n\/v=0):=by
 have hl:=hb.1;have e1:p+1-1=p:=by omega
 unfold aP;simp only [e1]
 by_cases h0:n<1\/b.length=0
 ·refine ⟨0,?_,RN _,.inr rfl⟩;refine jw (by omega) ?_;refine tH (v:=true) ?_<|FQ rfl rfl
  by_cases hn:n<1
  ·exact FQ (by simp [hn]) rfl
  refine Bu (by simp [hn]) ?_;have : b.length=0:=by omega
  simp [this]
 have hn:1<=n:=by omega
 have hl0:0<(b.length:Int):=by omega
 by_cases hlt:p<(b.length:Int)
 ·have hg:=hb.get p.toNat;have hv:=Hf hg.1 (show (0:Int)<n by omega);refine ⟨(b.getD p.toNat default).tmod n,?_,hv.1,.inl hv.2⟩;refine jw (by omega) ?_;refine tH (v:=false) (Bu (by simp;omega)<|congrArg some<|beq_eq_false_iff_ne.2<|by omega) (Bu rfl ?_);refine jw (by omega)<|FQ (by simpa using hlt) ?_;exact rR (by omega)<|jw (by omega)<|rR (by omega) rfl
 have h1:=Hf hp.1 hl0;have h2:=K5 hp.1 (show 0<=(b.length:Int) by omega);have h3:=Hf (a:=p*7+3) (by omega) hl0;have h4:=hb.get (p.tmod (b.length:Int)).toNat;have h5:=hb.get ((p*7+3).tmod (b.length:Int)).toNat;have hx:0<=(b.getD (p.tmod (b.length:Int)).toNat default)*131+(b.getD ((p*7+3).tmod (b.length:Int)).toNat default)*1117+p*29+p.tdiv (b.length:Int)*53 /\
  (b.getD (p.tmod (b.length:Int)).toNat default)*131+(b.getD ((p*7+3).tmod (b.length:Int)).toNat default)*1117+p*29+p.tdiv (b.length:Int)*53<=1000000000000:=by omega
 have h6:=K5 hx.1 (show (0:Int)<=64 by omega);have h7:=He hx ⟨h6.1,Int.le_trans h6.2 hx.2⟩;have hv:=Hf h7 (show (0:Int)<n by omega);refine ⟨_,?_,hv.1,.inl hv.2⟩;refine jw (by omega) ?_;refine tH (v:=false) (Bu (by simp;omega)<|congrArg some<|beq_eq_false_iff_ne.2<|by omega) (Bu rfl ?_);refine jw (by omega)<|Bu (by simpa using hlt) ?_;refine rR (by omega)<|rR h1<|jw (by omega)<|jw (by omega)<|jw (by omega)<|jw (by omega)<|rR h3<|jw (by omega) ?_;refine jw (by omega)<|jw (by omega)<|jw (by omega)<|jw (by omega)<|jw (by omega)<|jw (by omega)<|jw (by omega) ?_;refine rR (by omega)<|jw (by omega)<|rR (by omega) rfl
theorem K6 {b:LI} {p:Int} (hb:Bts b) (hp:0<=p/\p<=100000000) (l:LI) (hl:l≠[]):∃ v,bH ⟨b,p⟩ l=some (⟨b,p+1⟩,v)/\v∈l:=by
 obtain ⟨v,h1,h2,h3⟩:=FR hb hp (l.length:Int);have hpos:0<l.length:=List.length_pos_iff.2 hl;have h4:v<(l.length:Int):=by omega
 refine ⟨l.getD v.toNat default,?_,?_⟩
 ·unfold bH;exact tH h1<|rR ⟨h2,h4⟩ rfl
 rw [gdq,geq (by omega)];exact RL _
theorem JC {b:LI} (hb:Bts b):∃ b',iR b=some ⟨b',0⟩/\Bts b':=by
 unfold iR
 by_cases h:(2000:Int)<(b.length:Int)
 ·refine ⟨_,tH (FQ (by simpa using h)<|rR (by omega) rfl) rfl,?_,λy hy=>?_⟩
  ·rw [RP];omega
  exact hb.2 y<|Sg<|Si hy
 exact ⟨b,tH (Bu (by simpa using h) rfl) rfl,hb⟩
def Rd (k:Int) (r:ak):Prop:=Bts r.b/\0<=r.p/\r.p<=k
theorem Rd.mono {k k':Int} {r:ak} (h:Rd k r) (hk:k<=k'):Rd k' r:=⟨h.1,h.2.1,by have := h.2.2;omega⟩
theorem Rd.mk' {k:Int} {r:ak} (h:Rd k r):Rd k ⟨r.b,r.p⟩:=h
theorem jy {k:Int} {r:ak} (h:Rd k r) (hk:k<=100000000) (n:Int):Nk (aP r n) λv=>Rd (k+1) v.1/\0<=v.2/\(v.2<n\/v.2=0):=by
 obtain ⟨b,p⟩:=r;obtain ⟨h1,h2,h3⟩:=h;obtain ⟨v,e,h4,h5⟩:=FR h1 (p:=p) ⟨h2,by simp only at h3;omega⟩ n;exact ⟨_,e,⟨h1,by simp only at h2 ⊢;omega,by simp only at h3 ⊢;omega⟩,h4,h5⟩
theorem qN {k:Int} {r:ak} (h:Rd k r) (hk:k<=100000000) (l:LI) (hl:l≠[]):Nk (bH r l) λv=>Rd (k+1) v.1/\v.2∈l:=by
 obtain ⟨b,p⟩:=r;obtain ⟨h1,h2,h3⟩:=h;obtain ⟨v,e,h4⟩:=K6 h1 (p:=p) ⟨h2,by simp only at h3;omega⟩ l hl;exact ⟨_,e,⟨h1,by simp only at h2 ⊢;omega,by simp only at h3 ⊢;omega⟩,h4⟩
theorem Hg {b:LI} (h:Bts b):Nk (iR b) (Rd 0):=by
 obtain ⟨b',e,h'⟩:=JC h;exact ⟨_,e,h',RN _,RN _⟩
def Le {α:Type} (a b:Option α):Prop:=∀ q,a=some q->b=some q
theorem Le.refl {α:Type} (a:Option α):Le a a:=λ_ h=>h
theorem Le.bind {α β:Type} {a b:Option α} {k l:α->Option β} (h:Le a b) (hk:∀ x,Le (k x)<|l x):Le (a.bind k) (b.bind l):=λq hq=>by
 obtain ⟨x,h1,h2⟩:=Sn.1 hq;exact Sn.2 ⟨x,h x h1,hk x q h2⟩
theorem Le.gd {α:Type} {a b:Option α} (c:Bool) (h:Le a b):Le (gd c a) (gd c b):=λq hq=>by
 obtain ⟨h1,h2⟩:=gdL hq;rw [kT h1];exact h q h2
theorem Le.bif {α:Type} {a b a' b':Option α} (c:Bool) (h:Le a a') (h':Le b b'):Le (bif c then a else b) (bif c then a' else b'):=by
 cases c
 ·exact h'
 exact h
theorem Le.ifc {α:Type} {a b a' b':Option α} (c:Prop) [Decidable c] (h:Le a a') (h':Le b b'):Le (if c then a else b) (if c then a' else b'):=by
 split
 ·exact h
 exact h'
theorem Le.sumK {S W:Type} {a b:Option (S ⊕ W)} {k l:S->Option W} (h:Le a b) (hk:∀ x,Le (k x)<|l x):Le (sumK a k) (sumK b l):=λq hq=>by
 cases a with
 | none=>cases hq
 | some z=>
  rw [h z rfl]
  cases z with
  | inl s=>exact hk s q hq
  | inr w=>exact hq
def wu {S E:Type} (n:Nat) (step:S->Option (S ⊕ E)) (s:S):Option E:=
 Nat.rec (motive:=λ_=>S->Option E) (λ_=>none) (λ_ ih s=>match step s with
  | none=>none
  | some (.inl s')=>ih s'
  | some (.inr e)=>some e) n s
theorem Le.loop {S E:Type} {n:Nat} {step step':S->Option (S ⊕ E)} (h:∀ s,Le (step s)<|step' s) (s:S):Le (wu n step s) (bA step' s):=by
 induction n generalizing s with
 | zero=>intro q hq;cases hq
 | succ n ih=>
  intro q hq;rw [uR]
  change (match step s with
   | none=>none
   | some (.inl s')=>wu n step s'
   | some (.inr e)=>some e)=some q at hq
  match hs:step s with
  | none=>rw [hs] at hq;cases hq
  | some (.inl s')=>
   rw [hs] at hq;rw [h s _ hs];exact ih s' q hq
  | some (.inr e)=>
   rw [hs] at hq;rw [h s _ hs];exact hq
def Mh {α:Type} (e:Bool) (_ b:Option α):Option α:=bif e then none else b
theorem Le.nilK {α:Type} {e:Bool} {a b a' b':Option α} (_:Le a a') (h:Le b b'):Le (Mh e a b) (nilK e a' b'):=λq hq=>by
 cases e with
 | true=>cases hq
 | false=>
  unfold Go.Proofs.YtjcmfddobaplbaaGreat.nilK;exact h q hq
def lF (n:Int):Option ByteArray:=bif decide (0<=n/\n<=9) then some (strOfNums ([((48:Int)+n)]:LI)++(⟨#[]⟩:ByteArray)) else none
theorem strOfNums_size (l:LI):(strOfNums l).size=l.length:=by
 simp [strOfNums,ByteArray.size]
theorem uD (n:Int):Le (lF n) (lu n):=by
 intro v h;unfold lF at h
 by_cases hn:0<=n/\n<=9
 ·rw [decide_eq_true hn] at h;obtain rfl:=osl h;refine Jg 1 λk hk=>?_
  match k,hk with
  | k+1,_=>
   show ju (il k) n=_;refine Nk.eq ?_;unfold ju;refine .bifD (λh=>by omega) λ_ => .bifD (λh=>by omega) λ_=>?_;refine Nk.bind (P:=(· = ((⟨#[]⟩:ByteArray),n))) ?_ λs hs=>?_
   ·refine Nk.loop (λs=>s=((⟨#[]⟩:ByteArray),n)) (λ_=>0) rfl λs hs=>?_;subst hs;unfold mW;exact .bifD (λh=>by simp only [] at h;omega) λ_ => .pure rfl
   subst hs;refine .gdI (by simp only [];omega) (.gdY (by simp only [];omega)<|.gdD ?_<|.pure rfl);rw [strOfNums_size];exact nlb rfl
 rw [decide_eq_false hn] at h
 cases h
def kV (s:ByteArray) (c:Int):((List ByteArray)×Int×Int)->Option (((List ByteArray)×Int×Int) ⊕ (List ByteArray)):=λs5=>
 bif decide (s5.2.1<=(s.size:Int)) then
  RI (
   RI (bif (s5.2.1==(s.size:Int)) then
    some true
   else
    gd (decide<|0<=s5.2.1/\s5.2.1<(s.size:Int)) <|
    some (((s.data.getD s5.2.1.toNat 0).toNat:Int)==c)
   ) λs10=>
   bif s10 then
    gd (decide<|0<=s5.2.2/\s5.2.2<=s5.2.1/\s5.2.1<=(s.size:Int)) <|
    gd (dH (s5.1.length+1) 16) <|
    gd (Nb .i64<|s5.2.1+(1:Int)) <|
    some ((s5.1++[(s.extract s5.2.2.toNat s5.2.1.toNat)]),(s5.2.1+(1:Int)))
   else
    some (s5.1,s5.2.2)
  ) λs9=>
  gd (Nb .i64<|s5.2.1+(1:Int)) <|
  some (.inl (s9.1,(s5.2.1+(1:Int)),s9.2))
 else
  some (.inr s5.1)
theorem qO (s:ByteArray) (c:Int) (sQ:_):Le (kV s c sQ) (iW s c sQ):=by
 unfold kV iW
 solve_by_elim (maxDepth:=9999) only [*,Le.gd,Le.bif,Le.bind,Le.sumK,Le.loop,Le.nilK,Le.ifc,Le.refl]
def lG (s:ByteArray) (c:Int):Option (List ByteArray):=
 RI (
  wu 40 (kV s c) (([]:List ByteArray),(0:Int),(0:Int))
 ) λs1=>
 some s1
theorem n8 (s:ByteArray) (c:Int):Le (lG s c) (jr s c):=by
 unfold lG jr
 solve_by_elim (maxDepth:=9999) only [*,qO,Le.gd,Le.bif,Le.bind,Le.sumK,Le.loop,Le.nilK,Le.ifc,Le.refl]
def cA (s:ByteArray) (at_:Int) (from_:Int) (most:Int):Option Int:=
 RI (bif decide ((s.size:Int)<=at_) then
  some true
 else
  gd (decide<|0<=at_/\at_<(s.size:Int)) <|
  some (decide<|((s.data.getD at_.toNat 0).toNat:Int)<from_)
 ) λs1=>
 RI (bif s1 then
  some true
 else
  gd (decide<|0<=at_/\at_<(s.size:Int)) <|
  gd (Nb .u8<|((s.data.getD at_.toNat 0).toNat:Int)-from_) <|
  gd (Nb .i64<|((s.data.getD at_.toNat 0).toNat:Int)-from_) <|
  some (decide<|most<(((s.data.getD at_.toNat 0).toNat:Int)-from_))
 ) λs4=>
 bif s4 then
  some (-1:Int)
 else
  gd (decide<|0<=at_/\at_<(s.size:Int)) <|
  gd (Nb .u8<|((s.data.getD at_.toNat 0).toNat:Int)-from_) <|
  gd (Nb .i64<|((s.data.getD at_.toNat 0).toNat:Int)-from_) <|
  some (((s.data.getD at_.toNat 0).toNat:Int)-from_)
theorem tJ (s:ByteArray) (at_:Int) (from_:Int) (most:Int):Le (cA s at_ from_ most) (cf s at_ from_ most):=by
 unfold cA cf
 solve_by_elim (maxDepth:=9999) only [*,Le.gd,Le.bif,Le.bind,Le.sumK,Le.loop,Le.nilK,Le.ifc,Le.refl]
def mI (s:ByteArray):Option Nf:=
 bif decide (s=(⟨#[102,101,110,99,101]⟩:ByteArray)) then
  some (⟨(4:Int),(0:Int),(0:Int),(0:Int)⟩:Nf)
 else
  RI (cA s (0:Int) (97:Int) (2:Int)) λv2=>
  RI (cA s (0:Int) (120:Int) (2:Int)) λv3=>
  RI (bif decide ((0:Int)<=v2) then
   some ((s.size:Int)==(3:Int))
  else
   some false
  ) λs4=>
  bif s4 then
   RI (cA s (2:Int) (120:Int) (2:Int)) λv7=>
   some (⟨(1:Int),v7,v2,(0:Int)⟩:Nf)
  else
   RI (bif decide ((0:Int)<=v2) then
    some ((s.size:Int)==(5:Int))
   else
    some false
   ) λs8=>
   bif s8 then
    RI (cA s (2:Int) (120:Int) (2:Int)) λv11=>
    RI (cA s (4:Int) (48:Int) (3:Int)) λv12=>
    some (⟨(5:Int),v11,v2,v12⟩:Nf)
   else
    RI (bif decide ((0:Int)<=v3) then
     RI (cA s (2:Int) (97:Int) (2:Int)) λv15=>
     some (decide<|(0:Int)<=v15)
    else
     some false
    ) λs13=>
    bif s13 then
     RI (cA s (2:Int) (97:Int) (2:Int)) λv17=>
     some (⟨(3:Int),v3,v17,(0:Int)⟩:Nf)
    else
     RI (cA s (2:Int) (48:Int) (3:Int)) λv18=>
     some (⟨(2:Int),v3,(0:Int),v18⟩:Nf)
theorem tK (s:ByteArray):Le (mI s) (kx s):=by
 unfold mI kx
 solve_by_elim (maxDepth:=9999) only [*,tJ,Le.gd,Le.bif,Le.bind,Le.sumK,Le.loop,Le.nilK,Le.ifc,Le.refl]
def gm (v1:(List ByteArray)) (s6:(List<|List Nf)×Int) (v14:(List ByteArray)):((List Nf)×Int)->Option (((List Nf)×Int) ⊕ (List Nf)):=λs19=>
 RI (bif decide (s19.2<(v14.length:Int)) then
  some (decide<|s19.2<=(7:Int))
 else
  some false
 ) λs22=>
 RI (bif s22 then
  some (!decide ((v1.getD s6.2.toNat default)=(⟨#[]⟩:ByteArray)))
 else
  some false
 ) λs24=>
 bif s24 then
  gd (decide<|0<=s19.2/\s19.2<(v14.length:Int)) <|
  RI (mI<|v14.getD s19.2.toNat default) λv28=>
  gd (dH (s19.1.length+1) 32) <|
  gd (Nb .i64<|s19.2+(1:Int)) <|
  some (.inl ((s19.1++[v28]),(s19.2+(1:Int))))
 else
  some (.inr s19.1)
theorem l6 (v1:(List ByteArray)) (s6:(List<|List Nf)×Int) (v14:(List ByteArray)) (sQ:_):Le (gm v1 s6 v14 sQ) (dK v1 s6 v14 sQ):=by
 unfold gm dK
 solve_by_elim (maxDepth:=9999) only [*,tK,Le.gd,Le.bif,Le.bind,Le.sumK,Le.loop,Le.nilK,Le.ifc,Le.refl]
def gP (v1:(List ByteArray)):((List<|List Nf)×Int)->Option (((List<|List Nf)×Int) ⊕ (List<|List Nf)):=λs6=>
 RI (bif decide (s6.2<(v1.length:Int)) then
  some (decide<|s6.2<=(3:Int))
 else
  some false
 ) λs9=>
 bif s9 then
  RI (
   gd (decide<|0<=s6.2/\s6.2<(v1.length:Int)) <|
   RI (lG (v1.getD s6.2.toNat default) (59:Int)) λv14=>
   RI (
    wu 40 (gm v1 s6 v14) (([]:List Nf),(0:Int))
   ) λs15=>
   gd (dH (s6.1.length+1) 24) <|
   some (s6.1++[s15])
  ) λs12=>
  gd (Nb .i64<|s6.2+(1:Int)) <|
  some (.inl (s12,(s6.2+(1:Int))))
 else
  some (.inr s6.1)
theorem mJ (v1:(List ByteArray)) (sQ:_):Le (gP v1 sQ) (dZ v1 sQ):=by
 unfold gP dZ
 solve_by_elim (maxDepth:=9999) only [*,n8,l6,Le.gd,Le.bif,Le.bind,Le.sumK,Le.loop,Le.nilK,Le.ifc,Le.refl]
def jJ (from_:Int) (n:Int):Option ByteArray:=
 gd (Nb .u8 n) <|
 gd (Nb .u8<|from_+n) <|
 some (strOfNums ([(from_+n)]:LI))
theorem rS (from_:Int) (n:Int):Le (jJ from_ n) (ik from_ n):=by
 unfold jJ ik
 solve_by_elim (maxDepth:=9999) only [*,Le.gd,Le.bif,Le.bind,Le.sumK,Le.loop,Le.nilK,Le.ifc,Le.refl]
def nN (x:Nf):Option ByteArray:=
 RI (jJ (120:Int) x.Loc) λv1=>
 RI (jJ (97:Int) x.Reg) λv2=>
 bif (x.Op==(1:Int)) then
  gd (decide<|v2.size+(⟨#[61]⟩:ByteArray).size<=9223372036854775807) <|
  gd (decide<|(v2++(⟨#[61]⟩:ByteArray)).size+v1.size<=9223372036854775807) <|
  some ((v2++(⟨#[61]⟩:ByteArray))++v1)
 else
  bif (x.Op==(2:Int)) then
   gd (decide<|v1.size+(⟨#[61]⟩:ByteArray).size<=9223372036854775807) <|
   RI (lF x.Val) λv8=>
   gd (decide<|(v1++(⟨#[61]⟩:ByteArray)).size+v8.size<=9223372036854775807) <|
   some ((v1++(⟨#[61]⟩:ByteArray))++v8)
  else
   bif (x.Op==(3:Int)) then
    gd (decide<|v1.size+(⟨#[61]⟩:ByteArray).size<=9223372036854775807) <|
    gd (decide<|(v1++(⟨#[61]⟩:ByteArray)).size+v2.size<=9223372036854775807) <|
    some ((v1++(⟨#[61]⟩:ByteArray))++v2)
   else
    bif (x.Op==(5:Int)) then
     gd (decide<|v2.size+(⟨#[61]⟩:ByteArray).size<=9223372036854775807) <|
     gd (decide<|(v2++(⟨#[61]⟩:ByteArray)).size+v1.size<=9223372036854775807) <|
     gd (decide<|((v2++(⟨#[61]⟩:ByteArray))++v1).size+(⟨#[58]⟩:ByteArray).size<=9223372036854775807) <|
     RI (lF x.Val) λv17=>
     gd (decide<|(((v2++(⟨#[61]⟩:ByteArray))++v1)++(⟨#[58]⟩:ByteArray)).size+v17.size<=9223372036854775807) <|
     some ((((v2++(⟨#[61]⟩:ByteArray))++v1)++(⟨#[58]⟩:ByteArray))++v17)
    else
     some (⟨#[102,101,110,99,101]⟩:ByteArray)
theorem uE (x:Nf):Le (nN x) (lw x):=by
 unfold nN lw
 solve_by_elim (maxDepth:=9999) only [*,rS,uD,Le.gd,Le.bif,Le.bind,Le.sumK,Le.loop,Le.nilK,Le.ifc,Le.refl]
def iL (p:List<|List Nf) (s4:Int×ByteArray):(Int×ByteArray)->Option ((Int×ByteArray) ⊕ ByteArray):=λs13=>
 gd (decide<|0<=s4.1/\s4.1<(p.length:Int)) <|
 bif decide (s13.1<((p.getD s4.1.toNat default).length:Int)) then
  RI (
   bif decide ((0:Int)<s13.1) then
    gd (decide<|s13.2.size+(⟨#[59]⟩:ByteArray).size<=9223372036854775807) <|
    some (s13.2++(⟨#[59]⟩:ByteArray))
   else
    some s13.2
  ) λs17=>
  gd (decide<|0<=s13.1/\s13.1<((p.getD s4.1.toNat default).length:Int)) <|
  RI (nN<|(p.getD s4.1.toNat default).getD s13.1.toNat default) λv21=>
  gd (decide<|s17.size+v21.size<=9223372036854775807) <|
  gd (Nb .i64<|s13.1+(1:Int)) <|
  some (.inl ((s13.1+(1:Int)),(s17++v21)))
 else
  some (.inr s13.2)
theorem nO (p:List<|List Nf) (s4:Int×ByteArray) (sQ:_):Le (iL p s4 sQ) (iK p s4 sQ):=by
 unfold iL iK
 solve_by_elim (maxDepth:=9999) only [*,uE,Le.gd,Le.bif,Le.bind,Le.sumK,Le.loop,Le.nilK,Le.ifc,Le.refl]
def jb (p:List<|List Nf):(Int×ByteArray)->Option ((Int×ByteArray) ⊕ ByteArray):=λs4=>
 bif decide (s4.1<(p.length:Int)) then
  RI (
   RI (
    bif decide ((0:Int)<s4.1) then
     gd (decide<|s4.2.size+(⟨#[124]⟩:ByteArray).size<=9223372036854775807) <|
     some (s4.2++(⟨#[124]⟩:ByteArray))
    else
     some s4.2
   ) λs8=>
   wu 40 (iL p s4) ((0:Int),s8)
  ) λs7=>
  gd (Nb .i64<|s4.1+(1:Int)) <|
  some (.inl ((s4.1+(1:Int)),s7))
 else
  some (.inr s4.2)
theorem om (p:List<|List Nf) (sQ:_):Le (jb p sQ) (ja p sQ):=by
 unfold jb ja
 solve_by_elim (maxDepth:=9999) only [*,nO,Le.gd,Le.bif,Le.bind,Le.sumK,Le.loop,Le.nilK,Le.ifc,Le.refl]
def kW (p:List<|List Nf):Option ByteArray:=
 RI (
  wu 40 (jb p) ((0:Int),(⟨#[]⟩:ByteArray))
 ) λs1=>
 some s1
theorem qP (p:List<|List Nf):Le (kW p) (iX p):=by
 unfold kW iX
 solve_by_elim (maxDepth:=9999) only [*,om,Le.gd,Le.bif,Le.bind,Le.sumK,Le.loop,Le.nilK,Le.ifc,Le.refl]
def gp (text:ByteArray):Option ((List<|List Nf)×Bool):=
 RI (lG text (124:Int)) λv1=>
 RI (
  wu 40 (gP v1) (([]:List<|List Nf),(0:Int))
 ) λs2=>
 RI (cZ s2) λv36=>
 RI (bif !v36 then
  some true
 else
  RI (kW s2) λv39=>
  some (!decide (v39=text))
 ) λs37=>
 bif s37 then
  some (([]:List<|List Nf),false)
 else
  some (s2,true)
theorem oq (text:ByteArray):Le (gp text) (bO text):=by
 unfold gp bO
 solve_by_elim (maxDepth:=9999) only [*,n8,mJ,qP,Le.gd,Le.bif,Le.bind,Le.sumK,Le.loop,Le.nilK,Le.ifc,Le.refl]
def smI (x:Nf):Bool:=decide<|(-1<=x.Op/\x.Op<=6)/\(-1<=x.Loc/\x.Loc<=3)/\(-1<=x.Reg/\x.Reg<=3)/\(-1<=x.Val/\x.Val<=4)
def smP (p:List<|List Nf):Bool:=decide (p.length<=4)&&p.all λr=>decide (r.length<=8)&&r.all smI
def uZ (t:ByteArray):Bool:=match gp t with
 | some v=>smP v.1
 | none=>false
theorem DN:∀ l,gD=some l->l.all uZ=true:=by
 intro l h;obtain rfl:=osl h
 decide +kernel
theorem yf {t:ByteArray} (h:uZ t=true):Nk (bO t) λv=>smP v.1=true:=by
 unfold uZ at h
 cases hc:gp t with
 | none=>rw [hc] at h;cases h
 | some v=>
  rw [hc] at h;exact ⟨v,oq t v hc,h⟩
theorem Hh:∀ l,gD=some l->∀ t∈l,Nk (bO t) λv=>smP v.1=true:=
 λl h t ht=>yf (Sj.1 (DN l h) t ht)
theorem qQ {p:List (List Nf)}:smP p=true↔p.length<=4/\∀ r∈p,r.length<=8/\∀ x∈r,smI x=true:=by
 simp only [smP,bae,dte,Sj]
theorem Hk {p:List (List Nf)} (h:smP p=true):DK p=true:=by
 rw [qQ] at h;simp only [DK,bae,dte,Sj];exact ⟨by omega,λr hr=>by have := (h.2 r hr).1;omega⟩
theorem ve {α:Type} {m:Nat}:∀ {p:List (List α)},(∀ r∈p,r.length<=m)->total p<=p.length*m
 | [],_=>by simp [total]
 | r::p,h=>by
  have h1:=ve (p:=p) λx hx=>h x<|List.mem_cons_of_mem _ hx;have h2:=h r<|List.mem_cons_self;simp only [total,List.map_cons,List.sum_cons,llc,Nat.add_mul,Nat.one_mul] at h1 ⊢;omega
theorem K7 {p:List (List Nf)} (h:smP p=true):p.length<=1048576/\total p<=1048576:=by
 rw [qQ] at h;have h1:=ve (m:=8) λr hr=>(h.2 r hr).1;have h2:p.length*8<=32:=by omega
 exact ⟨by omega,by omega⟩
theorem ww {k:Int} {r:ak} (h:Rd k r) (hk:k<=10000000):Nk (iS r) λv=>Rd (k+4) v.1/\smI v.2=true:=by
 unfold iS;refine (jy h.mk' (by omega) 2).bind λv1 ⟨a1,a2,a3⟩=>(jy a1.mk' (by omega) 7).bind λv2 ⟨b1,b2,b3⟩ => ?_;refine .bif (λ_ => .pure ⟨b1.mono (by omega),by simp only [smI];exact decide_eq_true<|by omega⟩) λ_=>?_;refine .bif (λ_=>(jy b1.mk' (by omega) 2).bind λv3 ⟨c1,c2,c3⟩ => .pure ⟨c1.mono (by omega),decide_eq_true<|by simp only [];omega⟩) λ_=>?_;refine .bif (λ_=>(jy b1.mk' (by omega) 2).bind λv3 ⟨c1,c2,c3⟩=>(jy c1.mk' (by omega) 3).bind λv4 ⟨d1,d2,d3⟩ => .gdI (by omega)<|.pure ⟨d1.mono (by omega),decide_eq_true<|by simp only [];omega⟩) λ_=>?_;refine Nk.bind (P:=λ_=>True) (.bif (λ_ => .pure trivial) λ_ => .pure trivial) λs _=>?_;refine .bif (λ_=>(jy b1.mk' (by omega) 3).bind λv3 ⟨c1,c2,c3⟩ => .gdI (by omega)<|.pure ⟨c1.mono (by omega),decide_eq_true<|by simp only [];omega⟩) λ_=>?_;exact (jy b1.mk' (by omega) 2).bind λv3 ⟨c1,c2,c3⟩ => .pure ⟨c1.mono (by omega),decide_eq_true<|by simp only [];omega⟩
theorem DR {k:Int} {b:LI} {p n:Int} (h:Rd k ⟨b,p⟩) (hk:k<=1000000) (hn:0<=n/\n<=3):Nk (bA iz (b,p,([]:List Nf),n)) λv=>Rd (k+12) ⟨v.1,v.2.1⟩/\v.2.2.length<=3/\∀ x∈v.2.2,smI x=true:=by
 refine Nk.loop (λs=>Rd (k+4*(3-s.2.2.2)) ⟨s.1,s.2.1⟩/\(0<=s.2.2.2/\s.2.2.2+(s.2.2.1.length:Int)<=3)/\∀ x∈s.2.2.1,smI x=true) (λs=>s.2.2.2.toNat) ⟨h.mono (by simp only [];omega),by simp;omega,by simp⟩ λs ⟨h1,h2,h3⟩ => ?_;unfold iz;refine .bifD (λh0=>?_) λh0 => .pure ⟨h1.mono (by omega),by simp only [];omega,h3⟩;refine (ww h1<|by omega).bind λv ⟨a1,a2⟩ => .gdC (by omega) rfl<|.gdI (by omega)<|.pure ⟨⟨a1.mk'.mono (by simp only [];omega),by simp only [lla,llc,RQ];omega,λx hx=>?_⟩,by simp only [];omega⟩;rcases RY.1 hx with hx | hx
 ·exact h3 x hx
 rw [RZ.1 hx];exact a2
theorem Bv {k:Int} {b:LI} {p n:Int} (h:Rd k ⟨b,p⟩) (hk:k<=100000) (hn:0<=n/\n<=3):Nk (bA iA (b,p,([]:List<|List Nf),n)) λv=>Rd (k+39) ⟨v.1,v.2.1⟩/\smP v.2.2=true:=by
 refine Nk.loop (λs=>Rd (k+13*(3-s.2.2.2)) ⟨s.1,s.2.1⟩/\(0<=s.2.2.2/\s.2.2.2+(s.2.2.1.length:Int)<=3)/\∀ r∈s.2.2.1,r.length<=8/\∀ x∈r,smI x=true) (λs=>s.2.2.2.toNat) ⟨h.mono (by simp only [];omega),by simp;omega,by simp⟩ λs ⟨h1,h2,h3⟩ => ?_;unfold iA;refine .bifD (λh0=>?_) λh0 => .pure ⟨h1.mono (by omega),qQ.2 ⟨by simp only [];omega,h3⟩⟩;refine Nk.bind (P:=λv=>Rd (k+13*(3-s.2.2.2)+13) ⟨v.1,v.2.1⟩/\∃ t:List Nf,v.2.2=s.2.2.1++[t]/\t.length<=8/\∀ x∈t,smI x=true) ?_ λv ⟨a1,t,a2,a3,a4⟩ => ?_
 ·refine Nk.bind (P:=λv=>Rd (k+13*(3-s.2.2.2)+13) ⟨v.1,v.2.1⟩/\v.2.2.length<=3/\∀ x∈v.2.2,smI x=true) ?_ λv ⟨a1,a2,a3⟩ => .gdC (by omega) rfl<|.pure ⟨a1,v.2.2,rfl,by omega,a3⟩;refine (qN h1 (by omega) _<|by simp).bind λv ⟨b1,b2⟩=>(DR (n:=v.2) b1.mk' (by omega)<|by simp only [R9,Sa,or_false] at b2;omega).mono λu ⟨c1,c2,c3⟩=>⟨c1.mono (by omega),c2,c3⟩
 refine .gdI (by omega)<|.pure ⟨⟨a1.mono (by simp only [];omega),by simp only [a2,lla,llc,RQ];omega,λr hr=>?_⟩,by simp only [];omega⟩;simp only [a2] at hr;rcases RY.1 hr with hr | hr
 ·exact h3 r hr
 rw [RZ.1 hr];exact ⟨a3,a4⟩
theorem DT {k:Int} {r:ak} (h:Rd k r) (hk:k<=10000) (hp:∀ l,gD=some l->∀ t∈l,Nk (bO t) λv=>smP v.1=true):Nk (lC r) λv=>Rd (k+46) v.1/\smP v.2=true:=by
 unfold lC;have e1:∃ l,gD=some l/\0<l.length/\l.length<=100:=⟨_,rfl,by decide,by decide⟩;obtain ⟨l,e1,e2,e3⟩:=e1;have hp':=hp l e1;refine (Nk.of (P:=λv=>v=l) e1 rfl).bind λv1 hv=>?_;subst hv;refine Nk.sum (PS:=λs=>Rd (k+2) ⟨s.1,s.2⟩) (PW:=λv:ak×List (List Nf)=>Rd (k+46) v.1/\smP v.2=true) ?_ λs hs=>?_
 ·refine (jy h.mk' (by omega) 3).bind λv3 ⟨a1,a2,a3⟩ => .bif (λ_=>?_) λ_ => .pure<|a1.mk'.mono (by omega);refine (jy a1.mk' (by omega) _).bind λv5 ⟨b1,b2,b3⟩ => .gdD ⟨b2,by omega⟩ ?_;have hlt:v5.2.toNat<v1.length:=by omega
  refine Nk.bind (hp' (v1.getD v5.2.toNat default)<|by rw [gdq,geq hlt];exact RL _) λv7 h7=>?_;exact .bif (λ_ => .pure ⟨b1.mk'.mono (by omega),h7⟩) λ_ => .pure<|b1.mk'.mono (by omega)
 refine Nk.bind (P:=λv=>Rd (k+42) ⟨v.1,v.2.1⟩/\smP v.2.2=true) ?_ λv ⟨a1,a2⟩ => ?_
 ·exact (qN hs (by omega) _<|by simp).bind λv ⟨b1,b2⟩=>(Bv (n:=v.2) b1.mk' (by omega)<|by simp only [R9,Sa,or_false] at b2;omega).mono λu ⟨c1,c2⟩=>⟨c1.mono (by omega),c2⟩
 have hv:Nk (cZ v.2.2) λ_=>True := .gdD (K7 a2)<|.pure trivial;refine hv.bind λb _ => .bif (λ_ => .pure ⟨a1.mono (by omega),a2⟩) λ_=>?_;exact (ww a1<|by omega).bind λu ⟨c1,c2⟩ => .pure ⟨c1.mk'.mono (by omega),qQ.2 ⟨by simp,by simp [c2]⟩⟩
theorem JD {p:List (List Nf)} (h:smP p=true) {i:Nat} (hi:i<p.length) {l:List Nf} (hl:(p.getD i []).length+l.length<=9) (hx:∀ x∈l,smI x=true):(Gr p i l).length<=4/\∀ r∈Gr p i l,r.length<=9/\∀ x∈r,smI x=true:=by
 rw [qQ] at h;unfold Gr;refine ⟨by rw [List.length_set];exact h.1,λr hr=>?_⟩;rcases Sq hr with hr | rfl
 ·exact ⟨by have := (h.2 r hr).1;omega,(h.2 r hr).2⟩
 have hg:p.getD i []=p[i]:=by simp [hi]
 refine ⟨by rw [lla];omega,λx hxx=>?_⟩;rcases RY.1 hxx with hxx | hxx
 ·rw [hg] at hxx;exact (h.2 _<|RL hi).2 x hxx
 exact hx x hxx
def Sm (p:List<|List Nf):Prop:=p.length<=9/\∀ r∈p,r.length<=9/\∀ x∈r,smI x=true
theorem CH {p:List (List Nf)} (h:smP p=true):Sm p:=by
 rw [qQ] at h;exact ⟨by omega,λr hr=>⟨by have := (h.2 r hr).1;omega,(h.2 r hr).2⟩⟩
theorem Sm.sz {p:List (List Nf)} (h:Sm p):p.length<=1048576/\total p<=1048576:=by
 have h1:=ve (m:=9) λr hr=>(h.2 r hr).1;have h2:p.length*9<=81:=by have := h.1;omega
 exact ⟨by have := h.1;omega,by omega⟩
theorem Ac {k:Int} {r:ak} (h:Rd k r) (hk:k<=100000) {p:List (List Nf)} (hp:smP p=true):Nk (ij r p) λv=>Rd (k+4) v.1/\Sm v.2:=by
 unfold ij;have hp0:=qQ.1 hp;have hg:∀ i,(p.getD i []).length<=8:=λi=>by
  by_cases hi:i<p.length
  ·have : p.getD i []=p[i]:=by simp [hi]
   rw [this];exact (hp0.2 _<|RL hi).1
  simp [List.getD,gen (Nat.le_of_not_lt hi)]
 refine .gd (Hk hp)<|.bif (λ_ => .pure ⟨h.mono (by omega),CH hp⟩) λh0=>?_;have hpos:0<p.length:=by
  cases hc:p.length with
  | zero=>rw [hc] at h0;cases h0
  | succ n=>omega
 refine (jy h (by omega) _).bind λv1 ⟨a1,a2,a3⟩=>(jy a1 (by omega) _).bind λv2 ⟨b1,b2,b3⟩ => .gdD ⟨a2,by omega⟩ ?_;have hi:v1.2.toNat<p.length:=by omega
 have put:∀ {l:List Nf},(p.getD v1.2.toNat []).length+l.length<=9->(∀ x∈l,smI x=true)->Sm (Gr p v1.2.toNat l):=λ{l} hl hx=>by
  obtain ⟨g1,g2⟩:=JD hp hi hl hx;exact ⟨by omega,g2⟩
 refine .bif (λ_=>(qN b1 (by omega) _<|by simp).bind λa ⟨c1,c2⟩=>(qN c1 (by omega) _<|by simp).bind λb ⟨d1,d2⟩ => .pure ⟨d1.mono (by omega),put (by have := hg v1.2.toNat;simp only [llc,RQ];omega) λx hx=>?_⟩) λ_=>?_
 ·rw [RZ.1 hx];simp only [R9,Sa,or_false] at c2 d2;exact decide_eq_true (by simp only [];omega)
 refine .bif (λ_=>(qN b1 (by omega) _<|by simp).bind λa ⟨c1,c2⟩ => .pure ⟨c1.mono (by omega),put (by have := hg v1.2.toNat;simp only [llc,RQ];omega) λx hx=>?_⟩) λ_=>?_
 ·rw [RZ.1 hx];simp only [R9,Sa,or_false] at c2;exact decide_eq_true (by simp only [];omega)
 refine .bif (λ_ => .pure ⟨b1.mono (by omega),by simp only [lla,Sr];omega,λr hr=>?_⟩) λ_=>?_
 ·rcases RY.1 hr with hr | hr
  ·exact ⟨by have := (hp0.2 r hr).1;omega,(hp0.2 r hr).2⟩
  rw [Ss hr];exact ⟨by simp,by simp⟩
 refine .bif (λ_ => .pure ⟨b1.mono (by omega),put (by have := hg v1.2.toNat;rw [Sr];omega) λx hx=>?_⟩) λ_=>?_
 ·rw [Ss hx]
  rfl
 refine .bif (λ_ => .pure ⟨b1.mono (by omega),?_⟩) λ_ => .pure ⟨b1.mono (by omega),CH hp⟩;exact ⟨by simp only [RP,R3];omega,λr hr=>(CH hp).2 r<|Sg<|Si hr⟩

instance decIns:DecidableEq Nf:=λa b=>decidable_of_iff (a.Op=b.Op/\a.Loc=b.Loc/\a.Reg=b.Reg/\a.Val=b.Val) ⟨λ⟨h1,h2,h3,h4⟩=>by cases a;cases b;simp only at h1 h2 h3 h4;rw [h1,h2,h3,h4],λh=>by rw [h];exact ⟨rfl,rfl,rfl,rfl⟩⟩
section
variable {p:List (List Nf)}
end
section
variable {P:Nat->List Nf} {d:Bool} {cl:Int->Int}
theorem wy {κ α:Type} [DecidableEq κ] {s:κ->κ} (hs:∀ k,s (s k)=k) (f:κ->α) (k:κ) (v:α):ud (λj=>f<|s j) (s k) v=λj=>ud f k v (s j):=by
 funext j
 unfold ud
 by_cases h:j=s k
 ·subst h;rw [if_pos rfl,if_pos (hs k)]
 rw [if_neg h,if_neg λe=>h (by rw [<- e,hs])]
def lcX (s:Int->Int) (x:Nf):Nf:=⟨x.Op,if x.Op=4 then x.Loc else s x.Loc,x.Reg,x.Val⟩
def lcS (s s':Int->Int) (a:TS):TS:=⟨a.pc,a.rg,λl=>a.mm<|s l,λt c=>(a.bf t<|s' c).map λe=>(s e.1,e.2)⟩
theorem DU {s:Int->Int} (hs:∀ k,s (s k)=k) (l z:Int) (b:List<|Int×Int):rQ (s l) (b.map λe=>(s e.1,e.2)) z=rQ l b z:=by
 have : ∀ l':List (Int×Int),(l'.map λe=>(s e.1,e.2)).find? (λe=>decide<|e.1=s l)=(l'.find? λe=>decide<|e.1=l).map λe=>(s e.1,e.2):=λl'=>by
  induction l' with
  | nil=>rfl
  | cons e l' ih=>
   have h:(s e.1=s l)↔e.1=l:=⟨λh=>by rw [<- hs e.1,h,hs],λh=>by rw [h]⟩
   by_cases g:e.1=l
   ·simp [g]
   have : ¬ s e.1=s l:=λk=>g<|h.1 k;simp [g,this,ih]
 unfold rQ;rw [<- List.map_reverse,this]
 cases b.reverse.find? λe=>decide (e.1=l) <;> rfl
theorem JE {s s':Int->Int} (hs:∀ k,s (s k)=k) (hs':∀ k,s' (s' k)=k) (hc:∀ l,cl (s l)=s' (cl l)) {a b:TS} (h:StT P d cl a b):StT (λt=>(P t).map<|lcX s) d cl (lcS s s' a) (lcS s s' b):=by
 cases h with
 | @ex t x hx=>
  have e:lcS s s' (exT d cl a t x)=exT d cl (lcS s s' a) t (lcX s x):=by
   by_cases h4:x.Op=4
   ·have h1:Nl x=false:=by unfold Nl;rw [h4];rfl
    have h2:wrX x=false:=by unfold wrX;rw [h4];rfl
    have h3:ul x=false:=by unfold ul;rw [h4];rfl
    have h5:Nl (lcX s x)=false:=h1;have h6:wrX (lcX s x)=false:=h2;have h7:ul (lcX s x)=false:=h3;simp [exT,lcS,h1,h2,h3,h5,h6,h7]
   have hl:(lcX s x).Loc=s x.Loc:=by simp [lcX,h4]
   have h1:qg cl (lcS s s' a) t (s x.Loc)=qg cl a t x.Loc:=by
    unfold qg lcS;simp only [hc,hs,hs'];exact DU hs _ _ _
   have h2:Bi (lcS s s' a) t (lcX s x)=Bi a t x:=rfl;have h5:Nl (lcX s x)=Nl x:=rfl;have h6:wrX (lcX s x)=wrX x:=rfl;have h7:ul (lcX s x)=ul x:=rfl;have h8:(lcX s x).Op=x.Op:=rfl;have h9:(lcX s x).Reg=x.Reg:=rfl;unfold exT;rw [hl,h1,h2,h5,h6,h7,h8,h9];refine TS.ext rfl rfl ?_ ?_
   ·simp only [lcS,wy hs];split <;> rfl
   simp only [lcS]
   split
   ·funext t' c
    unfold ud
    by_cases e:t'=t
    ·subst e;rw [if_pos rfl,if_pos rfl,hc]
     by_cases g:c=s' (cl x.Loc)
     ·subst g;rw [if_pos (hs' _),if_pos rfl,hs'];simp
     rw [if_neg λe=>g (by rw [<- e,hs']),if_neg g]
    rw [if_neg e,if_neg e]
   rfl
  rw [e];refine .ex ⟨?_,λh c=>?_⟩
  ·simp only [lcS];rw [RV,hx.1];rfl
  simp only [lcS];rw [hx.2 h];rfl
 | @fl t c e r h=>
  have e:lcS s s' (flT a t c e r)=flT (lcS s s' a) t (s' c) (s e.1,e.2) (r.map λe=>(s e.1,e.2)):=by
   unfold flT;refine TS.ext rfl rfl ?_ ?_
   ·simp only [lcS,wy hs]
   simp only [lcS]
   funext t' c'
   unfold ud
   by_cases e:t'=t
   ·subst e;rw [if_pos rfl,if_pos rfl]
    by_cases g:c'=s' c
    ·subst g;rw [if_pos (hs' _),if_pos rfl]
    rw [if_neg λe=>g (by rw [<- e,hs']),if_neg g]
   rw [if_neg e,if_neg e]
  rw [e];exact .fl (by simp only [lcS,hs'];rw [h];rfl)
theorem K8 {s s':Int->Int} (hs:∀ k,s (s k)=k) (hs':∀ k,s' (s' k)=k) (hc:∀ l,cl (s l)=s' (cl l)) {a:TS} (h:Rch (StT P d cl) a0T a):Rch (StT (λt=>(P t).map<|lcX s) d cl) a0T (lcS s s' a):=by
 induction h with
 | base=>exact .base
 | step _ k ih=>exact ih.step (JE hs hs' hc k)
theorem K9 {s s':Int->Int} (hs:∀ k,s (s k)=k) (hs':∀ k,s' (s' k)=k) (hc:∀ l,cl (s l)=s' (cl l)) {n:Nat} {f:LI->LI} (hf:∀ a,outT n (lcS s s' a)=f (outT n a)) {o:LI} (h:Kt P d cl n o):Kt (λt=>(P t).map<|lcX s) d cl n (f o):=by
 obtain ⟨a,h1,h2,rfl⟩:=h;exact ⟨_,K8 hs hs' hc h1,⟨λt=>by rw [llm];exact h2.1 t,λt c=>by simp only [lcS];rw [h2.2];rfl⟩,hf a⟩
end
structure Ms where
 val:Int
 lk:Bool
 vw:Int->Nat
structure RS where
 pc:Nat->Nat
 rg:Nat->Int->Int
 li:Int->List Ms
 ow:Nat->Int->Nat
theorem RS.ext {a b:RS} (h1:a.pc=b.pc) (h2:a.rg=b.rg) (h3:a.li=b.li) (h4:a.ow=b.ow):a=b:=by
 cases a;cases b;simp only at h1 h2 h3 h4;subst h1 h2 h3 h4;rfl
def mvV (l:Int) (k:Nat) (w:Int->Nat):Int->Nat:=ud w l (if k<=w l then w l+1 else w l)
def mvM (l:Int) (k:Nat) (m:Ms):Ms:=⟨m.val,m.lk,mvV l k m.vw⟩
def joV (v w:Int->Nat):Int->Nat:=λl=>max (v l)<|w l
def DV (a:RS) (t:Nat) (l:Int) (k:Nat) (v:Int):RS where
 pc:=a.pc
 rg:=a.rg
 li:=ud (λl'=>(a.li l').map<|mvM l k) l (((a.li l).map<|mvM l k).take k++⟨v,false,ud (a.ow t) l k⟩::((a.li l).map<|mvM l k).drop k)
 ow:=ud (λu=>mvV l k<|a.ow u) t<|ud (a.ow t) l k
def La (a:RS) (t:Nat) (x:Nf):Int:=if x.Op=3 then a.rg t x.Reg else x.Val
def lkM (m:Ms):Ms:=⟨m.val,true,m.vw⟩
def rdR (a:RS) (t:Nat) (x:Nf) (m:Ms):RS where
 pc:=ud a.pc t<|a.pc t+1
 rg:=ud a.rg t<|ud (a.rg t) x.Reg m.val
 li:=a.li
 ow:=ud a.ow t<|joV (a.ow t) m.vw
def pcR (a:RS) (t:Nat):RS:={ a with pc:=ud a.pc t (a.pc t+1) }
def lkR (a:RS) (l:Int) (k:Nat):RS:={ a with li:=ud a.li l ((a.li l).modify k lkM) }
inductive StR (P:Nat->List Nf):RS->RS->Prop
 | fen {a:RS} {t:Nat} {x:Nf} (h:(P t)[a.pc t]? = some x) (o:x.Op=4):StR P a (pcR a t)
 | ld {a:RS} {t k:Nat} {x:Nf} {m:Ms} (h:(P t)[a.pc t]? = some x) (o:x.Op=1) (hk:a.ow t x.Loc<=k) (hm:(a.li x.Loc)[k]? = some m):StR P a (rdR a t x m)
 | st {a:RS} {t k:Nat} {x:Nf} {m:Ms} (h:(P t)[a.pc t]? = some x) (o:x.Op=2\/x.Op=3) (hk:a.ow t x.Loc<=k) (hm:(a.li x.Loc)[k]? = some m) (hl:m.lk=false):StR P a (DV (pcR a t) t x.Loc (k+1)<|La a t x)
 | sw {a:RS} {t k:Nat} {x:Nf} {m:Ms} (h:(P t)[a.pc t]? = some x) (o:x.Op=5) (hk:a.ow t x.Loc<=k) (hm:(a.li x.Loc)[k]? = some m) (hl:m.lk=false):StR P a (lkR (DV (rdR a t x m) t x.Loc (k+1) x.Val) x.Loc k)
def a0R:RS:=⟨λ_=>0,λ_ _=>0,λ_=>[⟨0,false,λ_=>0⟩],λ_ _=>0⟩
def Bw (a:RS) (l:Int):Int:=match (a.li l).getLast? with
 | some m=>m.val
 | none=>0
def Gs (n:Nat) (a:RS):LI:=((RJ n).flatMap λt=>(RJ 3).map λg:Nat=>a.rg t g)++(RJ 3).map λl:Nat=>Bw a l
def DnR (P:Nat->List Nf) (a:RS):Prop:=∀ t,(P t).length<=a.pc t
def LX (P:Nat->List Nf) (n:Nat):LI->Prop:=Md (StR P) a0R (DnR P)<|Gs n
section
variable {P:Nat->List Nf}
def lcM (s:Int->Int) (m:Ms):Ms:=⟨m.val,m.lk,λl=>m.vw<|s l⟩
def lcR (s:Int->Int) (a:RS):RS:=⟨a.pc,a.rg,λl=>(a.li<|s l).map<|lcM s,λt l=>a.ow t<|s l⟩
theorem Lb {s:Int->Int} (hs:∀ k,s (s k)=k) (l:Int) (k:Nat) (w:Int->Nat):mvV (s l) k (λj=>w<|s j)=λj=>mvV l k w (s j):=by
 unfold mvV;simp only [hs];exact wy hs _ _ _
theorem II {s:Int->Int} (hs:∀ k,s (s k)=k) (a:RS) (t:Nat) (l:Int) (k:Nat) (v:Int):lcR s (DV a t l k v)=DV (lcR s a) t (s l) k v:=by
 have h1:∀ L:List Ms,(L.map<|mvM l k).map (lcM s)=(L.map<|lcM s).map (mvM (s l) k):=λL=>by
  rw [List.map_map,List.map_map];refine R4 λm _=>?_;simp only [Function.comp,lcM,mvM,Lb hs]
 unfold DV;refine RS.ext rfl rfl ?_ ?_
 ·simp only [lcR,hs]
  funext l'
  unfold ud
  by_cases g:l'=s l
  ·subst g;rw [if_pos (hs l),if_pos rfl];simp only [List.map_append,List.map_cons,List.map_take,List.map_drop,h1]
   congr 2
   simp only [lcM]
   congr 1
   exact (wy hs _ l k).symm
  rw [if_neg λe=>g (by rw [<- e,hs]),if_neg g,h1]
 simp only [lcR]
 funext u
 unfold ud
 by_cases g:u=t
 ·subst g;rw [if_pos rfl,if_pos rfl];exact (wy hs _ l k).symm
 rw [if_neg g,if_neg g];exact (Lb hs l k _).symm
theorem Hl {s:Int->Int} (hs:∀ k,s (s k)=k) {a b:RS} (h:StR P a b):StR (λt=>(P t).map<|lcX s) (lcR s a) (lcR s b):=by
 have hP:∀ {t j:Nat} {x},(P t)[j]? = some x->((P t).map<|lcX s)[j]? = some (lcX s x):=λh=>by rw [RV,h];rfl
 have hL:∀ {x:Nf},x.Op≠4->(lcX s x).Loc=s x.Loc:=λh=>if_neg h;have hm':∀ {l:Int} {k:Nat} {m},(a.li l)[k]? = some m->((lcR s a).li<|s l)[k]? = some (lcM s m):=λh=>by
  simp only [lcR,hs];rw [RV,h];rfl
 have hr:∀ a:RS,∀ t x m,lcR s (rdR a t x m)=rdR (lcR s a) t (lcX s x) (lcM s m):=λa t x m=>by
  unfold rdR;refine RS.ext rfl rfl rfl ?_;simp only [lcR]
  funext u
  unfold ud
  split <;> rfl
 cases h with
 | @fen t x h o=>exact .fen (x:=lcX s x) (hP h) o
 | @ld t k x m h o hk hm=>
  rw [hr];exact .ld (k:=k) (hP h) o (by rw [hL (by omega)];simp only [lcR,hs];exact hk) (by rw [hL (by omega)];exact hm' hm)
 | @st t k x m h o hk hm hl=>
  rw [II hs];have h4:=hL (x:=x) (by omega);rw [<- h4];exact .st (x:=lcX s x) (m:=lcM s m) (hP h) o (by rw [h4];simp only [lcR,hs];exact hk) (by rw [h4];exact hm' hm) hl
 | @sw t k x m h o hk hm hl=>
  have h4:=hL (x:=x) (by omega);have : ∀ a:RS,∀ l k,lcR s (lkR a l k)=lkR (lcR s a) (s l) k:=λa l k=>by
   unfold lkR;refine RS.ext rfl rfl ?_ rfl;simp only [lcR,hs]
   funext l'
   unfold ud
   by_cases g:l'=s l
   ·subst g;rw [if_pos (hs l),if_pos rfl];refine Se λi=>?_;simp only [RV,List.getElem?_modify]
    by_cases e:k=i
    ·simp only [if_pos e];cases (a.li l)[i]? <;> rfl
    simp only [if_neg e];cases (a.li l)[i]? <;> rfl
   rw [if_neg λe=>g (by rw [<- e,hs]),if_neg g]
  rw [this,II hs,hr,<- h4];exact .sw (x:=lcX s x) (m:=lcM s m) (hP h) o (by rw [h4];simp only [lcR,hs];exact hk) (by rw [h4];exact hm' hm) hl
theorem JF {s:Int->Int} (hs:∀ k,s (s k)=k) {n:Nat} {f:LI->LI} (hf:∀ a,Gs n (lcR s a)=f (Gs n a)) {o:LI} (h:LX P n o):LX (λt=>(P t).map<|lcX s) n (f o):=by
 obtain ⟨a,h1,h2,rfl⟩:=h;have : Rch (StR λt=>(P t).map<|lcX s) a0R (lcR s a):=by
  clear h2
  induction h1 with
  | base=>exact .base
  | step _ k ih=>exact ih.step (Hl hs k)
 exact ⟨_,this,λt=>by rw [llm];exact h2 _,hf a⟩
end
def evs (P:Nat->List Nf) (t:Nat):List Nf:=(P t).filter λx=>x.Op != 4
def Np (P:Nat->List Nf) (a:RS) (t:Nat):Nat:=Nn<|(P t).take<|a.pc t
def sm (f:List Nf->Nat) (P:Nat->List Nf) (e:Nat->Nat):Nat:=f ((evs P 0).take<|e 0)+f ((evs P 1).take<|e 1)+f ((evs P 2).take<|e 2)
def sW (f:List Nf->Nat) (P:Nat->List Nf):Nat:=f (evs P 0)+f (evs P 1)+f (evs P 2)
def dt (a:RS):RS:={ a with pc:=λ_=>0 }
def dfM:Ms:=⟨0,false,λ_=>0⟩
def scc (t:Nat) (x:Nf) (n:Nat) (d:RS):List RS:=
 (RJ n).map λk=>dt (if x.Op=1 then rdR d t x ((d.li x.Loc).getD k dfM) else if x.Op=5 then lkR (DV (rdR d t x<|(d.li x.Loc).getD k dfM) t x.Loc (k+1) x.Val) x.Loc k else DV (pcR d t) t x.Loc (k+1) (La d t x))
theorem JG (t:Nat) (x:Nf) (n:Nat) (d:RS):(scc t x n d).length=n:=by simp [scc]
theorem CI {α:Type} (f:α->Bool) {x:α} (hx:f x=true):∀ (l:List α) (k:Nat),l[k]? = some x->(l.filter f)[(l.take k).countP f]? = some x
 | [],k,h=>by simp at h
 | y::l,0,h=>by
  obtain rfl:y=x:=by simpa using h
  simp [hx]
 | y::l,k+1,h=>by
  have ih:=CI f hx l k (by simpa using h)
  by_cases hy:f y=true
  ·rw [List.filter_cons_of_pos hy,Su,List.countP_cons_of_pos hy];simpa using ih
  rw [List.filter_cons_of_neg hy,Su,List.countP_cons_of_neg hy];exact ih
section
variable {P:Nat->List Nf}
theorem vg {a b:RS} {t:Nat} {x:Nf} (hx:(P t)[a.pc t]? = some x) (hb:b.pc=ud a.pc t (a.pc t+1)):Np P b=if x.Op=4 then Np P a else ud (Np P a) t (Np P a t+1):=by
 have hk:=(ges hx).1;have e1:Np P b t=Np P a t+if x.Op=4 then 0 else 1:=by
  unfold Np;rw [hb,dS,List.take_add_one,hx];unfold Nn;rw [List.countP_append]
  by_cases h:x.Op=4 <;> simp [h]
 have e2:∀ u,u≠t->Np P b u=Np P a u:=λu hu=>by
  unfold Np;rw [hb,jZ hu]
 funext u
 by_cases hu:u=t
 ·subst hu;rw [e1]
  split
  ·omega
  rw [dS]
 rw [e2 u hu]
 split
 ·rfl
 rw [jZ hu]
theorem CJ (a:RS) (t:Nat) (l:Int) (k:Nat) (v:Int) (hk:k<=(a.li l).length) (j:Int):((DV a t l k v).li j).length=(a.li j).length+if l=j then 1 else 0:=by
 unfold DV;simp only [pz]
 by_cases h:j=l
 ·subst h;rw [if_pos rfl,if_pos rfl];simp only [lla,llc,RP,R3,llm];omega
 rw [if_neg h,if_neg (Ne.symm h),llm];rfl
theorem JH (a:RS) (l:Int) (k:Nat) (j:Int):((lkR a l k).li j).length=(a.li j).length:=by
 unfold lkR;simp only [pz]
 split
 ·rename_i h;rw [List.length_modify,h]
 rfl
theorem FT (h3:∀ t,3<=t->P t=[]) {a b:RS} (h:StR P a b):(Np P b=Np P a/\dt b=dt a/\∀ l,(b.li l).length=(a.li l).length) \/
  ∃ (t:Nat) (x:Nf),t<3/\(∃ k:Nat,(P t)[k]? = some x)/\x.Op≠4/\(evs P t)[Np P a t]? = some x/\Np P b=ud (Np P a) t (Np P a t+1)/\dt b∈scc t x (a.li x.Loc).length (dt a)/\∀ l,(b.li l).length=(a.li l).length+if wrX x&&x.Loc==l then 1 else 0:=by
 have ht:∀ {t k:Nat} {x:Nf},(P t)[k]? = some x->t<3:=λ{t k x} h=>by
  refine Decidable.byContradiction λg=>?_;rw [h3 t (by omega)] at h;simp at h
 have he:∀ {t:Nat} {x:Nf},(P t)[a.pc t]? = some x->x.Op≠4->(evs P t)[Np P a t]? = some x:=λh o=>CI _ (by simpa using o) _ _ h
 cases h with
 | @fen t x h o=>
  refine .inl ⟨?_,rfl,λ_=>rfl⟩;rw [vg h rfl,if_pos o]
 | @ld t k x m h o hk hm=>
  refine .inr ⟨t,x,ht h,⟨_,h⟩,by omega,he h (by omega),?_,?_,λl=>?_⟩
  ·rw [vg h rfl,if_neg (by omega)]
  ·refine R6.2 ⟨k,RO.2 (ges hm).1,?_⟩;rw [if_pos o,show (dt a).li=a.li from rfl,gdq,hm]
   rfl
  simp [wrX,o,rdR]
 | @st t k x m h o hk hm hl=>
  have hlt:=(ges hm).1;refine .inr ⟨t,x,ht h,⟨_,h⟩,by omega,he h (by omega),?_,?_,λl=>?_⟩
  ·rw [vg h rfl,if_neg (by omega)]
  ·refine R6.2 ⟨k,RO.2 hlt,?_⟩;rw [if_neg (by omega),if_neg (by omega)]
   rfl
  rw [CJ _ _ _ _ _ (by exact hlt)];have : wrX x=true:=by rcases o with o | o <;> simp [wrX,o]
  rw [this];simp [pcR]
 | @sw t k x m h o hk hm hl=>
  have hlt:=(ges hm).1;refine .inr ⟨t,x,ht h,⟨_,h⟩,by omega,he h (by omega),?_,?_,λl=>?_⟩
  ·rw [vg h rfl,if_neg (by omega)]
  ·refine R6.2 ⟨k,RO.2 hlt,?_⟩;rw [if_neg (by omega),if_pos o,show (dt a).li=a.li from rfl,gdq,hm]
   rfl
  rw [JH,CJ _ _ _ _ _ (by exact hlt)];have : wrX x=true:=by simp [wrX,o]
  rw [this];simp [rdR]
theorem Bx {f:Nf->Bool} {e:Nat->Nat} {t:Nat} {x:Nf} (ht:t<3) (hx:(evs P t)[e t]? = some x):sm (RR f) P (ud e t<|e t+1)=sm (RR f) P e+if f x=true then 1 else 0:=by
 have key:((evs P t).take<|e t+1).countP f=((evs P t).take<|e t).countP f+if f x=true then 1 else 0:=by
  rw [List.take_add_one,hx,List.countP_append]
  by_cases h:f x=true <;> simp [h]
 unfold sm;obtain rfl | rfl | rfl:t=0\/t=1\/t=2:=by omega
 ·rw [dS,jZ (by decide),jZ (by decide),key];omega
 ·rw [dS,jZ (by decide),jZ (by decide),key];omega
 rw [dS,jZ (by decide),jZ (by decide),key];omega
theorem Hm (f:Nf->Bool) (e:Nat->Nat):sm (RR f) P e<=sW (RR f) P:=by
 have : ∀ t k,((evs P t).take k).countP f<=(evs P t).countP f:=λt k=>(List.take_sublist _ _).countP_le;unfold sm sW;have h0:=this 0<|e 0;have h1:=this 1<|e 1;have h2:=this 2<|e 2;omega
def fwL (l:Int) (x:Nf):Bool:=wrX x&&x.Loc==l
def flL (l:Int) (x:Nf):Bool:=x.Op==1&&x.Loc==l
def wC (P:Nat->List Nf) (l:Int) (e:Nat->Nat):Nat:=sm (RR<|fwL l) P e
def rC (P:Nat->List Nf) (l:Int) (e:Nat->Nat):Nat:=sm (RR<|flL l) P e
def WT (P:Nat->List Nf) (l:Int):Nat:=sW (RR<|fwL l) P
def RT (P:Nat->List Nf) (l:Int):Nat:=sW (RR<|flL l) P
theorem IJ (h3:∀ t,3<=t->P t=[]) {a:RS} (h:Rch (StR P) a0R a) (l:Int):(a.li l).length=1+wC P l (Np P a):=by
 induction h with
 | base=>simp [a0R,wC,sm,Np,Nn]
 | step _ s ih=>
  rcases FT h3 s with ⟨e1,_,e2⟩ | ⟨t,x,ht,_,_,hx,e1,_,e2⟩
  ·rw [e1,e2,ih]
  rw [e1,e2,ih];unfold wC;rw [Bx ht hx];unfold fwL;omega
theorem IK (h3:∀ t,3<=t->P t=[]) {a:RS} (h:Rch (StR P) a0R a):(Np P a=(λ_=>0)/\dt a=a0R) \/
  ∃ (a':RS) (t:Nat) (x:Nf),Rch (StR P) a0R a'/\t<3/\(∃ k:Nat,(P t)[k]? = some x)/\x.Op≠4/\(evs P t)[Np P a' t]? = some x/\Np P a=ud (Np P a') t (Np P a' t+1)/\dt a∈scc t x (1+wC P x.Loc (Np P a')) (dt a'):=by
 induction h with
 | base=>exact .inl ⟨by funext t;simp [Np,a0R,Nn],rfl⟩
 | step h s ih=>
  rcases FT h3 s with ⟨e1,e3,_⟩ | ⟨t,x,ht,hk,ho,hx,e1,e3,_⟩
  ·rw [e1,e3];exact ih
  exact .inr ⟨_,t,x,h,ht,hk,ho,hx,e1,by rw [<- IJ h3 h];exact e3⟩
def phl (P:Nat->List Nf) (l:Int) (e:Nat->Nat):Nat:=(WT P l+1) ^ rC P l e*fct (wC P l e)
def phi (P:Nat->List Nf) (e:Nat->Nat):Nat:=phl P 0 e*phl P 1 e*phl P 2 e
theorem CK {a b:Nat} (h:a<=b):fct a<=fct b:=by
 induction h with
 | refl=>exact Nat.le_refl _
 | step _ ih=>exact RU ih (Nat.le_mul_of_pos_right _<|by omega)
theorem Lc (l:Int) (e:Nat->Nat):phl P l e<=(WT P l+1) ^ RT P l*fct (WT P l):=
 Sb (Sv (by omega)<|Hm _ _) (CK<|Hm _ _)
theorem yN {e:Nat->Nat} {t:Nat} {x:Nf} (ht:t<3) (hx:(evs P t)[e t]? = some x) (ho:x.Op=1\/wrX x=true/\x.Op≠1) (l:Int):phl P l e*(if l=x.Loc then 1+wC P l e else 1)<=phl P l (ud e t<|e t+1):=by
 unfold phl rC wC;rw [Bx ht hx,Bx ht hx];have hw:=Hm (P:=P) (fwL l) e
 by_cases hl:l=x.Loc
 ·subst hl;rw [if_pos rfl];rcases ho with ho | ⟨ho,hn⟩
  ·have h1:flL x.Loc x=true:=by simp [flL,ho]
   have h2:fwL x.Loc x=false:=by simp [fwL,wrX,ho]
   rw [h1,h2];simp only [if_true,Bool.false_eq_true,if_false,Nat.add_zero];rw [Nat.pow_succ,R7];refine Sw _<|Nat.mul_le_mul_left _ ?_;unfold WT;omega
  have h1:flL x.Loc x=false:=by simp [flL,hn]
  have h2:fwL x.Loc x=true:=by simp [fwL,ho]
  rw [h1,h2];simp only [if_true,Bool.false_eq_true,if_false,Nat.add_zero,fct];rw [Sc,Nat.add_comm 1];exact Nat.le_refl _
 have h1:flL l x=false:=by simp [flL,Ne.symm hl]
 have h2:fwL l x=false:=by simp [fwL,Ne.symm hl]
 rw [h1,h2,if_neg hl];simp
theorem Hn {e:Nat->Nat} {t:Nat} {x:Nf} (ht:t<3) (hx:(evs P t)[e t]? = some x) (ho:x.Op=1\/wrX x=true/\x.Op≠1) (hl:x.Loc=0\/x.Loc=1\/x.Loc=2):phi P e*(1+wC P x.Loc e)<=phi P (ud e t<|e t+1):=by
 have h0:=yN ht hx ho 0;have h1:=yN ht hx ho 1;have h2:=yN ht hx ho 2;have key:=Sb (Sb h0 h1) h2;unfold phi;refine RU (Nat.le_of_eq ?_) key;rcases hl with hl | hl | hl <;> rw [hl] <;> simp only [if_true,Nat.mul_one,if_neg (by decide : ¬ (1:Int)=0),if_neg (by decide : ¬ (2:Int)=0),if_neg (by decide : ¬ (0:Int)=1),if_neg (by decide : ¬ (2:Int)=1),if_neg (by decide : ¬ (0:Int)=2),if_neg (by decide : ¬ (1:Int)=2)]
 ·generalize phl P 0 e=p;generalize phl P 1 e=q;generalize phl P 2 e=r;generalize 1+wC P 0 e=s;rw [R7 p s q,R7 (p*q) s r]
 ·generalize phl P 0 e=p;generalize phl P 1 e=q;generalize phl P 2 e=r;generalize 1+wC P 1 e=s;rw [<- Sc p q s,R7 (p*q) s r]
 rw [Sc (phl P 0 e*phl P 1 e)]
theorem Hp (f:List Nf->Nat) {e e':Nat->Nat} (h0:e 0=e' 0) (h1:e 1=e' 1) (h2:e 2=e' 2):sm f P e=sm f P e':=by unfold sm;rw [h0,h1,h2]
theorem JI (e:Nat->Nat):1<=phi P e:=by
 have : ∀ l,0<phl P l e:=λl=>Nat.mul_pos (Nat.pow_pos<|by omega)<|Jm _;exact Nat.mul_pos (Nat.mul_pos (this 0)<|this 1)<|this 2
theorem cov (h3:∀ t,3<=t->P t=[]) (hP:∀ (t k:Nat) (x:Nf),(P t)[k]? = some x->InR x) (hO:∀ (t k:Nat) (x:Nf),(P t)[k]? = some x->1<=x.Op/\x.Op<=5):∀ (n:Nat) (e:Nat->Nat),e 0+e 1+e 2=n ->
  ∃ L:List RS,L.length<=3 ^ n*phi P e/\∀ a,Rch (StR P) a0R a->Np P a 0=e 0->Np P a 1=e 1->Np P a 2=e 2->dt a∈L
 | 0,e,he=>by
  refine ⟨[a0R],by simpa using JI e,λa ha g0 g1 g2=>?_⟩;rcases IK h3 ha with ⟨_,h⟩ | ⟨a',t,x,_,ht,_,_,_,h,_⟩
  ·rw [h];exact RZ.2 rfl
  have := congrFun h t;rw [dS] at this;obtain rfl | rfl | rfl:t=0\/t=1\/t=2:=by omega
  all_goals omega
 | n+1,e,he=>by
  have part:∀ t,t<3->∃ Lt:List RS,Lt.length<=3 ^ n*phi P e/\∀ (a' a:RS) (x:Nf),Rch (StR P) a0R a'->(∃ k:Nat,(P t)[k]? = some x)->x.Op≠4->(evs P t)[Np P a' t]? = some x->Np P a=ud (Np P a') t (Np P a' t+1) ->
    Np P a 0=e 0->Np P a 1=e 1->Np P a 2=e 2->dt a∈scc t x (1+wC P x.Loc (Np P a')) (dt a')->dt a∈Lt:=by
   intro t ht;have pv:∀ {a' a:RS},Np P a=ud (Np P a') t (Np P a' t+1)->Np P a 0=e 0->Np P a 1=e 1->Np P a 2=e 2->e t=Np P a' t+1/\∀ u,u<3->Np P a' u=ud e t (e t-1) u:=λ{a' a} h g0 g1 g2=>by
    have hu:∀ u,u<3->Np P a u=e u:=λu hu=>by
     obtain rfl | rfl | rfl:u=0\/u=1\/u=2:=by omega
     all_goals assumption
    have e1:e t=Np P a' t+1:=by rw [<- hu t ht,h,dS]
    refine ⟨e1,λu h3=>?_⟩
    by_cases k:u=t
    ·subst k;rw [dS];omega
    rw [jZ k,<- hu u h3,h,jZ k]
   cases hx:(evs P t)[e t-1]? with
   | none=>
    refine ⟨[],Nat.zero_le _,λa' a x h1 h2 h4 h5 h6 g0 g1 g2 h7=>?_⟩;obtain ⟨k1,_⟩:=pv h6 g0 g1 g2;rw [k1,Nat.add_sub_cancel,h5] at hx
    cases hx
   | some x=>
    by_cases hpos:0<e t
    ·have hsum:(ud e t<|e t-1) 0+(ud e t<|e t-1) 1+(ud e t<|e t-1) 2=n:=by
      obtain rfl | rfl | rfl:t=0\/t=1\/t=2:=by omega
      ·rw [dS,jZ (by decide),jZ (by decide)];omega
      ·rw [dS,jZ (by decide),jZ (by decide)];omega
      rw [dS,jZ (by decide),jZ (by decide)];omega
     obtain ⟨L,hL,hc⟩:=cov h3 hP hO n _ hsum;have hmem:x∈evs P t:=List.mem_of_getElem? hx;unfold evs at hmem;obtain ⟨hm1,hm2⟩:=List.mem_filter.1 hmem;obtain ⟨k,hk⟩:=List.getElem?_of_mem hm1;have hr:=hP t k x hk;have hro:=hO t k x hk;have ho:x.Op≠4:=by simpa using hm2
     have hst:phi P (ud e t<|e t-1)*(1+wC P x.Loc (ud e t<|e t-1))<=phi P e:=by
      have := Hn (P:=P) (e:=ud e t<|e t-1) (t:=t) (x:=x) ht (by rw [dS];exact hx) (by unfold InR at hr;unfold wrX;simp only [Bool.or_eq_true,beq_iff_eq];omega) (by unfold InR at hr;omega);rw [dS,Nat.sub_add_cancel hpos,zT,KU] at this;exact this
     refine ⟨L.flatMap<|scc t x<|1+wC P x.Loc (ud e t<|e t-1),?_,λa' a y h1 h2 h4 h5 h6 g0 g1 g2 h7=>?_⟩
     ·refine RU (xd λd _=>Nat.le_of_eq<|JG _ _ _ d) ?_;refine RU (Sw _ hL) ?_;rw [Sc];exact Nat.mul_le_mul_left _ hst
     obtain ⟨k1,k2⟩:=pv h6 g0 g1 g2;rw [k1,Nat.add_sub_cancel,h5] at hx;obtain rfl:=osl hx;refine Sd.2 ⟨dt a',hc a' h1 (k2 0<|by omega) (k2 1<|by omega)<|k2 2 (by omega),?_⟩;have : wC P y.Loc (ud e t<|e t-1)=wC P y.Loc (Np P a'):=Hp _ (k2 0<|by omega).symm (k2 1<|by omega).symm (k2 2<|by omega).symm;rw [this];exact h7
    refine ⟨[],Nat.zero_le _,λa' a x h1 h2 h4 h5 h6 g0 g1 g2 h7=>?_⟩;obtain ⟨k1,_⟩:=pv h6 g0 g1 g2;omega
  obtain ⟨A,hA,kA⟩:=part 0 (by omega);obtain ⟨B,hB,kB⟩:=part 1 (by omega);obtain ⟨C,hC,kC⟩:=part 2 (by omega);refine ⟨A++B++C,?_,λa ha g0 g1 g2=>?_⟩
  ·rw [lla,lla,Nat.pow_succ,R7];omega
  rcases IK h3 ha with ⟨h,_⟩ | ⟨a',t,x,h1,ht,h2,h4,h5,h6,h7⟩
  ·rw [h] at g0 g1 g2;simp only at g0 g1 g2;omega
  obtain rfl | rfl | rfl:t=0\/t=1\/t=2:=by omega
  ·exact Sk _<|Sk _<|kA a' a x h1 h2 h4 h5 h6 g0 g1 g2 h7
  ·exact Sk _<|Sy _<|kB a' a x h1 h2 h4 h5 h6 g0 g1 g2 h7
  exact Sy _<|kC a' a x h1 h2 h4 h5 h6 g0 g1 g2 h7
theorem Ld {a:RS} (h:Rch (StR P) a0R a) (t:Nat):a.pc t<=(P t).length:=by
 induction h with
 | base=>exact Nat.zero_le _
 | @step a b h s ih=>
  have key:∀ {u:Nat} {x:Nf},(P u)[a.pc u]? = some x->b.pc=ud a.pc u (a.pc u+1)->b.pc t<=(P t).length:=λ{u x} h1 h2=>by
   have := (ges h1).1;rw [h2,pz]
   split
   ·rename_i e;subst e;omega
   exact ih
  cases s with
  | fen h1 _=>exact key h1 rfl
  | ld h1 _ _ _=>exact key h1 rfl
  | st h1 _ _ _ _=>exact key h1 rfl
  | sw h1 _ _ _ _=>exact key h1 rfl
theorem MU (h3:∀ t,3<=t->P t=[]) (hP:∀ (t k:Nat) (x:Nf),(P t)[k]? = some x->InR x) (hO:∀ (t k:Nat) (x:Nf),(P t)[k]? = some x->1<=x.Op/\x.Op<=5) (h7:∀ t,(P t).length<=7) (he:Nn (P 0)+Nn (P 1)+Nn (P 2)<=12) (hx:∀ e,phi P e<=3000)
  (V:List RS) (hn:V.Nodup) (hV:∀ v∈V,Rch (StR P) a0R v):V.length<=816293376000:=by
 have C:=λi j k:Nat=>cov h3 hP hO _ (λt=>if t=0 then Nn ((P 0).take i) else if t=1 then Nn ((P 1).take j) else Nn ((P 2).take k)) rfl;have hs:=zU hn (l:=(RJ 8).flatMap λi=>(RJ 8).flatMap λj=>(RJ 8).flatMap λk=>(Classical.choose<|C i j k).map λd=>({ d with pc:=λt=>if t=0 then i else if t=1 then j else if t=2 then k else 0 }:RS)) λv hv=>?_
 ·have k3:∀ i j k,((Classical.choose<|C i j k).map λd=>({ d with pc:=λt=>if t=0 then i else if t=1 then j else if t=2 then k else 0 }:RS)).length<=1594323000:=λi j k=>by
   rw [llm];refine RU (Classical.choose_spec<|C i j k).1 ?_;refine RU (Sb (Sv (by decide)<|show _<=12 from ?_)<|hx _) (by decide);have a0:=uV (P 0) i;have a1:=uV (P 1) j;have a2:=uV (P 2) k;simp only [if_true,if_neg (by decide : ¬ (1:Nat)=0),if_neg (by decide : ¬ (2:Nat)=0),if_neg (by decide : ¬ (2:Nat)=1)];omega
  have hl:(RJ 8).length=8:=by simp
  have k2:=λi j=>xd (l:=RJ 8) λk _=>k3 i j k;have k1:=λi=>xd (l:=RJ 8) λj _=>k2 i j;have k0:=xd (l:=RJ 8) λi _=>k1 i;rw [hl] at k0;exact RU hs<|RU k0 (by decide)
 have hr:=hV v hv;have hp:=Ld hr;have p0:=hp 0;have p1:=hp 1;have p2:=hp 2;have q0:=h7 0;have q1:=h7 1;have q2:=h7 2;refine Sd.2 ⟨v.pc 0,RO.2 (by omega),Sd.2 ⟨v.pc 1,RO.2 (by omega),Sd.2 ⟨v.pc 2,RO.2 (by omega),R6.2 ⟨dt v,(Classical.choose_spec<|C _ _ _).2 v hr rfl rfl rfl,?_⟩⟩⟩⟩;refine RS.ext ?_ rfl rfl rfl
 funext t
 simp only
 split
 ·rename_i e;rw [e]
 split
 ·rename_i e;rw [e]
 split
 ·rename_i e;rw [e]
 have := hp t;rw [h3 t (by omega)] at this;simp at this;omega
end
def vwF (v:ah):Int->Nat:=λl=>if 0<=l/\l<=2 then (ah.get v l).toNat else 0
def wz (w:ai):Ms:=⟨w.value,w.taken,vwF w.view⟩
def liF (a:ae):Int->List Ms:=λl=>if 0<=l/\l<=2 then (ae.get a l).map wz else [⟨0,false,λ_=>0⟩]
def owF (a:aa):Nat->Int->Nat:=λt=>if t<3 then vwF (aa.get a t) else λ_=>0
def AW (s:au):RS:=⟨pcF s.values.pc,rgF s.values.reg,liF s.lists,owF s.own⟩
def VB (n:Int) (v:ah):Prop:=∀ l,0<=l/\l<=2->0<=ah.get v l/\ah.get v l<=n
theorem yO (v:ah) {q j:Int} (z:Int) (hq:0<=q/\q<=2) (hj:0<=j/\j<=2):ah.get (ah.set v q z) j=if j=q then z else ah.get v j:=by
 have h1:q=0\/q=1\/q=2:=by omega
 have h2:j=0\/j=1\/j=2:=by omega
 rcases h1 with rfl | rfl | rfl <;> rcases h2 with rfl | rfl | rfl <;> rfl
theorem qb (v:aa) {q j:Int} (z:ah) (hq:0<=q/\q<=2) (hj:0<=j/\j<=2):aa.get (aa.set v q z) j=if j=q then z else aa.get v j:=by
 have h1:q=0\/q=1\/q=2:=by omega
 have h2:j=0\/j=1\/j=2:=by omega
 rcases h1 with rfl | rfl | rfl <;> rcases h2 with rfl | rfl | rfl <;> rfl
theorem yP (v:ae) {q j:Int} (z:List ai) (hq:0<=q/\q<=2) (hj:0<=j/\j<=2):ae.get (ae.set v q z) j=if j=q then z else ae.get v j:=by
 have h1:q=0\/q=1\/q=2:=by omega
 have h2:j=0\/j=1\/j=2:=by omega
 rcases h1 with rfl | rfl | rfl <;> rcases h2 with rfl | rfl | rfl <;> rfl
theorem Bz (v:ah) {l:Int} (hl:0<=l/\l<=2) (z:Int):vwF (ah.set v l z)=ud (vwF v) l z.toNat:=by
 funext j
 simp only [vwF,pz]
 by_cases h:0<=j/\j<=2
 ·rw [if_pos h,if_pos h,yO _ _ hl h]
  split <;> rfl
 rw [if_neg h,if_neg h,if_neg λe=>h (by rw [e];exact hl)]
theorem FU (a:aa) {t:Nat} (ht:t<3) (v:ah):owF (aa.set a t v)=ud (owF a) t (vwF v):=by
 funext u
 simp only [owF,pz]
 by_cases h:u<3
 ·rw [if_pos h,if_pos h,qb _ _ (by omega) (by omega)]
  by_cases e:u=t
  ·rw [if_pos (by omega),if_pos e]
  rw [if_neg (by omega),if_neg e]
 rw [if_neg h,if_neg h,if_neg (by omega)]
theorem JJ (a:ae) {l:Int} (hl:0<=l/\l<=2) (w:List ai):liF (ae.set a l w)=ud (liF a) l (w.map wz):=by
 funext j
 simp only [liF,pz]
 by_cases h:0<=j/\j<=2
 ·rw [if_pos h,if_pos h,yP _ _ hl h]
  split <;> rfl
 rw [if_neg h,if_neg h,if_neg λe=>h (by rw [e];exact hl)]
def mvP (v:ah) (l k:Int):ah:=ah.set v l (if k<=ah.get v l then ah.get v l+1 else ah.get v l)
def mvW (l k:Int) (w:ai):ai:={ w with view:=mvP w.view l k }
theorem Hq (v:ah) (l:Int):ah.set v l (ah.get v l)=v:=by
 unfold ah.set ah.get
 split
 ·rfl
 split <;> rfl
theorem lV {v:ah} {l k:Int} (hl:0<=l/\l<=2) (hv:VB 254 v):Nk (aO v l k) (· = mvP v l k):=by
 have h:=hv l hl;unfold aO;refine Nk.bind (P:=λz=>(⟨z.1,z.2.1,z.2.2⟩:ah)=mvP v l k) (.gdD (by omega)<|.bifD (λhk => .gdY (by omega)<|.pure ?_) λhk => .pure ?_) λz hz => .pure hz
 ·unfold mvP;rw [if_pos hk]
 unfold mvP;rw [if_neg hk,Hq]
theorem CL {v:ah} {l:Int} (hl:0<=l/\l<=2) (hv:VB 254 v) (k:Nat):vwF (mvP v l k)=mvV l k (vwF v):=by
 have h:=hv l hl;unfold mvP mvV;rw [Bz _ hl]
 congr 1
 have : vwF v l=(ah.get v l).toNat:=if_pos hl;rw [this]
 split <;> split <;> omega
def joP (v o:ah):ah:=⟨max v.x0 o.x0,max v.x1 o.x1,max v.x2 o.x2⟩
theorem DW (v o:ah):Nk (gV v o) (· = joP v o):=by
 have mx:∀ a b:Int,(if b>a then b else a)=max a b:=λa b=>by split <;> omega
 unfold gV;refine Nk.bind (P:=λz=>(⟨z.1,z.2.1,z.2.2⟩:ah)=joP v o) ?_ λz hz => .pure hz;refine Nk.loop (λz=>(z.2.2.2=0/\(z.1,z.2.1,z.2.2.1)=(v.x0,v.x1,v.x2))\/(z.2.2.2=1/\(z.1,z.2.1,z.2.2.1)=(max v.x0 o.x0,v.x1,v.x2))\/(z.2.2.2=2/\(z.1,z.2.1,z.2.2.1)=(max v.x0 o.x0,max v.x1 o.x1,v.x2))\/(z.2.2.2=3/\(z.1,z.2.1,z.2.2.1)=(max v.x0 o.x0,max v.x1 o.x1,max v.x2 o.x2))) (λz=>(3-z.2.2.2).toNat) (.inl ⟨rfl,rfl⟩) λz hz=>?_;obtain ⟨a,b,c,i⟩:=z;unfold kK;simp only [Prod.mk.injEq] at hz;rcases hz with ⟨rfl,rfl,rfl,rfl⟩ | ⟨rfl,rfl,rfl,rfl⟩ | ⟨rfl,rfl,rfl,rfl⟩ | ⟨rfl,rfl,rfl,rfl⟩
 ·refine .bifD (λ_ => .gdD (by simp only [];omega)<|.gdI (by simp only [];omega)<|.pure ⟨.inr<|.inl ⟨rfl,?_⟩,by simp only [];omega⟩) λh=>absurd (by simp only [];omega) h;simp only [ah.set,ah.get,if_true,mx]
 ·refine .bifD (λ_ => .gdD (by simp only [];omega)<|.gdI (by simp only [];omega)<|.pure ⟨.inr<|.inr<|.inl ⟨rfl,?_⟩,by simp only [];omega⟩) λh=>absurd (by simp only [];omega) h;simp only [ah.set,ah.get,if_true,if_neg (by decide : ¬ (1:Int)=0),mx]
 ·refine .bifD (λ_ => .gdD (by simp only [];omega)<|.gdI (by simp only [];omega)<|.pure ⟨.inr<|.inr<|.inr ⟨rfl,?_⟩,by simp only [];omega⟩) λh=>absurd (by simp only [];omega) h;simp only [ah.set,ah.get,if_neg (by decide : ¬ (2:Int)=0),if_neg (by decide : ¬ (2:Int)=1),mx]
 exact .bifD (λh=>absurd h<|by simp only [];omega) λ_ => .pure rfl
theorem Lf {v o:ah} (hv:VB 254 v) (ho:VB 254 o):vwF (joP v o)=joV (vwF v) (vwF o):=by
 funext l
 unfold joV;simp only [vwF]
 by_cases h:0<=l/\l<=2
 ·rw [if_pos h,if_pos h,if_pos h];have h1:=hv l h;have h2:=ho l h;have : l=0\/l=1\/l=2:=by omega
  rcases this with rfl | rfl | rfl
  all_goals
   simp only [ah.get,joP,if_true,if_neg (by decide : ¬ (1:Int)=0),if_neg (by decide : ¬ (2:Int)=0),if_neg (by decide : ¬ (2:Int)=1)] at *;omega
 rw [if_neg h,if_neg h,if_neg h];rfl
theorem qc {l k:Int} {xs:List ai} {f:(List ai×Int)->Option ((List ai×Int) ⊕ List ai)} (hl:0<=l/\l<=2) (hb:∀ w∈xs,VB 254 w.view) (hx:xs.length<=254)
  (hf:∀ z,f z=bif decide (z.2<(xs.length:Int)) then (gd (decide<|0<=z.2/\z.2<(z.1.length:Int))<|RI (aO ((z.1.getD z.2.toNat default).view) l k) λv=>gd (Nb .i64<|z.2+(1:Int))<|some<|.inl ((z.1.set z.2.toNat<|{ (z.1.getD z.2.toNat default) with view:=v }),(z.2+(1:Int)))) else some (.inr z.1)) :
  Nk (bA f (xs,(0:Int))) (· = xs.map (mvW l k)):=by
 refine Nk.loop (λz=>(0<=z.2/\z.2<=(xs.length:Int))/\z.1=(xs.take z.2.toNat).map (mvW l k)++xs.drop z.2.toNat) (λz=>((xs.length:Int)-z.2).toNat) ⟨⟨RN _,by simp only [];omega⟩,by simp⟩ λz ⟨⟨h1,h2⟩,h3⟩ => ?_;rw [hf];obtain ⟨ys,i⟩:=z;simp only at h1 h2 h3;obtain ⟨n,rfl⟩:=R8 h1;simp only [tnn] at h3 ⊢;have hyl:ys.length=xs.length:=by rw [h3];simp;omega
 refine .bifD (λhlt => .gdD ⟨h1,by rw [hyl];exact hlt⟩ ?_) λhge => .pure ?_
 ·have hn:n<xs.length:=by omega
  have hg:ys.getD n default=xs[n]:=by
   rw [h3,gdq,gar (by simp;omega)];simp [Nat.min_eq_left (Nat.le_of_lt hn),hn]
  rw [hg];refine (lV hl<|hb _<|RL hn).bind λv hv => .gdI (by omega)<|.pure ⟨⟨⟨by omega,by omega⟩,?_⟩,by omega⟩;subst hv;show ys.set n (mvW l k xs[n])=_;rw [show ((n:Int)+1).toNat=n+1 by omega,h3,List.set_append_right _ _ (by simp;omega)];simp only [llm,RP,Nat.min_eq_left (Nat.le_of_lt hn),Nat.sub_self];rw [List.drop_eq_getElem_cons hn,List.set_cons_zero,List.take_succ_eq_append_getElem hn,List.map_append,List.append_assoc]
  rfl
 rw [h3,show n=xs.length by omega];simp
def FV (L:ae) (O:aa) (t l k v:Int):ae×aa:=
 let O2:aa:=⟨mvP O.x0 l k,mvP O.x1 l k,mvP O.x2 l k⟩;let O3:=aa.set O2 t<|ah.set (aa.get O2 t) l k;let L2:ae:=⟨L.x0.map<|mvW l k,L.x1.map<|mvW l k,L.x2.map<|mvW l k⟩;let M:=ae.get L2 l
 (ae.set L2 l<|M.take k.toNat++[⟨v,false,aa.get O3 t⟩]++M.drop k.toNat,O3)
def IL (s:au) (x:Nf) (k:Int):ai:=(ae.get s.lists x.Loc).getD k.toNat default
def BA (s:au) (t k:Int) (x:Nf):Z33:=if Nl x=true then Z33.set s.values.reg t (Z3b.set (Z33.get s.values.reg t) x.Reg (IL s x k).value) else s.values.reg
def xg (s:au) (t k:Int) (x:Nf):aa:=if Nl x=true then aa.set s.own t (joP (aa.get s.own t) (IL s x k).view) else s.own
def Hr (L:ae) (l k:Int):ae:=ae.set L l<|(ae.get L l).set k.toNat { ((ae.get L l).getD k.toNat default) with taken:=true }
def DX (s:au) (t k:Int) (x:Nf) (O:aa):ae×aa:=
 if x.Op=2\/x.Op=3 then FV s.lists O t x.Loc k (sF s.values t x)
 else if x.Op=5 then (Hr (FV s.lists O t x.Loc (k+1) x.Val).1 x.Loc k,(FV s.lists O t x.Loc (k+1) x.Val).2)
 else (s.lists,O)
def JK (s:au) (t:Int) (R:Z33) (q:ae×aa):au:=
 ⟨⟨s.values.p,Z3b.set s.values.pc t<|Z3b.get s.values.pc t+1,R,s.values.mem⟩,q.1,q.2⟩
def afW (s:au) (t k:Int) (x:Nf):au:=JK s t (BA s t k x)<|DX s t k x<|xg s t k x
section
variable {p:List (List Nf)} {s:au}
structure IW (p:List (List Nf)) (s:au):Prop where
 iv:Iv p s.values
 m0:s.values.mem=⟨0,0,0⟩
 ln:∀ l,0<=l/\l<=2->1<=(ae.get s.lists l).length
 wv:∀ l,0<=l/\l<=2->∀ w∈ae.get s.lists l,(0<=w.value/\w.value<=3)/\∀ j,0<=j/\j<=2->0<=ah.get w.view j/\ah.get w.view j<((ae.get s.lists j).length:Int)
 ow:∀ t:Nat,t<3->∀ j,0<=j/\j<=2->0<=ah.get (aa.get s.own t) j/\ah.get (aa.get s.own t) j<((ae.get s.lists j).length:Int)
def SmL (s:au):Prop:=∀ l,0<=l/\l<=2->(ae.get s.lists l).length<=13
theorem IW.vbw (h:IW p s) (hs:SmL s) {l:Int} (hl:0<=l/\l<=2) {w:ai} (hw:w∈ae.get s.lists l):VB 254 w.view:=λj hj=>by
 have := (h.wv l hl w hw).2 j hj;have := hs j hj;omega
theorem IW.vbo (h:IW p s) (hs:SmL s) {t:Nat} (ht:t<3):VB 254 (aa.get s.own t):=λj hj=>by
 have := h.ow t ht j hj;have := hs j hj;omega
theorem VB.jo {n:Int} {v o:ah} (hv:VB n v) (ho:VB n o):VB n (joP v o):=λj hj=>by
 have h1:=hv j hj;have h2:=ho j hj;have : j=0\/j=1\/j=2:=by omega
 rcases this with rfl | rfl | rfl
 all_goals
  simp only [ah.get,joP,if_true,if_neg (by decide : ¬ (1:Int)=0),if_neg (by decide : ¬ (2:Int)=0),if_neg (by decide : ¬ (2:Int)=1)] at *;omega
theorem tL (w:List ai) (h:w.length<=13):Nk (aX w) (· = w):=
 uY (λe=>by rw [List.isEmpty_iff.1 e]) (kT<|dY (by simp;omega) rfl)
theorem kr {xs:List ai} {k:Int} {w:ai} (hk:0<=k/\k<=(xs.length:Int)) (h0:0<xs.length) (h1:xs.length<=1000):Nk (cN xs k [w]) (· = xs.take k.toNat++[w]++xs.drop k.toNat):=
 .gdD ⟨hk,h0,h1,rfl⟩ (.pure rfl)
theorem vk {x:Nf} {k:Int} (h0:0<=k) (hk:k<((ae.get s.lists x.Loc).length:Int)):IL s x k∈ae.get s.lists x.Loc:=by
 unfold IL;rw [gdq,geq (by omega)];exact RL _
theorem VB.x {n:Int} {O:aa} (h:∀ t:Nat,t<3->VB n (aa.get O t)):VB n O.x0/\VB n O.x1/\VB n O.x2:=⟨h 0 (by omega),h 1 (by omega),h 2<|by omega⟩
theorem BB {u:Ng} {t:Nat} {x:Nf} (ht:t<3) (hr:0<=x.Reg/\x.Reg<=2) (hv:0<=x.Val/\x.Val<=3):Nk (bI u t x) (· = sF u t x):=by
 unfold bI sF;refine .bif (λh => .gdD ⟨by omega,by omega⟩<|.gdD ⟨by omega,by omega⟩<|.pure ?_) λh => .gdY (by omega)<|.pure ?_
 ·rw [if_pos (by simpa using h)]
 rw [if_neg (by simpa using h)]
theorem DY (hp:PV p) (h:IW p s) (hs:SmL s) {m:Int} {t k:Nat} (hm:m.tmod 3=(t:Int)) (hd:m.tdiv 3=(k:Int)) (ht:t<p.length) (hc:qf s.values t=true) (hx:InR<|jl s.values t) (ho:1<=(jl s.values t).Op/\(jl s.values t).Op<=5)
  (hk:(k:Int)<=13) (hk1:(jl s.values t).Op=1\/(jl s.values t).Op=5->(k:Int)<((ae.get s.lists (jl s.values t).Loc).length:Int)) (hk2:(jl s.values t).Op=2\/(jl s.values t).Op=3->(k:Int)<=((ae.get s.lists (jl s.values t).Loc).length:Int)) :
  Nk (bY s m) (· = afW s t k (jl s.values t)):=by
 have hl:=hp.vs.1;have hs0:=hs 0 (by decide);have hs1:=hs 1 (by decide);have hs2:=hs 2 (by decide);unfold bY;simp only [hm,hd];refine .gdD (by decide)<|(tL _ hs0).bind λv2 e2 => .gdI (by decide)<|.gdD (by decide)<|(tL _ hs1).bind λv8 e8 => .gdI (by decide)<|.gdD (by decide)<|(tL _ hs2).bind λv14 e14 => .gdI (by decide)<|.gdD (by decide)<|.gdI (by omega) ?_;subst e2 e8 e14;refine (Bg hp h.iv ht).bind λv ⟨g1,g2⟩ => ?_;have g3:=g2<|g1.trans hc;have hpc:=h.iv.pc t (by omega);have hr7:=hp.vs.2 t;have hval:0<=sF s.values t (jl s.values t)/\sF s.values t (jl s.values t)<=3:=by
  obtain ⟨x1,x2,x3,x4,x5,x6⟩:=hx;unfold sF
  split
  ·obtain ⟨g,hg⟩:=R8 x3;rw [hg];exact h.iv.rv t g (by omega) (by omega)
  exact ⟨x5,x6⟩
 rw [<- g3] at hx ho hk1 hk2 hval ⊢;generalize hvx:v.1=x at hx ho hk1 hk2 hval ⊢;have hX:=hx;obtain ⟨x1,x2,x3,x4,x5,x6⟩:=hX;have hn:=h.ln x.Loc ⟨x1,x2⟩;refine .gdD ⟨by omega,by omega⟩ (.gdY (by omega) ?_);refine Nk.bind (P:=λz=>(⟨⟨z.1,z.2.1,z.2.2.1⟩,⟨z.2.2.2.1,z.2.2.2.2.1,z.2.2.2.2.2.1⟩,⟨z.2.2.2.2.2.2.1,z.2.2.2.2.2.2.2.1,z.2.2.2.2.2.2.2.2.1⟩⟩:Z33)=BA s t k x /\
   (⟨⟨z.2.2.2.2.2.2.2.2.2.1,z.2.2.2.2.2.2.2.2.2.2.1,z.2.2.2.2.2.2.2.2.2.2.2.1⟩,⟨z.2.2.2.2.2.2.2.2.2.2.2.2.1,z.2.2.2.2.2.2.2.2.2.2.2.2.2.1,z.2.2.2.2.2.2.2.2.2.2.2.2.2.2.1⟩,⟨z.2.2.2.2.2.2.2.2.2.2.2.2.2.2.2.1,z.2.2.2.2.2.2.2.2.2.2.2.2.2.2.2.2.1,z.2.2.2.2.2.2.2.2.2.2.2.2.2.2.2.2.2.1⟩⟩:aa)=xg s t k x /\
   z.2.2.2.2.2.2.2.2.2.2.2.2.2.2.2.2.2.2=(s.lists.x0,s.lists.x1,s.lists.x2)) ?_ λz hz=>?_
 ·refine (Fg _).bind λb hb=>?_;have hb':b=Nl x:=hb;refine .bif (λhcb=>?_) λhcb => .pure ⟨?_,?_,rfl⟩
  ·have hrd:x.Op=1\/x.Op=5:=by
    rw [hb'] at hcb;simpa [Nl] using hcb
   refine .gdD ⟨x1,by omega⟩<|.gdD ⟨by omega,hk1 hrd⟩<|.gdD ⟨x3,by omega⟩<|(DW _ _).bind λv30 e30 => .pure ⟨?_,?_,rfl⟩
   ·unfold BA IL;rw [if_pos (by rw [<- hb'];exact hcb)]
   subst e30;unfold xg IL;rw [if_pos (by rw [<- hb'];exact hcb)]
  ·unfold BA;rw [if_neg (by rw [<- hb',hcb];decide)]
  unfold xg;rw [if_neg (by rw [<- hb',hcb];decide)]
 obtain ⟨hz1,hz2,hz3⟩:=hz;obtain ⟨r0,r1,r2,r3,r4,r5,r6,r7,r8,o0,o1,o2,o3,o4,o5,o6,o7,o8,l0,l1,l2⟩:=z;simp only [Prod.mk.injEq] at hz1 hz2 hz3;obtain ⟨rfl,rfl,rfl⟩:=hz3;have hvo:∀ u:Nat,u<3->VB 254 (aa.get (xg s t k x) u):=λu hu=>by
  unfold xg
  split
  ·rename_i hrd;have hrd:x.Op=1\/x.Op=5:=by simpa [Nl] using hrd
   rw [qb _ _ (by omega) (by omega)]
   split
   ·exact (h.vbo hs<|by omega).jo<|h.vbw hs ⟨x1,x2⟩<|vk (by omega)<|hk1 hrd
   exact h.vbo hs hu
  exact h.vbo hs hu
 unfold afW;rw [<- hz1];rw [<- hz2] at hvo ⊢;obtain ⟨hv0,hv1,hv2⟩:=VB.x hvo;have hloc:x.Loc=0\/x.Loc=1\/x.Loc=2:=by omega
 have hln:∀ (l:Int),0<=l/\l<=2->0<(ae.get s.lists l).length:=λl hl=>h.ln l hl;have mvs:∀ (q:Int),0<=q->True:=λ_ _=>trivial;refine Nk.bind (P:=λy=>((⟨y.2.2.2.2.2.2.2.2.2.1,y.2.2.2.2.2.2.2.2.2.2.1,y.2.2.2.2.2.2.2.2.2.2.2⟩:ae),(⟨⟨y.1,y.2.1,y.2.2.1⟩,⟨y.2.2.2.1,y.2.2.2.2.1,y.2.2.2.2.2.1⟩,⟨y.2.2.2.2.2.2.1,y.2.2.2.2.2.2.2.1,y.2.2.2.2.2.2.2.2.1⟩⟩:aa))=DX s t k x ⟨⟨o0,o1,o2⟩,⟨o3,o4,o5⟩,⟨o6,o7,o8⟩⟩) ?_ λy hy => .pure ?_
 ·refine Nk.bind (P:=(· = ul x)) (.bif (λhc => .pure<|by unfold ul;rw [hc];rfl) λhc => .pure<|by unfold ul;rw [hc];rfl) λb hb=>?_;subst hb;refine .bif (λhst=>?_) λhst => .bif (λh5=>?_) λh5 => .pure ?_
  ·have hop:x.Op=2\/x.Op=3:=by simpa [ul] using hst
   have hkk:=hk2 hop;refine .gdY (by omega)<|(BB (by omega) ⟨x3,x4⟩ ⟨x5,x6⟩).bind λv45 e45=>?_;refine (qc ⟨x1,x2⟩ (λw hw=>h.vbw hs (l:=0) (by decide) hw) (by show (ae.get s.lists 0).length<=_;omega) λz=>by unfold gI;simp only [hvx,hd];rfl).bind λv46 e46=>?_;refine (qc ⟨x1,x2⟩ (λw hw=>h.vbw hs (l:=1) (by decide) hw) (by show (ae.get s.lists 1).length<=_;omega) λz=>by unfold gJ;simp only [hvx,hd];rfl).bind λv64 e64=>?_;refine (qc ⟨x1,x2⟩ (λw hw=>h.vbw hs (l:=2) (by decide) hw) (by show (ae.get s.lists 2).length<=_;omega) λz=>by unfold gK;simp only [hvx,hd];rfl).bind λv82 e82=>?_;refine (lV ⟨x1,x2⟩ hv0).bind λaH e100=>(lV ⟨x1,x2⟩ hv1).bind λaI e101=>(lV ⟨x1,x2⟩ hv2).bind λaJ e102 => .gdD ⟨x1,by omega⟩ ?_;subst e45 e46 e64 e82 e100 e101 e102;unfold DX;rw [if_pos hop];obtain ⟨xo,xl,xr,xv⟩:=x;simp only at hloc hkk;rcases hloc with rfl | rfl | rfl
   ·refine .bifD (λ_=>(kr (by rw [llm];exact ⟨by omega,hkk⟩) (by rw [llm];exact hln 0<|by decide)<|by rw [llm];show (ae.get s.lists 0).length<=_;omega).bind λv e => .pure ?_) λhh=>absurd rfl hh;subst e
    rfl
   ·refine .bifD (λhh=>absurd hh<|by simp only [];decide) λ_ => .bifD (λ_=>(kr (by rw [llm];exact ⟨by omega,hkk⟩) (by rw [llm];exact hln 1<|by decide)<|by rw [llm];show (ae.get s.lists 1).length<=_;omega).bind λv e => .pure ?_) λhh=>absurd rfl hh;subst e
    rfl
   refine .bifD (λhh=>absurd hh<|by simp only [];decide) λ_ => .bifD (λhh=>absurd hh<|by simp only [];decide) λ_ => .bifD (λ_=>(kr (by rw [llm];exact ⟨by omega,hkk⟩) (by rw [llm];exact hln 2<|by decide)<|by rw [llm];show (ae.get s.lists 2).length<=_;omega).bind λv e => .pure ?_) λhh=>absurd rfl hh;subst e
   rfl
  ·have hop:x.Op=5:=by simpa using h5
   have hkk:=hk1<|.inr hop;have h23 : ¬ (x.Op=2\/x.Op=3):=by omega
   refine .gdI (by omega)<|.gdY (by omega)<|.gdY (by omega) ?_;refine (qc ⟨x1,x2⟩ (λw hw=>h.vbw hs (l:=0) (by decide) hw) (by show (ae.get s.lists 0).length<=_;omega) λz=>by unfold fS;simp only [hvx,hd];rfl).bind λv123 e123=>?_;refine (qc ⟨x1,x2⟩ (λw hw=>h.vbw hs (l:=1) (by decide) hw) (by show (ae.get s.lists 1).length<=_;omega) λz=>by unfold fT;simp only [hvx,hd];rfl).bind λv141 e141=>?_;refine (qc ⟨x1,x2⟩ (λw hw=>h.vbw hs (l:=2) (by decide) hw) (by show (ae.get s.lists 2).length<=_;omega) λz=>by unfold fU;simp only [hvx,hd];rfl).bind λv159 e159=>?_;refine (lV ⟨x1,x2⟩ hv0).bind λaH e100=>(lV ⟨x1,x2⟩ hv1).bind λaI e101=>(lV ⟨x1,x2⟩ hv2).bind λaJ e102 => .gdD ⟨x1,by omega⟩ ?_;subst e123 e141 e159 e100 e101 e102;unfold DX;rw [if_neg h23,if_pos hop];obtain ⟨xo,xl,xr,xv⟩:=x;simp only at hloc hkk;rcases hloc with rfl | rfl | rfl
   ·refine .bifD (λ_=>(kr (by rw [llm];exact ⟨by omega,by show _<=((ae.get s.lists 0).length:Int);omega⟩) (by rw [llm];exact hln 0<|by decide)<|by rw [llm];show (ae.get s.lists 0).length<=_;omega).bind λv e=>?_) λhh=>absurd rfl hh;subst e;refine .gdD ⟨by omega,?_⟩<|.pure rfl;simp only [lla,RP,R3,llm,llc,RQ];have : (ae.get s.lists 0).length=s.lists.x0.length:=rfl;omega
   ·refine .bifD (λhh=>absurd hh<|by simp only [];decide) λ_ => .bifD (λ_=>(kr (by rw [llm];exact ⟨by omega,by show _<=((ae.get s.lists 1).length:Int);omega⟩) (by rw [llm];exact hln 1<|by decide)<|by rw [llm];show (ae.get s.lists 1).length<=_;omega).bind λv e=>?_) λhh=>absurd rfl hh;subst e;refine .gdD ⟨by omega,?_⟩<|.pure rfl;simp only [lla,RP,R3,llm,llc,RQ];have : (ae.get s.lists 1).length=s.lists.x1.length:=rfl;omega
   refine .bifD (λhh=>absurd hh<|by simp only [];decide) λ_ => .bifD (λhh=>absurd hh<|by simp only [];decide) λ_ => .bifD (λ_=>(kr (by rw [llm];exact ⟨by omega,by show _<=((ae.get s.lists 2).length:Int);omega⟩) (by rw [llm];exact hln 2<|by decide)<|by rw [llm];show (ae.get s.lists 2).length<=_;omega).bind λv e=>?_) λhh=>absurd rfl hh;subst e;refine .gdD ⟨by omega,?_⟩<|.pure rfl;simp only [lla,RP,R3,llm,llc,RQ];have : (ae.get s.lists 2).length=s.lists.x2.length:=rfl;omega
  have h23 : ¬ (x.Op=2\/x.Op=3):=by
   intro e;have : ul x=true:=by rcases e with e | e <;> simp [ul,e]
   rw [this] at hst
   cases hst
  unfold DX;rw [if_neg h23,if_neg (by simpa using h5)]
 unfold JK;rw [<- hy]
end
theorem CM (L:ae) (f:ai->ai) (j:Int):ae.get ⟨L.x0.map f,L.x1.map f,L.x2.map f⟩ j=(ae.get L j).map f:=by
 unfold ae.get
 split
 ·rfl
 split <;> rfl
theorem yQ (O:aa) (f:ah->ah) (j:Int):aa.get ⟨f O.x0,f O.x1,f O.x2⟩ j=f (aa.get O j):=by
 unfold aa.get
 split
 ·rfl
 split <;> rfl
def OB (L:ae) (O:aa):Prop:=∀ u:Nat,u<3->∀ j,0<=j/\j<=2->0<=ah.get (aa.get O u) j/\ah.get (aa.get O u) j<((ae.get L j).length:Int)
def LB (L:ae):Prop:=(∀ l,0<=l/\l<=2->1<=(ae.get L l).length)/\∀ l,0<=l/\l<=2->∀ w∈ae.get L l,(0<=w.value/\w.value<=3)/\∀ j,0<=j/\j<=2->0<=ah.get w.view j/\ah.get w.view j<((ae.get L j).length:Int)
theorem JL (v:ah) {l:Int} (hl:0<=l/\l<=2) (k:Int) {j:Int} (hj:0<=j/\j<=2):ah.get (mvP v l k) j=if j=l/\k<=ah.get v l then ah.get v l+1 else ah.get v j:=by
 unfold mvP;rw [yO _ _ hl hj]
 by_cases e:j=l
 ·subst e;rw [if_pos rfl]
  by_cases h:k<=ah.get v j
  ·rw [if_pos h,if_pos ⟨rfl,h⟩]
  rw [if_neg h,if_neg λg=>h g.2]
 rw [if_neg e,if_neg λg=>e g.1]
def FW (L:ae) (l k:Int) (w:ai):ae:=
 ae.set ⟨L.x0.map<|mvW l k,L.x1.map<|mvW l k,L.x2.map<|mvW l k⟩ l (((ae.get L l).map<|mvW l k).take k.toNat++[w]++((ae.get L l).map<|mvW l k).drop k.toNat)
def IM (O:aa) (t l k:Int):aa:=
 aa.set ⟨mvP O.x0 l k,mvP O.x1 l k,mvP O.x2 l k⟩ t (ah.set (mvP (aa.get O t) l k) l k)
theorem yR (L:ae) (O:aa) (t l k v:Int) (ht:0<=t/\t<=2):FV L O t l k v=(FW L l k ⟨v,false,ah.set (mvP (aa.get O t) l k) l k⟩,IM O t l k):=by
 unfold FV FW IM;simp only [CM,yQ O (λv=>mvP v l k),qb _ _ ht ht,if_true]
section
variable {L:ae} {O:aa} {t:Nat} {l k v:Int}
theorem yS (hl:0<=l/\l<=2) (w:ai) {j:Int} (hj:0<=j/\j<=2):ae.get (FW L l k w) j=if j=l then ((ae.get L l).map<|mvW l k).take k.toNat++[w]++((ae.get L l).map<|mvW l k).drop k.toNat else (ae.get L j).map (mvW l k):=by
 unfold FW;rw [yP _ _ hl hj,CM]
theorem rT (hl:0<=l/\l<=2) (w:ai) {j:Int} (hj:0<=j/\j<=2):(ae.get (FW L l k w) j).length=(ae.get L j).length+if j=l then 1 else 0:=by
 rw [yS hl w hj]
 split
 ·rename_i e;subst e;simp only [lla,RP,R3,llm,llc,RQ];omega
 simp
theorem Hs (ht:t<3) (hl:0<=l/\l<=2) {u:Nat} (hu:u<3) {j:Int} (hj:0<=j/\j<=2):ah.get (aa.get (IM O t l k) u) j=if u=t/\j=l then k else ah.get (mvP (aa.get O u) l k) j:=by
 unfold IM;rw [qb _ _ (by omega) (by omega),yQ O (λv=>mvP v l k)]
 by_cases e:u=t
 ·subst e;rw [if_pos rfl,yO _ _ hl hj]
  by_cases g:j=l
  ·rw [if_pos g,if_pos ⟨rfl,g⟩]
  rw [if_neg g,if_neg λh=>g h.2]
 rw [if_neg (by omega),if_neg λh=>e h.1]
theorem Lg {w:ah} (hl:0<=l/\l<=2) (hw:∀ j,0<=j/\j<=2->0<=ah.get w j/\ah.get w j<((ae.get L j).length:Int)) (x:ai) {j:Int} (hj:0<=j/\j<=2):0<=ah.get (mvP w l k) j/\ah.get (mvP w l k) j<((ae.get (FW L l k x) j).length:Int):=by
 rw [rT hl x hj,JL _ hl k hj];have h1:=hw j hj;have h2:=hw l hl
 split
 ·rename_i h;rw [if_pos h.1,h.1];omega
 split <;> omega
theorem FX (hO:OB L O) (ht:t<3) (hl:0<=l/\l<=2) (hk:0<=k/\k<=((ae.get L l).length:Int)) (x:ai):OB (FW L l k x) (IM O t l k):=λu hu j hj=>by
 rw [Hs ht hl hu hj]
 split
 ·rename_i h;rw [rT hl x hj,if_pos h.2,h.2];omega
 exact Lg hl (hO u hu) x hj
theorem IP (hL:LB L) (hO:OB L O) (ht:t<3) (hl:0<=l/\l<=2) (hk:0<=k/\k<=((ae.get L l).length:Int)) (hv:0<=v/\v<=3):LB (FW L l k ⟨v,false,ah.set (mvP (aa.get O t) l k) l k⟩):=by
 have old:∀ (x:ai) (i:Int),0<=i/\i<=2->∀ w∈(ae.get L i).map (mvW l k),(0<=w.value/\w.value<=3)/\∀ j,0<=j/\j<=2->0<=ah.get w.view j/\ah.get w.view j<((ae.get (FW L l k x) j).length:Int):=λx i hi w hw=>by
  obtain ⟨w0,h1,rfl⟩:=R6.1 hw;have h2:=hL.2 i hi w0 h1;exact ⟨h2.1,λj hj=>Lg hl h2.2 x hj⟩
 refine ⟨λj hj=>?_,λi hi w hw=>?_⟩
 ·rw [rT hl _ hj];have := hL.1 j hj;omega
 rw [yS hl _ hi] at hw
 split at hw
 ·rename_i e;subst e;rcases RY.1 hw with hw | hw
  ·rcases RY.1 hw with hw | hw
   ·exact old _ i hi w<|Si hw
   rw [RZ.1 hw];refine ⟨hv,λj hj=>?_⟩;have := FX hO ht hi hk ⟨v,false,ah.set (mvP (aa.get O t) i k) i k⟩ t ht j hj;unfold IM at this;rw [qb _ _ (by omega) (by omega),if_pos rfl] at this;exact this
  exact old _ i hi w<|Sg hw
 exact old _ i hi w hw
theorem CN (hl:0<=l/\l<=2) {j:Int} (hj:0<=j/\j<=2):ae.get (Hr L l k) j=if j=l then (ae.get L l).set k.toNat { ((ae.get L l).getD k.toNat default) with taken:=true } else ae.get L j:=by
 unfold Hr;rw [yP _ _ hl hj]
theorem yT (hl:0<=l/\l<=2) {j:Int} (hj:0<=j/\j<=2):(ae.get (Hr L l k) j).length=(ae.get L j).length:=by
 rw [CN hl hj]
 split
 ·rename_i e;subst e;rw [List.length_set]
 rfl
theorem Lh (hL:LB L) (hl:0<=l/\l<=2) (hk:0<=k/\k<((ae.get L l).length:Int)):LB (Hr L l k):=by
 refine ⟨λj hj=>by rw [yT hl hj];exact hL.1 j hj,λi hi w hw=>?_⟩;have key:∃ w0∈ae.get L i,w.value=w0.value/\w.view=w0.view:=by
  rw [CN hl hi] at hw
  split at hw
  ·rename_i e;subst e;rcases Sq hw with hw | rfl
   ·exact ⟨w,hw,rfl,rfl⟩
   refine ⟨(ae.get L i).getD k.toNat default,?_,rfl,rfl⟩;rw [gdq,geq (by omega)];exact RL _
  exact ⟨w,hw,rfl,rfl⟩
 obtain ⟨w0,h1,h2,h3⟩:=key;have h4:=hL.2 i hi w0 h1;rw [h2,h3];exact ⟨h4.1,λj hj=>by rw [yT hl hj];exact h4.2 j hj⟩
theorem Li (hO:OB L O) (hl:0<=l/\l<=2):OB (Hr L l k) O:=λu hu j hj=>by rw [yT hl hj];exact hO u hu j hj
end
end
end Go.Proofs.YtjcmfddobaplbaaGreat
