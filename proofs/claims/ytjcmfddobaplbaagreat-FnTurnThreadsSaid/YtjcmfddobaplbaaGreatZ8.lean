/- Texts joined. No conditions. -/
import Derived.Test.YtjcmfddobaplbaaGreatZ7
namespace Go.Proofs.YtjcmfddobaplbaaGreat
noncomputable section
open _root_.Option renaming bind -> Ra, bind_eq_some_iff -> RJ
open _root_.List renaming range -> Rb, getElem_mem -> Rc, mem_range -> Rf, length_take -> Rh, length_nil -> Ri, countP -> Rj, mem_append -> Rl, mem_singleton -> Rm, length_drop -> Rn, getElem?_map -> Ro, map_congr_left -> Rq, mem_map -> Rt, mem_cons -> Rv, not_mem_nil -> Rw, mem_flatMap -> Rz, ext_getElem? -> RA, getElem?_range -> RD, mem_of_mem_drop -> RE, mem_of_mem_take -> RF, all_eq_true -> RG, mem_append_left -> RH, map_append -> RI, mem_or_eq_of_mem_set -> RL, length_replicate -> RN, eq_of_mem_replicate -> RO, take_succ_cons -> RP, mem_append_right -> RU
open _root_.Int renaming le_refl -> Re, eq_ofNat_of_zero_le -> Rp
open _root_.Nat renaming le_trans -> Rk, mul_right_comm -> Ru, mul_le_mul -> Rx, mul_assoc -> Ry, pow_le_pow_right -> RQ, mul_le_mul_right -> RR
open _root_.BitVec renaming ofInt -> Rs
open Go.RowKit
set_option maxRecDepth 100000
def gz:Option (List ByteArray):= some ([(⟨#[120,61,49,59,97,61,121,124,121,61,49,59,97,61,120]⟩:ByteArray),(⟨#[120,61,49,59,102,101,110,99,101,59,97,61,121,124,121,61,49,59,102,101,110,99,101,59,97,61,120]⟩:ByteArray),(⟨#[120,61,49,59,121,61,49,124,97,61,121,59,98,61,120]⟩:ByteArray),(⟨#[120,61,49,59,121,61,49,124,97,61,121,59,102,101,110,99,101,59,98,61,120]⟩:ByteArray),(⟨#[120,61,49,59,102,101,110,99,101,59,121,61,49,124,97,61,121,59,98,61,120]⟩:ByteArray),(⟨#[97,61,120,59,121,61,49,124,97,61,121,59,120,61,49]⟩:ByteArray),(⟨#[97,61,120,59,121,61,97,124,97,61,121,59,120,61,97]⟩:ByteArray),(⟨#[120,61,49,124,120,61,50,124,97,61,120,59,98,61,120]⟩:ByteArray),(⟨#[120,61,49,124,121,61,49,124,97,61,120,59,98,61,121,124,97,61,121,59,98,61,120]⟩:ByteArray),(⟨#[120,61,49,124,97,61,120,59,121,61,49,124,97,61,121,59,98,61,120]⟩:ByteArray),(⟨#[120,61,49,124,121,61,49,124,97,61,120,59,98,61,121]⟩:ByteArray),(⟨#[97,61,120,58,49,124,97,61,120,58,50,124,120,61,51]⟩:ByteArray),(⟨#[120,61,49,59,97,61,120,59,98,61,121,124,121,61,49,59,97,61,121,59,98,61,120]⟩:ByteArray),(⟨#[120,61,50,59,121,61,49,124,121,61,50,59,120,61,49]⟩:ByteArray),(⟨#[97,61,120,58,49,59,98,61,121,124,97,61,121,58,49,59,98,61,120]⟩:ByteArray),(⟨#[120,61,49,59,120,61,50,124,97,61,120,59,98,61,120]⟩:ByteArray),(⟨#[120,61,49,59,121,61,49,59,97,61,122,124,122,61,49,59,97,61,121,59,98,61,120]⟩:ByteArray),(⟨#[97,61,120,58,49,124,98,61,120,58,49]⟩:ByteArray),(⟨#[102,101,110,99,101]⟩:ByteArray),(⟨#[]⟩:ByteArray),(⟨#[120,61,49,59,97,61,121,124,121,61,49,59,102,101,110,99,101,59,97,61,120]⟩:ByteArray)]:List ByteArray)
def iV (s:ByteArray) (c:Int):LS ((List ByteArray)×Int×Int) (List ByteArray):=λs5=>bif decide (s5.2.1<=(s.size:Int)) then Ra (Ra (bif (s5.2.1==(s.size:Int)) then some true else gd (decide<|0<=s5.2.1/\s5.2.1<(s.size:Int)) <|some<|((s.data.getD s5.2.1.toNat 0).toNat:Int)==c) λs10=>bif s10 then gd (decide<|0<=s5.2.2/\s5.2.2<=s5.2.1/\s5.2.1<=(s.size:Int)) <|gd (dI (s5.1.length+1) 16) <|gd (MG .i64<|s5.2.1+(1:Int)) <|some ((s5.1++[(s.extract s5.2.2.toNat s5.2.1.toNat)]),(s5.2.1+(1:Int))) else some (s5.1,s5.2.2)) λs9=>gd (MG .i64<|s5.2.1+(1:Int)) <|some (.inl (s9.1,(s5.2.1+(1:Int)),s9.2)) else some (.inr s5.1)
def jr (s:ByteArray) (c:Int):Option (List ByteArray):= Ra (bA (iV s c) (([]:List ByteArray),(0:Int),(0:Int))) λs1=>some s1
def bZ (s:ByteArray) (at_:Int) (from_:Int) (most:Int):Option Int:= Ra (bif decide ((s.size:Int)<=at_) then some true else gd (decide<|0<=at_/\at_<(s.size:Int)) <|some<|decide<|((s.data.getD at_.toNat 0).toNat:Int)<from_) λs1=>Ra (bif s1 then some true else gd (decide<|0<=at_/\at_<(s.size:Int)) <|gd (MG .u8<|((s.data.getD at_.toNat 0).toNat:Int)-from_) <|gd (MG .i64<|((s.data.getD at_.toNat 0).toNat:Int)-from_) <|some<|decide<|most<(((s.data.getD at_.toNat 0).toNat:Int)-from_)) λs4=>bif s4 then some (-1:Int) else gd (decide<|0<=at_/\at_<(s.size:Int)) <|gd (MG .u8<|((s.data.getD at_.toNat 0).toNat:Int)-from_) <|gd (MG .i64<|((s.data.getD at_.toNat 0).toNat:Int)-from_) <|some<|((s.data.getD at_.toNat 0).toNat:Int)-from_
def ku (s:ByteArray):Option MI:= bif decide (s=(⟨#[102,101,110,99,101]⟩:ByteArray)) then some (⟨(4:Int),(0:Int),(0:Int),(0:Int)⟩:MI) else Ra (bZ s (0:Int) (97:Int) (2:Int)) λv2=>Ra (bZ s (0:Int) (120:Int) (2:Int)) λv3=>Ra (bif decide ((0:Int)<=v2) then some ((s.size:Int)==(3:Int)) else some false) λs4=>bif s4 then Ra (bZ s (2:Int) (120:Int) (2:Int)) λv7=>some (⟨(1:Int),v7,v2,(0:Int)⟩:MI) else Ra (bif decide ((0:Int)<=v2) then some ((s.size:Int)==(5:Int)) else some false) λs8=>bif s8 then Ra (bZ s (2:Int) (120:Int) (2:Int)) λv11=>Ra (bZ s (4:Int) (48:Int) (3:Int)) λv12=>some (⟨(5:Int),v11,v2,v12⟩:MI) else Ra (bif decide ((0:Int)<=v3) then Ra (bZ s (2:Int) (97:Int) (2:Int)) λv15=>some (decide<|(0:Int)<=v15) else some false) λs13=>bif s13 then Ra (bZ s (2:Int) (97:Int) (2:Int)) λv17=>some (⟨(3:Int),v3,v17,(0:Int)⟩:MI) else Ra (bZ s (2:Int) (48:Int) (3:Int)) λv18=>some (⟨(2:Int),v3,(0:Int),v18⟩:MI)
def ik (from_:Int) (n:Int):Option ByteArray:= gd (MG .u8 n) <|gd (MG .u8<|from_+n) <|some<|strOfNums ([(from_+n)]:LI)
def mS:LS (ByteArray×Int) (ByteArray×Int):=λs9=>bif decide ((9:Int)<s9.2) then gd (decide<|(10:Int)≠0) <|gd (MG .i64<|(48:Int)+(s9.2.tmod (10:Int))) <|gd (MG .u8<|(48:Int)+(s9.2.tmod (10:Int))) <|gd (decide<|(strOfNums ([((48:Int)+(s9.2.tmod (10:Int)))]:LI)).size+s9.1.size<=9223372036854775807) <|gd (MG .i64<|s9.2.tdiv (10:Int)) <|some (.inl (((strOfNums ([((48:Int)+(s9.2.tmod (10:Int)))]:LI))++s9.1),(s9.2.tdiv (10:Int)))) else some (.inr (s9.1,s9.2))
def ju (rcf:Int->Option ByteArray) (n:Int):Option ByteArray:= bif decide (n<(-9223372036854775807:Int)) then some (⟨#[45,57,50,50,51,51,55,50,48,51,54,56,53,52,55,55,53,56,48,56]⟩:ByteArray) else bif decide (n<(0:Int)) then gd (MG .i64<|0-n) <|Ra (rcf<|0-n) λv4=>gd (decide<|(⟨#[45]⟩:ByteArray).size+v4.size<=9223372036854775807) <|some ((⟨#[45]⟩:ByteArray)++v4) else Ra (bA mS ((⟨#[]⟩:ByteArray),n)) λs6=>gd (MG .i64<|(48:Int)+s6.2) <|gd (MG .u8<|(48:Int)+s6.2) <|gd (decide<|(strOfNums ([((48:Int)+s6.2)]:LI)).size+s6.1.size<=9223372036854775807) <|some<|(strOfNums ([((48:Int)+s6.2)]:LI))++s6.1
def il:Nat->Int->Option ByteArray
 | 0=>λ_=>none
 | n+1=>ju (il n)
def ll (n:Int):Option ByteArray:=Kb λnf=>il nf n
def lm (x:MI):Option ByteArray:= Ra (ik (120:Int) x.Loc) λv1=>Ra (ik (97:Int) x.Reg) λv2=>bif (x.Op==(1:Int)) then gd (decide<|v2.size+(⟨#[61]⟩:ByteArray).size<=9223372036854775807) <|gd (decide<|(v2++(⟨#[61]⟩:ByteArray)).size+v1.size<=9223372036854775807) <|some ((v2++(⟨#[61]⟩:ByteArray))++v1) else bif (x.Op==(2:Int)) then gd (decide<|v1.size+(⟨#[61]⟩:ByteArray).size<=9223372036854775807) <|Ra (ll x.Val) λv8=>gd (decide<|(v1++(⟨#[61]⟩:ByteArray)).size+v8.size<=9223372036854775807) <|some ((v1++(⟨#[61]⟩:ByteArray))++v8) else bif (x.Op==(3:Int)) then gd (decide<|v1.size+(⟨#[61]⟩:ByteArray).size<=9223372036854775807) <|gd (decide<|(v1++(⟨#[61]⟩:ByteArray)).size+v2.size<=9223372036854775807) <|some ((v1++(⟨#[61]⟩:ByteArray))++v2) else bif (x.Op==(5:Int)) then gd (decide<|v2.size+(⟨#[61]⟩:ByteArray).size<=9223372036854775807) <|gd (decide<|(v2++(⟨#[61]⟩:ByteArray)).size+v1.size<=9223372036854775807) <|gd (decide<|((v2++(⟨#[61]⟩:ByteArray))++v1).size+(⟨#[58]⟩:ByteArray).size<=9223372036854775807) <|Ra (ll x.Val) λv17=>gd (decide<|(((v2++(⟨#[61]⟩:ByteArray))++v1)++(⟨#[58]⟩:ByteArray)).size+v17.size<=9223372036854775807) <|some ((((v2++(⟨#[61]⟩:ByteArray))++v1)++(⟨#[58]⟩:ByteArray))++v17) else some (⟨#[102,101,110,99,101]⟩:ByteArray)
def iJ (p:List<|List MI) (s4:Int×ByteArray):LS (Int×ByteArray) ByteArray:=λs13=>gd (decide<|0<=s4.1/\s4.1<(p.length:Int)) <|bif decide (s13.1<((p.getD s4.1.toNat default).length:Int)) then Ra (bif decide ((0:Int)<s13.1) then gd (decide<|s13.2.size+(⟨#[59]⟩:ByteArray).size<=9223372036854775807) <|some (s13.2++(⟨#[59]⟩:ByteArray)) else some s13.2) λs17=>gd (decide<|0<=s13.1/\s13.1<((p.getD s4.1.toNat default).length:Int)) <|Ra (lm<|(p.getD s4.1.toNat default).getD s13.1.toNat default) λv21=>gd (decide<|s17.size+v21.size<=9223372036854775807) <|gd (MG .i64<|s13.1+(1:Int)) <|some (.inl ((s13.1+(1:Int)),(s17++v21))) else some (.inr s13.2)
def i9 (p:List<|List MI):LS (Int×ByteArray) ByteArray:=λs4=>bif decide (s4.1<(p.length:Int)) then Ra (Ra (bif decide ((0:Int)<s4.1) then gd (decide<|s4.2.size+(⟨#[124]⟩:ByteArray).size<=9223372036854775807) <|some (s4.2++(⟨#[124]⟩:ByteArray)) else some s4.2) λs8=>bA (iJ p s4) ((0:Int),s8)) λs7=>gd (MG .i64<|s4.1+(1:Int)) <|some (.inl ((s4.1+(1:Int)),s7)) else some (.inr s4.2)
def iW (p:List<|List MI):Option ByteArray:= Ra (bA (i9 p) ((0:Int),(⟨#[]⟩:ByteArray))) λs1=>some s1
def dL (v1:(List ByteArray)) (s6:(List<|List MI)×Int) (v14:(List ByteArray)):LS ((List MI)×Int) (List MI):=λs19=>Ra (bif decide (s19.2<(v14.length:Int)) then some (decide<|s19.2<=(7:Int)) else some false) λs22=>Ra (bif s22 then some (!decide ((v1.getD s6.2.toNat default)=(⟨#[]⟩:ByteArray))) else some false) λs24=>bif s24 then gd (decide<|0<=s19.2/\s19.2<(v14.length:Int)) <|Ra (ku<|v14.getD s19.2.toNat default) λv28=>gd (dI (s19.1.length+1) 32) <|gd (MG .i64<|s19.2+(1:Int)) <|some (.inl ((s19.1++[v28]),(s19.2+(1:Int)))) else some (.inr s19.1)
def d9 (v1:(List ByteArray)):LS ((List<|List MI)×Int) (List<|List MI):=λs6=>Ra (bif decide (s6.2<(v1.length:Int)) then some (decide<|s6.2<=(3:Int)) else some false) λs9=>bif s9 then Ra (gd (decide<|0<=s6.2/\s6.2<(v1.length:Int)) <|Ra (jr (v1.getD s6.2.toNat default) (59:Int)) λv14=>Ra (bA (dL v1 s6 v14) (([]:List MI),(0:Int))) λs15=>gd (dI (s6.1.length+1) 24) <|some<|s6.1++[s15]) λs12=>gd (MG .i64<|s6.2+(1:Int)) <|some (.inl (s12,(s6.2+(1:Int)))) else some (.inr s6.1)
def bO (text:ByteArray):Option ((List<|List MI)×Bool):= Ra (jr text (124:Int)) λv1=>Ra (bA (d9 v1) (([]:List<|List MI),(0:Int))) λs2=>Ra (cW s2) λv36=>Ra (bif !v36 then some true else Ra (iW s2) λv39=>some<|!decide (v39=text)) λs37=>bif s37 then some (([]:List<|List MI),false) else some (s2,true)
def iR (r_:ak):Option (ak×MI):= Ra (aP (⟨r_.b,r_.p⟩:ak) (2:Int)) λv1=>Ra (aP (⟨v1.1.b,v1.1.p⟩:ak) (7:Int)) λv2=>bif (v2.2==(0:Int)) then some ((⟨v2.1.b,v2.1.p⟩:ak),(⟨(4:Int),(0:Int),(0:Int),(0:Int)⟩:MI)) else bif (v2.2==(1:Int)) then Ra (aP (⟨v2.1.b,v2.1.p⟩:ak) (2:Int)) λv5=>some ((⟨v5.1.b,v5.1.p⟩:ak),(⟨(3:Int),v1.2,v5.2,(0:Int)⟩:MI)) else bif (v2.2==(2:Int)) then Ra (aP (⟨v2.1.b,v2.1.p⟩:ak) (2:Int)) λv7=>Ra (aP (⟨v7.1.b,v7.1.p⟩:ak) (3:Int)) λv8=>gd (MG .i64<|(1:Int)+v8.2) <|some ((⟨v8.1.b,v8.1.p⟩:ak),(⟨(5:Int),v1.2,v7.2,((1:Int)+v8.2)⟩:MI)) else Ra (bif (v2.2==(3:Int)) then some (v2.2==(3:Int)) else some (v2.2==(4:Int))) λs10=>bif s10 then Ra (aP (⟨v2.1.b,v2.1.p⟩:ak) (3:Int)) λv13=>gd (MG .i64<|(1:Int)+v13.2) <|some ((⟨v13.1.b,v13.1.p⟩:ak),(⟨(2:Int),v1.2,(0:Int),((1:Int)+v13.2)⟩:MI)) else Ra (aP (⟨v2.1.b,v2.1.p⟩:ak) (2:Int)) λv15=>some ((⟨v15.1.b,v15.1.p⟩:ak),(⟨(1:Int),v1.2,v15.2,(0:Int)⟩:MI))
def iz:LS ((LI)×Int×(List MI)×Int) ((LI)×Int×(List MI)):=λs24=>bif decide ((0:Int)<s24.2.2.2) then Ra (iR (⟨s24.1,s24.2.1⟩:ak)) λv28=>gd (dI (s24.2.2.1.length+1) 32) <|gd (MG .i64<|s24.2.2.2-(1:Int)) <|some (.inl (v28.1.b,v28.1.p,(s24.2.2.1++[v28.2]),(s24.2.2.2-(1:Int)))) else some (.inr (s24.1,s24.2.1,s24.2.2.1))
def iA:LS ((LI)×Int×(List<|List MI)×Int) ((LI)×Int×(List<|List MI)):=λs14=>bif decide ((0:Int)<s14.2.2.2) then Ra (Ra (Ra (bG (⟨s14.1,s14.2.1⟩:ak) ([(2:Int),(1:Int),(3:Int),(2:Int),(0:Int)]:LI)) λv20=>bA iz (v20.1.b,v20.1.p,([]:List MI),v20.2)) λs19=>gd (dI (s14.2.2.1.length+1) 24) <|some (s19.1,s19.2.1,(s14.2.2.1++[s19.2.2]))) λs18=>gd (MG .i64<|s14.2.2.2-(1:Int)) <|some (.inl (s18.1,s18.2.1,s18.2.2,(s14.2.2.2-(1:Int)))) else some (.inr (s14.1,s14.2.1,s14.2.2.1))
def lq (r_:ak):Option (ak×(List<|List MI)):= Ra (gz) λv1=>sumK (Ra (aP (⟨r_.b,r_.p⟩:ak) (3:Int)) λv3=>bif decide ((0:Int)<v3.2) then Ra (aP (⟨v3.1.b,v3.1.p⟩:ak) (v1.length:Int)) λv5=>gd (decide<|0<=v5.2/\v5.2<(v1.length:Int)) <|Ra (bO<|v1.getD v5.2.toNat default) λv7=>bif v7.2 then some (.inr ((⟨v5.1.b,v5.1.p⟩:ak),v7.1)) else some (.inl (v5.1.b,v5.1.p)) else some (.inl (v3.1.b,v3.1.p))) λs2=>Ra (Ra (bG (⟨s2.1,s2.2⟩:ak) ([(2:Int),(3:Int),(1:Int)]:LI)) λv10=>bA iA (v10.1.b,v10.1.p,([]:List<|List MI),v10.2)) λs9=>Ra (cW s9.2.2) λv36=>bif v36 then some ((⟨s9.1,s9.2.1⟩:ak),s9.2.2) else Ra (iR (⟨s9.1,s9.2.1⟩:ak)) λv38=>some ((⟨v38.1.b,v38.1.p⟩:ak),([([v38.2]:List MI)]:List<|List MI))
def jv (x:MI):Option Bool:= Ra (bif (x.Op==(2:Int)) then some true else some (x.Op==(3:Int))) λs1=>Ra (bif s1 then some true else some (x.Op==(5:Int))) λs3=>some s3
def kv (x:MI):Option Bool:= Ra (bif (x.Op==(1:Int)) then some true else some (x.Op==(5:Int))) λs1=>some s1
def mo (p:List<|List MI) (loc:Int) (writes:Bool) (s4:Int×Int):LS (Int×Int) Int:=λs10=>gd (decide<|0<=s4.1/\s4.1<(p.length:Int)) <|bif decide (s10.1<((p.getD s4.1.toNat default).length:Int)) then Ra (gd (decide<|0<=s10.1/\s10.1<((p.getD s4.1.toNat default).length:Int)) <|Ra (bif ((((p.getD s4.1.toNat default).getD s10.1.toNat default).Loc)==loc) then Ra (bif writes then Ra (jv (⟨((p.getD s4.1.toNat default).getD s10.1.toNat default).Op,((p.getD s4.1.toNat default).getD s10.1.toNat default).Loc,((p.getD s4.1.toNat default).getD s10.1.toNat default).Reg,((p.getD s4.1.toNat default).getD s10.1.toNat default).Val⟩:MI)) λv20=>some v20 else some false) λs18=>Ra (bif s18 then some true else Ra (bif !writes then Ra (kv (⟨((p.getD s4.1.toNat default).getD s10.1.toNat default).Op,((p.getD s4.1.toNat default).getD s10.1.toNat default).Loc,((p.getD s4.1.toNat default).getD s10.1.toNat default).Reg,((p.getD s4.1.toNat default).getD s10.1.toNat default).Val⟩:MI)) λv25=>some v25 else some false) λs23=>some s23) λs21=>some s21 else some false) λs16=>bif s16 then gd (MG .i64<|s10.2+(1:Int)) <|some (s10.2+(1:Int)) else some s10.2) λs14=>gd (MG .i64<|s10.1+(1:Int)) <|some (.inl ((s10.1+(1:Int)),s14)) else some (.inr s10.2)
def mU (p:List<|List MI) (loc:Int) (writes:Bool):LS (Int×Int) Int:=λs4=>bif decide (s4.1<(p.length:Int)) then Ra (bA (mo p loc writes s4) ((0:Int),s4.2)) λs7=>gd (MG .i64<|s4.1+(1:Int)) <|some (.inl ((s4.1+(1:Int)),s7)) else some (.inr s4.2)
def iS (p:List<|List MI) (loc:Int) (writes:Bool):Option Int:= Ra (bA (mU p loc writes) ((0:Int),(0:Int))) λs1=>some s1
def mq (p:List<|List MI) (most:Int) (s4:Int×Int) (v8:Int):LS (Int×Int) Int:=λs12=>Ra (iS p s4.1 false) λv14=>Ra (bif decide (s12.1<v14) then some (decide<|s12.2<=most) else some false) λs15=>bif s15 then gd (MG .i64<|v8+(1:Int)) <|gd (MG .i64<|s12.2*(v8+(1:Int))) <|gd (MG .i64<|s12.1+(1:Int)) <|some (.inl ((s12.1+(1:Int)),(s12.2*(v8+(1:Int))))) else some (.inr s12.2)
def mr (most:Int) (v8:Int):LS (Int×Int) Int:=λs23=>Ra (bif decide (s23.1<=v8) then some (decide<|s23.2<=most) else some false) λs25=>bif s25 then gd (MG .i64<|s23.2*s23.1) <|gd (MG .i64<|s23.1+(1:Int)) <|some (.inl ((s23.1+(1:Int)),(s23.2*s23.1))) else some (.inr s23.2)
def mV (p:List<|List MI) (most:Int):LS (Int×Int) Int:=λs4=>bif decide (s4.1<=(2:Int)) then Ra (Ra (iS p s4.1 true) λv8=>Ra (bA (mq p most s4 v8) ((0:Int),s4.2)) λs9=>bA (mr most v8) ((2:Int),s9)) λs7=>gd (MG .i64<|s4.1+(1:Int)) <|some (.inl ((s4.1+(1:Int)),s7)) else some (.inr s4.2)
def kx (p:List<|List MI) (most:Int):Option Int:= Ra (bA (mV p most) ((0:Int),(1:Int))) λs1=>bif decide (most<s1) then gd (MG .i64<|most+(1:Int)) <|some (most+(1:Int)) else some s1
def kz (r_:ak):Option (ak×(List<|List MI)):= Ra (lq (⟨r_.b,r_.p⟩:ak)) λv1=>Ra (kx v1.2 (200:Int)) λv2=>bif decide (v2<=(200:Int)) then some ((⟨v1.1.b,v1.1.p⟩:ak),v1.2) else Ra (bO (⟨#[120,61,49,59,97,61,121,124,121,61,49,59,97,61,120]⟩:ByteArray)) λv4=>some ((⟨v1.1.b,v1.1.p⟩:ak),v4.1)
def nJ (code:LI):Option ((List<|List MI)×Int×Int):= Ra (iQ code) λv1=>Ra (kz (⟨v1.b,v1.p⟩:ak)) λv2=>Ra (ij (⟨v2.1.b,v2.1.p⟩:ak) v2.2) λv3=>Ra (bG (⟨v3.1.b,v3.1.p⟩:ak) ([(0:Int),(1:Int),(0:Int),(2:Int),(-1:Int)]:LI)) λv4=>Ra (bG (⟨v4.1.b,v4.1.p⟩:ak) ([(1:Int),(0:Int),(2:Int),(3:Int)]:LI)) λv5=>some (v3.2,v4.2,v5.2)
def ek (code:LI):Option ((List<|List MI)×Int×Int):= Ra (nJ code) λv1=>some (v1.1,v1.2.1,v1.2.2)
def iq (x:Int):Option Bool:= Ra (fT x (0:Int) (3:Int)) λv1=>some<|!v1
def bQ (s:LI):LS Int (Unit ⊕ Int):=λs4=>bif decide (s4<(s.length:Int)) then gd (decide<|0<=s4/\s4<(s.length:Int)) <|Ra (iq<|s.getD s4.toNat default) λv8=>bif v8 then some (.inr<|.inr s4) else gd (MG .i64<|s4+(1:Int)) <|some (.inl<|s4+(1:Int)) else some (.inr<|.inl ())
def bi (s:LI):Option Int:= sumK (bA (bQ s) (0:Int)) λs1=>some (-1:Int)
def bg (s:LI):Option Bool:= Ra (bi s) λv1=>some<|decide<|(0:Int)<=v1
def fU (p:List<|List MI) (o_:LI):Option Bool:= Ra (aA p) λv1=>Ra (bif v1 then gd (MG .i64<|(3:Int)*(p.length:Int)) <|gd (MG .i64<|((3:Int)*(p.length:Int))+(2:Int)) <|gd (MG .i64<|(((3:Int)*(p.length:Int))+(2:Int))+(1:Int)) <|some ((o_.length:Int)==((((3:Int)*(p.length:Int))+(2:Int))+(1:Int))) else some false) λs2=>Ra (bif s2 then Ra (bg o_) λv9=>some (!v9) else some false) λs7=>some s7
def iw (p:List<|List MI) (t:Int):Option Bool:= Ra (aA p) λv1=>Ra (bif v1 then gd (MG .i64<|(p.length:Int)-(1:Int)) <|Ra (fT t (0:Int)<|(p.length:Int)-(1:Int)) λv5=>some v5 else some false) λs2=>some s2
def kL (loc:Int):Option Bool:= Ra (fT loc (0:Int) (2:Int)) λv1=>some v1
def j5 (s:LI):Option (LI):= nilK (s.isEmpty) (some ([]:LI)) (gd (dI (([]:LI).length+s.length) 8) <|some<|([]:LI)++s)
def lu (x:Int) (i:Int) (k_:Int):Option Int:= bif (x==i) then some k_ else bif (x==k_) then some i else some x
def gJ (o_:LI) (i:Int) (k_:Int) (s28:(LI)×Int):LS ((LI)×Int) (LI):=λs40=>bif decide (s40.2<(3:Int)) then Ra (lu s28.2 i k_) λv46=>gd (MG .i64<|(3:Int)*v46) <|gd (MG .i64<|((3:Int)*v46)+s40.2) <|gd (MG .i64<|(3:Int)*s28.2) <|gd (MG .i64<|((3:Int)*s28.2)+s40.2) <|gd (decide<|0<=(((3:Int)*s28.2)+s40.2)/\(((3:Int)*s28.2)+s40.2)<(o_.length:Int)) <|gd (decide<|0<=(((3:Int)*v46)+s40.2)/\(((3:Int)*v46)+s40.2)<(s40.1.length:Int)) <|gd (MG .i64<|s40.2+(1:Int)) <|some (.inl ((s40.1.set ((((3:Int)*v46)+s40.2).toNat)<|o_.getD (((3:Int)*s28.2)+s40.2).toNat default),(s40.2+(1:Int)))) else some (.inr s40.1)
def gK (p:List<|List MI) (o_:LI) (i:Int) (k_:Int):LS ((LI)×Int) (LI):=λs28=>bif decide (s28.2<(p.length:Int)) then Ra (bA (gJ o_ i k_ s28) (s28.1,(0:Int))) λs34=>gd (MG .i64<|s28.2+(1:Int)) <|some (.inl (s34,(s28.2+(1:Int)))) else some (.inr s28.1)
def eM (p:List<|List MI) (o_:LI) (i:Int) (k_:Int) (x:Int) (y:Int):Option ((LI)×Bool):= Ra (fU p o_) λv1=>Ra (bif !v1 then some true else Ra (iw p i) λv4=>some<|!v4) λs2=>Ra (bif s2 then some true else Ra (iw p k_) λv7=>some<|!v7) λs5=>Ra (bif s5 then some true else Ra (kL x) λv10=>some<|!v10) λs8=>Ra (bif s8 then some true else Ra (kL y) λv13=>some<|!v13) λs11=>bif s11 then some (([]:LI),false) else Ra (j5 o_) λv15=>Ra (bA (gK p o_ i k_) (v15,(0:Int))) λs19=>gd (MG .i64<|(3:Int)*(p.length:Int)) <|gd (MG .i64<|((3:Int)*(p.length:Int))+x) <|gd (MG .i64<|((3:Int)*(p.length:Int))+y) <|gd (decide<|0<=(((3:Int)*(p.length:Int))+y)/\(((3:Int)*(p.length:Int))+y)<(o_.length:Int)) <|gd (decide<|0<=(((3:Int)*(p.length:Int))+x)/\(((3:Int)*(p.length:Int))+x)<(o_.length:Int)) <|gd (decide<|0<=(((3:Int)*(p.length:Int))+x)/\(((3:Int)*(p.length:Int))+x)<(s19.length:Int)) <|gd (decide<|0<=(((3:Int)*(p.length:Int))+y)/\(((3:Int)*(p.length:Int))+y)<(s19.length:Int)) <|some (((s19.set ((((3:Int)*(p.length:Int))+x).toNat)<|o_.getD (((3:Int)*(p.length:Int))+y).toNat default).set ((((3:Int)*(p.length:Int))+y).toNat)<|o_.getD (((3:Int)*(p.length:Int))+x).toNat default),true)
def lM (list:LL) (o_:LI):LS Int (Unit ⊕ Bool):=λs4=>bif decide (s4<(list.length:Int)) then gd (decide<|0<=s4/\s4<(list.length:Int)) <|Ra (lj (list.getD s4.toNat default) o_) λv8=>bif v8 then some (.inr<|.inr true) else gd (MG .i64<|s4+(1:Int)) <|some (.inl<|s4+(1:Int)) else some (.inr<|.inl ())
def gu (list:LL) (o_:LI):Option Bool:= sumK (bA (lM list o_) (0:Int)) λs1=>some false
def jd (v2:(List<|List MI)×Int×Int) (v22:(LL)) (v23:(LL)):LS Int (Unit ⊕ (Unit ⊕ (Int ⊕ (Unit ⊕ Bool)))):=λs27=>bif decide (s27<(v22.length:Int)) then gd (decide<|0<=s27/\s27<(v22.length:Int)) <|Ra (eM v2.1 (v22.getD s27.toNat default) v2.2.1 v2.2.2 (0:Int) (0:Int)) λv31=>Ra (bif !v31.2 then some true else Ra (gu v23 v31.1) λv34=>some<|!v34) λs32=>bif s32 then some (.inr<|.inr<|.inr<|.inr<|.inr false) else gd (MG .i64<|s27+(1:Int)) <|some (.inl<|s27+(1:Int)) else some (.inr<|.inl ())
def je (v2:(List<|List MI)×Int×Int) (v3:(List<|List MI)×Bool):LS Int (Unit ⊕ Bool):=λs17=>bif decide (s17<(([(⟨#[115,101,113]⟩:ByteArray),(⟨#[116,115,111]⟩:ByteArray),(⟨#[112,115,111]⟩:ByteArray),(⟨#[114,97]⟩:ByteArray)]:List ByteArray).length:Int)) then sumK (gd (decide<|0<=s17/\s17<(([(⟨#[115,101,113]⟩:ByteArray),(⟨#[116,115,111]⟩:ByteArray),(⟨#[112,115,111]⟩:ByteArray),(⟨#[114,97]⟩:ByteArray)]:List ByteArray).length:Int)) <|Ra (aK v2.1<|([(⟨#[115,101,113]⟩:ByteArray),(⟨#[116,115,111]⟩:ByteArray),(⟨#[112,115,111]⟩:ByteArray),(⟨#[114,97]⟩:ByteArray)]:List ByteArray).getD s17.toNat default) λv22=>Ra (aK v3.1<|([(⟨#[115,101,113]⟩:ByteArray),(⟨#[116,115,111]⟩:ByteArray),(⟨#[112,115,111]⟩:ByteArray),(⟨#[114,97]⟩:ByteArray)]:List ByteArray).getD s17.toNat default) λv23=>sumK (bA (jd v2 v22 v23) (0:Int)) λs24=>bif ((v22.length:Int) != (v23.length:Int)) then some (.inr<|.inr<|.inr false) else some (.inl ())) λs20=>gd (MG .i64<|s17+(1:Int)) <|some (.inl<|s17+(1:Int)) else some (.inr<|.inl ())
def dE (code:LI):Option Bool:= bif decide ((1048576:Int)<(code.length:Int)) then some true else Ra (ek code) λv2=>Ra (gW v2.1 v2.2.1 v2.2.2) λv3=>Ra (gX v2.1 v2.2.1 v2.2.2) λv4=>Ra (bif (!(v3.2==v4.2)) then some true else Ra (eH v3.1 v4.1) λv7=>some<|!v7) λs5=>Ra (bif s5 then some true else some (!v3.2)) λs8=>bif s8 then Ra (bif (v3.2==v4.2) then Ra (eH v3.1 v4.1) λv13=>some v13 else some false) λs11=>some s11 else sumK (bA (je v2 v3) (0:Int)) λs14=>some true
def tF (n i k x y:Nat) (o:LI):LI:=(Rb<|3*n+3).map λj=>if j<3*n then o.getD (3*bM (j / 3) i k+j % 3) default else o.getD (3*n+bM (j-3*n) x y) default
theorem A8 {N m:Nat} (f:Nat->Int) (hm:m<N) (v:Int):((Rb N).map f).set m v=(Rb N).map λj=>if j=m then v else f j:=by
 refine RA λj=>?_;rw [List.getElem?_set,Ro,Ro,llm,List.length_range]
 by_cases h:m=j
 ·subst h;rw [if_pos rfl,if_pos hm,RD hm];simp
 rw [if_neg h];rcases Nat.lt_or_ge j N with g | g
 ·rw [RD g];simp [Ne.symm h]
 rw [gen (by simpa using g)]
 rfl
theorem Ia {o:LI} {N:Nat} (h:o.length=N):o=(Rb N).map λj=>o.getD j default:=by
 refine RA λj=>?_;rw [Ro];rcases Nat.lt_or_ge j N with g | g
 ·rw [RD g,geq (by omega)];simp [List.getD,h,g]
 rw [gen (by omega),gen (by simpa using g)]
 rfl
theorem lN (t i k:Nat):bM (bM t i k) i k=t:=by
 unfold bM
 by_cases h1:t=i
 ·subst h1;rw [if_pos rfl]
  by_cases h2:k=t
  ·rw [if_pos h2,h2]
  rw [if_neg h2,if_pos rfl]
 rw [if_neg h1]
 by_cases h2:t=k
 ·subst h2;rw [if_pos rfl,if_pos rfl]
 rw [if_neg h2,if_neg h1,if_neg h2]
theorem Fj (t i k:Nat):lu (t:Int) (i:Int) (k:Int)=some ((bM t i k:Nat):Int):=by
 unfold lu bM
 by_cases h:t=i
 ·subst h;simp
 have h1:((t:Int)==(i:Int))=false:=by simp;omega
 rw [h1,if_neg h]
 by_cases g:t=k
 ·subst g;simp
 have h2:((t:Int)==(k:Int))=false:=by simp;omega
 rw [h2,if_neg g]
 rfl
section
variable {p:List (List MI)} {o:LI}
theorem Dh (hv:aA p=some true) (hn:p.length<=3) (ho:o.length=3*p.length+3) (hb:∀ v∈o,0<=v/\v<=3):MN (fU p o) (· = true):=by
 unfold fU;rw [hv];refine MN.bind (P:=(· = true)) (.pure rfl) λb hb' => ?_;subst hb';refine MN.bind (P:=(· = true)) (.bif (λ_ => .gdI (by omega)<|.gdI (by omega)<|.gdI (by omega)<|.pure ?_) λh=>by cases h) λb hb' => ?_
 ·rw [beq_iff_eq];omega
 subst hb';refine MN.bind (P:=(· = true)) (.bif (λ_=>?_) λh=>by cases h) λb hb' => .pure hb';unfold bg;refine MN.bind (P:=(· = false)) (MN.bind (P:=(· = (-1:Int))) ?_ λv hv => .pure<|by rw [hv];rfl) λv hv => .pure (by rw [hv];rfl);unfold bi;refine MN.sum (PS:=λ_=>True) (PW:=(· = (-1:Int))) ?_ λ_ _ => .pure rfl;refine MN.loop (λz=>0<=z/\z<=(o.length:Int)) (λz=>((o.length:Int)-z).toNat) ⟨Re _,by omega⟩ λz ⟨h1,h2⟩ => ?_;unfold bQ;refine .bifD (λhlt => .gdD ⟨h1,hlt⟩ ?_) λ_ => .pure trivial;have hm:o.getD z.toNat default∈o:=by
  rw [gdq,geq (by omega)];exact Rc _
 have hz:=hb _ hm;refine MN.bind (P:=(· = false)) ?_ λb hb' => .bif (λh=>absurd h<|by rw [hb'];decide) λ_ => .gdI (by omega) (.pure ⟨⟨by omega,by omega⟩,by omega⟩);unfold iq fT;rw [decide_eq_true hz.1,decide_eq_true hz.2];exact .pure rfl
theorem zO {x lo hi:Int} (h:lo<=x/\x<=hi):fT x lo hi=some true:=by
 unfold fT;rw [decide_eq_true h.1,decide_eq_true h.2]
 rfl
theorem vT (hv:aA p=some true) (hn:p.length<=3) {t:Nat} (ht:t<p.length):iw p t=some true:=by
 refine MN.eq ?_;unfold iw;rw [hv];refine MN.bind (P:=(· = true)) (.pure rfl) λb hb=>?_;subst hb;refine MN.bind (P:=(· = true)) (.bif (λ_ => .gdI (by omega) ?_) λh=>by cases h) λb hb => .pure hb;rw [zO ⟨by omega,by omega⟩];exact .pure rfl
theorem Cg {x:Nat} (hx:x<=2):kL (x:Int)=some true:=by
 unfold kL;rw [zO ⟨by omega,by omega⟩]
 rfl
theorem Fq (hv:aA p=some true) (hn:p.length<=3) (ho:o.length=3*p.length+3) (hb:∀ v∈o,0<=v/\v<=3) {i k x y:Nat} (hi:i<p.length) (hk:k<p.length) (hx:x<=2) (hy:y<=2) :
  MN (eM p o i k x y) (· = (tF p.length i k x y o,true)):=by
 unfold eM;refine (Dh hv hn ho hb).bind λv1 e1=>?_;subst e1;rw [vT hv hn hi,vT hv hn hk,Cg hx,Cg hy];refine MN.bind (P:=(· = false)) (.pure rfl) λs e=>?_;subst e;refine MN.bind (P:=(· = false)) (.pure rfl) λs e=>?_;subst e;refine MN.bind (P:=(· = false)) (.pure rfl) λs e=>?_;subst e;refine MN.bind (P:=(· = false)) (.pure rfl) λs e=>?_;subst e;refine .bif (λh=>by cases h) λ_=>?_;refine MN.bind (P:=(· = o)) (uR (λe=>by rw [List.isEmpty_iff.1 e])<|kQ<|dZ (by simp;omega) rfl) λv15 e15=>?_;subst e15;have hS:∀ t:Nat,t<p.length->bM t i k<p.length:=λt ht=>mi ht hi hk;refine MN.bind (P:=(· = (Rb<|3*p.length+3).map λj=>if j<3*p.length then v15.getD (3*bM (j / 3) i k+j % 3) default else v15.getD j default)) ?_ λs19 e19=>?_
 ·refine MN.loop (λz=>(0<=z.2/\z.2<=(p.length:Int))/\z.1=(Rb<|3*p.length+3).map λj=>if j<3*p.length/\bM (j / 3) i k<z.2.toNat then v15.getD (3*bM (j / 3) i k+j % 3) default else v15.getD j default) (λz=>((p.length:Int)-z.2).toNat) ⟨⟨Re _,by simp only [];omega⟩,?_⟩ λz ⟨⟨h1,h2⟩,h3⟩ => ?_
  ·simp only [Int.toNat_zero,Nat.not_lt_zero,and_false,if_false];exact Ia ho
  obtain ⟨l,t⟩:=z;simp only at h1 h2 h3;obtain ⟨t,rfl⟩:=Rp h1;simp only [tnn] at h3;unfold gK;refine .bifD (λhlt=>?_) λhge => .pure ?_
  ·have ht:t<p.length:=by omega
   have hst:=hS t ht;refine MN.bind (P:=λv=>v=(Rb<|3*p.length+3).map λj=>if j<3*p.length/\bM (j / 3) i k<t+1 then v15.getD (3*bM (j / 3) i k+j % 3) default else v15.getD j default) ?_ λv hv => .gdI (by simp only [];omega) (.pure ⟨⟨⟨by simp only [];omega,by simp only [];omega⟩,?_⟩,by simp only [];omega⟩)
   ·refine MN.loop (λz=>(0<=z.2/\z.2<=3)/\z.1=(Rb<|3*p.length+3).map λj=>if j<3*p.length/\(bM (j / 3) i k<t\/bM (j / 3) i k=t/\j % 3<z.2.toNat) then v15.getD (3*bM (j / 3) i k+j % 3) default else v15.getD j default) (λz=>(3-z.2).toNat) ⟨⟨Re _,by simp only [];omega⟩,?_⟩ λz ⟨⟨k1,k2⟩,k3⟩ => ?_
    ·simp only [Int.toNat_zero,Nat.not_lt_zero,and_false,or_false];exact h3
    obtain ⟨l',g⟩:=z;simp only at k1 k2 k3;obtain ⟨g,rfl⟩:=Rp k1;simp only [tnn] at k3;unfold gJ;simp only [Fj];refine .bifD (λhlt2=>?_) λhge2 => .pure ?_
    ·have hll:l'.length=3*p.length+3:=by rw [k3];simp
     refine MN.bind (P:=(· = ((bM t i k:Nat):Int))) (.pure rfl) λv46 e46=>?_;subst e46;refine .gdI (by omega)<|.gdI (by omega)<|.gdI (by omega)<|.gdI (by omega)<|.gdD ⟨by omega,by omega⟩<|.gdD ⟨by omega,by omega⟩<|.gdI (by omega)<|.pure ⟨⟨⟨by omega,by omega⟩,?_⟩,by omega⟩;simp only;rw [show ((3:Int)*((bM t i k:Nat):Int)+(g:Int)).toNat=3*bM t i k+g by omega,show ((3:Int)*(t:Int)+(g:Int)).toNat=3*t+g by omega,show ((g:Int)+1).toNat=g+1 by omega,k3,A8 _ (by omega)];refine Rq λj hj=>?_;have hj:=Rf.1 hj
     by_cases e:j=3*bM t i k+g
     ·have e1:j / 3=bM t i k:=by omega
      have e2:j % 3=g:=by omega
      rw [if_pos e,e1,e2,lN,if_pos ⟨by omega,.inr ⟨rfl,by omega⟩⟩]
     rw [if_neg e];have : (j<3*p.length/\(bM (j / 3) i k<t\/bM (j / 3) i k=t/\j % 3<g))↔(j<3*p.length/\(bM (j / 3) i k<t\/bM (j / 3) i k=t/\j % 3<g+1)):=by
      constructor
      ·rintro ⟨a,b⟩;exact ⟨a,by omega⟩
      rintro ⟨a,b⟩;refine ⟨a,?_⟩;rcases b with b | ⟨b,c⟩
      ·exact .inl b
      refine .inr ⟨b,?_⟩;have : j % 3≠g:=λc'=>e (by
       have : j / 3=bM t i k:=by rw [<- b,lN]
       omega)
      omega
     simp only [this]
    rw [k3,show g=3 by omega];refine Rq λj hj=>?_;have : (j<3*p.length/\(bM (j / 3) i k<t\/bM (j / 3) i k=t/\j % 3<3))↔(j<3*p.length/\bM (j / 3) i k<t+1):=by
     have := Nat.mod_lt j (show 0<3 by decide);omega
    simp only [this]
   rw [hv];simp only [show ((t:Int)+1).toNat=t+1 by omega]
  rw [h3,show t=p.length by omega];refine Rq λj hj=>?_
  by_cases hj3:j<3*p.length
  ·have := hS (j / 3) (by omega);rw [if_pos ⟨hj3,this⟩,if_pos hj3]
  rw [if_neg λh=>hj3 h.1,if_neg hj3]
 subst e19;refine .gdI (by omega)<|.gdI (by omega)<|.gdI (by omega)<|.gdD ⟨by omega,by omega⟩<|.gdD ⟨by omega,by omega⟩<|.gdD ⟨by omega,by simp;omega⟩<|.gdD ⟨by omega,by simp;omega⟩<|.pure ?_;refine Prod.ext ?_ rfl;simp only;rw [show ((3:Int)*(p.length:Int)+(x:Int)).toNat=3*p.length+x by omega,show ((3:Int)*(p.length:Int)+(y:Int)).toNat=3*p.length+y by omega,A8 _ (by omega),A8 _ (by omega)];unfold tF;refine Rq λj hj=>?_;have hj:=Rf.1 hj
 by_cases hj3:j<3*p.length
 ·rw [if_neg (by omega),if_neg (by omega),if_pos hj3];simp only [if_pos hj3]
 simp only [if_neg hj3];rw [show bM (j-3*p.length) x y=if j-3*p.length=x then y else if j-3*p.length=y then x else j-3*p.length from rfl]
 by_cases e1:j=3*p.length+y
 ·rw [if_pos e1]
  by_cases e2:j-3*p.length=x
  ·rw [if_pos e2,show x=y by omega]
  rw [if_neg e2,if_pos (by omega)]
 rw [if_neg e1]
 by_cases e2:j=3*p.length+x
 ·rw [if_pos e2,if_pos (by omega)]
 rw [if_neg e2,if_neg (by omega),if_neg (by omega),show 3*p.length+(j-3*p.length)=j by omega]
end
theorem GG (s:List MI) (h:s.length<=1048576):MN (bz s s) (· = true):=by
 unfold bz;refine .bif (λh=>by simp at h) λ_=>MN.sum (PS:=λ_=>True) (PW:=(· = true)) ?_ λ_ _ => .pure rfl;refine MN.loop (λi=>0<=i/\i<=(s.length:Int)) (λi=>((s.length:Int)-i).toNat) ⟨Re _,by omega⟩ λi ⟨h1,h2⟩ => ?_;unfold dw;refine .bifD (λh3 => .gdD ⟨h1,h3⟩<|.gdD ⟨h1,h3⟩<|.bif (λh=>by simp at h) λ_ => .gdI (by omega)<|.pure ⟨⟨by omega,by omega⟩,by omega⟩) λ_ => .pure trivial
theorem GH (p:List<|List MI) (h:p.length<=1048576) (hr:∀ r∈p,r.length<=1048576):MN (eH p p) (· = true):=by
 unfold eH;refine MN.bind (P:=(· = true)) ?_ λv hv => .pure hv;unfold aG;refine .bif (λh=>by simp at h) λ_=>MN.sum (PS:=λ_=>True) (PW:=(· = true)) ?_ λ_ _ => .pure rfl;refine MN.loop (λi=>0<=i/\i<=(p.length:Int)) (λi=>((p.length:Int)-i).toNat) ⟨Re _,by omega⟩ λi ⟨h1,h2⟩ => ?_;unfold aL;refine .bifD (λh3 => .gdD ⟨h1,h3⟩<|.gdD ⟨h1,h3⟩ ?_) λ_ => .pure trivial;have hi:i.toNat<p.length:=by omega
 have hm:p.getD i.toNat default∈p:=by
  rw [gdq,geq hi];exact Rc _
 unfold iI;refine MN.bind (MN.bind (GG _<|hr _ hm) λv hv => .pure (P:=(· = true)) hv) λv hv=>?_;subst hv;exact .bif (λh=>by simp at h) λ_ => .gdI (by omega)<|.pure ⟨⟨by omega,by omega⟩,by omega⟩
section
variable {α:Type} {r:Option α}
theorem jw {n:Int} {x:Option α} (h : -9223372036854775808<=n/\n<=9223372036854775807) (hx:x=r):gd (MG .i64 n) x=r:=by rw [kQ (HZ h)];exact hx
theorem rQ {A:Prop} [Decidable A] {x:Option α} (h:A) (hx:x=r):gd (decide A) x=r:=by rw [kQ (decide_eq_true h)];exact hx
theorem Fs {b:Bool} {x y:Option α} (h:b=true) (hx:x=r):(bif b then x else y)=r:=by rw [h];exact hx
theorem Ba {b:Bool} {x y:Option α} (h:b=false) (hx:y=r):(bif b then x else y)=r:=by rw [h];exact hx
theorem tH {β:Type} {o:Option β} {k:β->Option α} {v:β} (h:o=some v) (hx:k v=r):o.bind k=r:=by rw [h];exact hx
end
def Bts (b:LI):Prop:=b.length<=1048576/\∀ y∈b,0<=y/\y<=255
theorem Bts.get {b:LI} (h:Bts b) (k:Nat):0<=b.getD k default/\b.getD k default<=255:=by
 rw [gdq]
 by_cases hk:k<b.length
 ·rw [geq hk];exact h.2 _<|Rc _
 rw [gen (by omega)];exact ⟨by decide,by decide⟩
theorem GI {m n:Int} (hm:0<=m/\m<=1000000000000) (hn:0<=n/\n<=1000000000000):0<=Lg .i64 m n:=by
 have e1:∀ x:Int,0<=x->x<=1000000000000->(Rs 64 x).toNat<2 ^ 62:=by
  intro x h1 h2;rw [BitVec.toNat_ofInt];have : x % ((2:Nat) ^ 64:Nat)=x:=by
   rw [Int.emod_eq_of_lt h1];omega
  omega
 have h3:(Rs 64 m ^^^ Rs 64 n).toNat<2 ^ 62:=by
  rw [BitVec.toNat_xor];exact Nat.xor_lt_two_pow (e1 m hm.1 hm.2)<|e1 n hn.1 hn.2
 have h4:=IntWalk.i64_in (((Rs 64 m ^^^ Rs 64 n).toNat:Nat):Int) ⟨by omega,by omega⟩;unfold Lg;rw [show IntKind.i64.bits=64 from rfl,h4];omega
theorem GJ {a n:Int} (ha:0<=a) (hn:0<n):0<=a.tmod n/\a.tmod n<n:=by
 rw [Int.tmod_eq_emod_of_nonneg ha];exact ⟨Int.emod_nonneg _ (by omega),Int.emod_lt_of_pos _ hn⟩
theorem KA {a n:Int} (ha:0<=a) (hn:0<=n):0<=a.tdiv n/\a.tdiv n<=a:=by
 rw [Int.tdiv_eq_ediv_of_nonneg ha];exact ⟨Int.ediv_nonneg ha hn,Int.ediv_le_self _ ha⟩
theorem Ft {b:LI} {p:Int} (hb:Bts b) (hp:0<=p/\p<=100000000) (n:Int):∃ v,aP ⟨b,p⟩ n=some (⟨b,p+1⟩,v)/\0<=v/\(v<n\/v=0):=by
 have hl:=hb.1;have e1:p+1-1=p:=by omega
 unfold aP;simp only [e1]
 by_cases h0:n<1\/b.length=0
 ·refine ⟨0,?_,Re _,.inr rfl⟩;refine jw (by omega) ?_;refine tH (v:=true) ?_<|Fs rfl rfl
  by_cases hn:n<1
  ·exact Fs (by simp [hn]) rfl
  refine Ba (by simp [hn]) ?_;have : b.length=0:=by omega
  simp [this]
 have hn:1<=n:=by omega
 have hl0:0<(b.length:Int):=by omega
 by_cases hlt:p<(b.length:Int)
 ·have hg:=hb.get p.toNat;have hv:=GJ hg.1 (show (0:Int)<n by omega);refine ⟨(b.getD p.toNat default).tmod n,?_,hv.1,.inl hv.2⟩;refine jw (by omega) ?_;refine tH (v:=false) (Ba (by simp;omega)<|congrArg some<|beq_eq_false_iff_ne.2<|by omega) (Ba rfl ?_);refine jw (by omega)<|Fs (by simpa using hlt) ?_;exact rQ (by omega)<|jw (by omega)<|rQ (by omega) rfl
 have h1:=GJ hp.1 hl0;have h2:=KA hp.1 (show 0<=(b.length:Int) by omega);have h3:=GJ (a:=p*7+3) (by omega) hl0;have h4:=hb.get (p.tmod (b.length:Int)).toNat;have h5:=hb.get ((p*7+3).tmod (b.length:Int)).toNat;have hx:0<=(b.getD (p.tmod (b.length:Int)).toNat default)*131+(b.getD ((p*7+3).tmod (b.length:Int)).toNat default)*1117+p*29+p.tdiv (b.length:Int)*53 /\
  (b.getD (p.tmod (b.length:Int)).toNat default)*131+(b.getD ((p*7+3).tmod (b.length:Int)).toNat default)*1117+p*29+p.tdiv (b.length:Int)*53<=1000000000000:=by omega
 have h6:=KA hx.1 (show (0:Int)<=64 by omega);have h7:=GI hx ⟨h6.1,Int.le_trans h6.2 hx.2⟩;have hv:=GJ h7 (show (0:Int)<n by omega);refine ⟨_,?_,hv.1,.inl hv.2⟩;refine jw (by omega) ?_;refine tH (v:=false) (Ba (by simp;omega)<|congrArg some<|beq_eq_false_iff_ne.2<|by omega) (Ba rfl ?_);refine jw (by omega)<|Ba (by simpa using hlt) ?_;refine rQ (by omega)<|rQ h1<|jw (by omega)<|jw (by omega)<|jw (by omega)<|jw (by omega)<|rQ h3<|jw (by omega) ?_;refine jw (by omega)<|jw (by omega)<|jw (by omega)<|jw (by omega)<|jw (by omega)<|jw (by omega)<|jw (by omega) ?_;refine rQ (by omega)<|jw (by omega)<|rQ (by omega) rfl
theorem KC {b:LI} {p:Int} (hb:Bts b) (hp:0<=p/\p<=100000000) (l:LI) (hl:l≠[]):∃ v,bG ⟨b,p⟩ l=some (⟨b,p+1⟩,v)/\v∈l:=by
 obtain ⟨v,h1,h2,h3⟩:=Ft hb hp (l.length:Int);have hpos:0<l.length:=List.length_pos_iff.2 hl;have h4:v<(l.length:Int):=by omega
 refine ⟨l.getD v.toNat default,?_,?_⟩
 ·unfold bG;exact tH h1<|rQ ⟨h2,h4⟩ rfl
 rw [gdq,geq (by omega)];exact Rc _
theorem Jf {b:LI} (hb:Bts b):∃ b',iQ b=some ⟨b',0⟩/\Bts b':=by
 unfold iQ
 by_cases h:(2000:Int)<(b.length:Int)
 ·refine ⟨_,tH (Fs (by simpa using h)<|rQ (by omega) rfl) rfl,?_,λy hy=>?_⟩
  ·rw [Rh];omega
  exact hb.2 y<|RE<|RF hy
 exact ⟨b,tH (Ba (by simpa using h) rfl) rfl,hb⟩
def Rd (k:Int) (r:ak):Prop:=Bts r.b/\0<=r.p/\r.p<=k
theorem Rd.mono {k k':Int} {r:ak} (h:Rd k r) (hk:k<=k'):Rd k' r:=⟨h.1,h.2.1,by have := h.2.2;omega⟩
theorem Rd.mk' {k:Int} {r:ak} (h:Rd k r):Rd k ⟨r.b,r.p⟩:=h
theorem jy {k:Int} {r:ak} (h:Rd k r) (hk:k<=100000000) (n:Int):MN (aP r n) λv=>Rd (k+1) v.1/\0<=v.2/\(v.2<n\/v.2=0):=by
 obtain ⟨b,p⟩:=r;obtain ⟨h1,h2,h3⟩:=h;obtain ⟨v,e,h4,h5⟩:=Ft h1 (p:=p) ⟨h2,by simp only at h3;omega⟩ n;exact ⟨_,e,⟨h1,by simp only at h2 ⊢;omega,by simp only at h3 ⊢;omega⟩,h4,h5⟩
theorem qN {k:Int} {r:ak} (h:Rd k r) (hk:k<=100000000) (l:LI) (hl:l≠[]):MN (bG r l) λv=>Rd (k+1) v.1/\v.2∈l:=by
 obtain ⟨b,p⟩:=r;obtain ⟨h1,h2,h3⟩:=h;obtain ⟨v,e,h4⟩:=KC h1 (p:=p) ⟨h2,by simp only at h3;omega⟩ l hl;exact ⟨_,e,⟨h1,by simp only at h2 ⊢;omega,by simp only at h3 ⊢;omega⟩,h4⟩
theorem GK {b:LI} (h:Bts b):MN (iQ b) (Rd 0):=by
 obtain ⟨b',e,h'⟩:=Jf h;exact ⟨_,e,h',Re _,Re _⟩
def Le {α:Type} (a b:Option α):Prop:=∀ q,a=some q->b=some q
theorem Le.refl {α:Type} (a:Option α):Le a a:=λ_ h=>h
theorem Le.bind {α β:Type} {a b:Option α} {k l:α->Option β} (h:Le a b) (hk:∀ x,Le (k x)<|l x):Le (a.bind k) (b.bind l):=λq hq=>by
 obtain ⟨x,h1,h2⟩:=RJ.1 hq;exact RJ.2 ⟨x,h x h1,hk x q h2⟩
theorem Le.gd {α:Type} {a b:Option α} (c:Bool) (h:Le a b):Le (gd c a) (gd c b):=λq hq=>by
 obtain ⟨h1,h2⟩:=gdL hq;rw [kQ h1];exact h q h2
theorem Le.bif {α:Type} {a b a' b':Option α} (c:Bool) (h:Le a a') (h':Le b b'):Le (bif c then a else b) (bif c then a' else b'):=by
 cases c
 ·exact h'
 exact h
theorem Le.ifc {α:Type} {a b a' b':Option α} (c:Prop) [Decidable c] (h:Le a a') (h':Le b b'):Le (if c then a else b) (if c then a' else b'):=by
 split
 ·exact h
 exact h'
theorem Le.sumK {S W:Type} {a b:Option (S ⊕ W)} {k l:S->Option W} (h:Le a b) (hk:∀ x,Le (k x)<|l x):Le (sumK a k) (sumK b l):=λq hq=>by
 cases a with
 | none=>cases hq
 | some z=>
  rw [h z rfl]
  cases z with
  | inl s=>exact hk s q hq
  | inr w=>exact hq
def vU {S E:Type} (n:Nat) (step:S->Option (S ⊕ E)) (s:S):Option E:=
 Nat.rec (motive:=λ_=>S->Option E) (λ_=>none) (λ_ ih s=>match step s with
  | none=>none
  | some (.inl s')=>ih s'
  | some (.inr e)=>some e) n s
theorem Le.loop {S E:Type} {n:Nat} {step step':S->Option (S ⊕ E)} (h:∀ s,Le (step s)<|step' s) (s:S):Le (vU n step s) (bA step' s):=by
 induction n generalizing s with
 | zero=>intro q hq;cases hq
 | succ n ih=>
  intro q hq;rw [uJ]
  change (match step s with
   | none=>none
   | some (.inl s')=>vU n step s'
   | some (.inr e)=>some e)=some q at hq
  match hs:step s with
  | none=>rw [hs] at hq;cases hq
  | some (.inl s')=>
   rw [hs] at hq;rw [h s _ hs];exact ih s' q hq
  | some (.inr e)=>
   rw [hs] at hq;rw [h s _ hs];exact hq
def LG {α:Type} (e:Bool) (_ b:Option α):Option α:=bif e then none else b
theorem Le.nilK {α:Type} {e:Bool} {a b a' b':Option α} (_:Le a a') (h:Le b b'):Le (LG e a b) (nilK e a' b'):=λq hq=>by
 cases e with
 | true=>cases hq
 | false=>
  unfold Go.Proofs.YtjcmfddobaplbaaGreat.nilK;exact h q hq
def lw (n:Int):Option ByteArray:=bif decide (0<=n/\n<=9) then some (strOfNums ([((48:Int)+n)]:LI)++(⟨#[]⟩:ByteArray)) else none
theorem strOfNums_size (l:LI):(strOfNums l).size=l.length:=by
 simp [strOfNums,ByteArray.size]
theorem uu (n:Int):Le (lw n) (ll n):=by
 intro v h;unfold lw at h
 by_cases hn:0<=n/\n<=9
 ·rw [decide_eq_true hn] at h;obtain rfl:=osl h;refine IR 1 λk hk=>?_
  match k,hk with
  | k+1,_=>
   show ju (il k) n=_;refine MN.eq ?_;unfold ju;refine .bifD (λh=>by omega) λ_ => .bifD (λh=>by omega) λ_=>?_;refine MN.bind (P:=(· = ((⟨#[]⟩:ByteArray),n))) ?_ λs hs=>?_
   ·refine MN.loop (λs=>s=((⟨#[]⟩:ByteArray),n)) (λ_=>0) rfl λs hs=>?_;subst hs;unfold mS;exact .bifD (λh=>by simp only [] at h;omega) λ_ => .pure rfl
   subst hs;refine .gdI (by simp only [];omega) (.gdY (by simp only [];omega)<|.gdD ?_<|.pure rfl);rw [strOfNums_size];exact nlb rfl
 rw [decide_eq_false hn] at h
 cases h
def kS (s:ByteArray) (c:Int):((List ByteArray)×Int×Int)->Option (((List ByteArray)×Int×Int) ⊕ (List ByteArray)):=λs5=>
 bif decide (s5.2.1<=(s.size:Int)) then
  Ra (
   Ra (bif (s5.2.1==(s.size:Int)) then
    some true
   else
    gd (decide<|0<=s5.2.1/\s5.2.1<(s.size:Int)) <|
    some (((s.data.getD s5.2.1.toNat 0).toNat:Int)==c)
   ) λs10=>
   bif s10 then
    gd (decide<|0<=s5.2.2/\s5.2.2<=s5.2.1/\s5.2.1<=(s.size:Int)) <|
    gd (dI (s5.1.length+1) 16) <|
    gd (MG .i64<|s5.2.1+(1:Int)) <|
    some ((s5.1++[(s.extract s5.2.2.toNat s5.2.1.toNat)]),(s5.2.1+(1:Int)))
   else
    some (s5.1,s5.2.2)
  ) λs9=>
  gd (MG .i64<|s5.2.1+(1:Int)) <|
  some (.inl (s9.1,(s5.2.1+(1:Int)),s9.2))
 else
  some (.inr s5.1)
theorem qO (s:ByteArray) (c:Int) (sQ:_):Le (kS s c sQ) (iV s c sQ):=by
 unfold kS iV
 solve_by_elim (maxDepth:=9999) only [*,Le.gd,Le.bif,Le.bind,Le.sumK,Le.loop,Le.nilK,Le.ifc,Le.refl]
def lC (s:ByteArray) (c:Int):Option (List ByteArray):=
 Ra (
  vU 40 (kS s c) (([]:List ByteArray),(0:Int),(0:Int))
 ) λs1=>
 some s1
theorem nW (s:ByteArray) (c:Int):Le (lC s c) (jr s c):=by
 unfold lC jr
 solve_by_elim (maxDepth:=9999) only [*,qO,Le.gd,Le.bif,Le.bind,Le.sumK,Le.loop,Le.nilK,Le.ifc,Le.refl]
def cA (s:ByteArray) (at_:Int) (from_:Int) (most:Int):Option Int:=
 Ra (bif decide ((s.size:Int)<=at_) then
  some true
 else
  gd (decide<|0<=at_/\at_<(s.size:Int)) <|
  some (decide<|((s.data.getD at_.toNat 0).toNat:Int)<from_)
 ) λs1=>
 Ra (bif s1 then
  some true
 else
  gd (decide<|0<=at_/\at_<(s.size:Int)) <|
  gd (MG .u8<|((s.data.getD at_.toNat 0).toNat:Int)-from_) <|
  gd (MG .i64<|((s.data.getD at_.toNat 0).toNat:Int)-from_) <|
  some (decide<|most<(((s.data.getD at_.toNat 0).toNat:Int)-from_))
 ) λs4=>
 bif s4 then
  some (-1:Int)
 else
  gd (decide<|0<=at_/\at_<(s.size:Int)) <|
  gd (MG .u8<|((s.data.getD at_.toNat 0).toNat:Int)-from_) <|
  gd (MG .i64<|((s.data.getD at_.toNat 0).toNat:Int)-from_) <|
  some (((s.data.getD at_.toNat 0).toNat:Int)-from_)
theorem tJ (s:ByteArray) (at_:Int) (from_:Int) (most:Int):Le (cA s at_ from_ most) (bZ s at_ from_ most):=by
 unfold cA bZ
 solve_by_elim (maxDepth:=9999) only [*,Le.gd,Le.bif,Le.bind,Le.sumK,Le.loop,Le.nilK,Le.ifc,Le.refl]
def mG (s:ByteArray):Option MI:=
 bif decide (s=(⟨#[102,101,110,99,101]⟩:ByteArray)) then
  some (⟨(4:Int),(0:Int),(0:Int),(0:Int)⟩:MI)
 else
  Ra (cA s (0:Int) (97:Int) (2:Int)) λv2=>
  Ra (cA s (0:Int) (120:Int) (2:Int)) λv3=>
  Ra (bif decide ((0:Int)<=v2) then
   some ((s.size:Int)==(3:Int))
  else
   some false
  ) λs4=>
  bif s4 then
   Ra (cA s (2:Int) (120:Int) (2:Int)) λv7=>
   some (⟨(1:Int),v7,v2,(0:Int)⟩:MI)
  else
   Ra (bif decide ((0:Int)<=v2) then
    some ((s.size:Int)==(5:Int))
   else
    some false
   ) λs8=>
   bif s8 then
    Ra (cA s (2:Int) (120:Int) (2:Int)) λv11=>
    Ra (cA s (4:Int) (48:Int) (3:Int)) λv12=>
    some (⟨(5:Int),v11,v2,v12⟩:MI)
   else
    Ra (bif decide ((0:Int)<=v3) then
     Ra (cA s (2:Int) (97:Int) (2:Int)) λv15=>
     some (decide<|(0:Int)<=v15)
    else
     some false
    ) λs13=>
    bif s13 then
     Ra (cA s (2:Int) (97:Int) (2:Int)) λv17=>
     some (⟨(3:Int),v3,v17,(0:Int)⟩:MI)
    else
     Ra (cA s (2:Int) (48:Int) (3:Int)) λv18=>
     some (⟨(2:Int),v3,(0:Int),v18⟩:MI)
theorem tK (s:ByteArray):Le (mG s) (ku s):=by
 unfold mG ku
 solve_by_elim (maxDepth:=9999) only [*,tJ,Le.gd,Le.bif,Le.bind,Le.sumK,Le.loop,Le.nilK,Le.ifc,Le.refl]
def fZ (v1:(List ByteArray)) (s6:(List<|List MI)×Int) (v14:(List ByteArray)):((List MI)×Int)->Option (((List MI)×Int) ⊕ (List MI)):=λs19=>
 Ra (bif decide (s19.2<(v14.length:Int)) then
  some (decide<|s19.2<=(7:Int))
 else
  some false
 ) λs22=>
 Ra (bif s22 then
  some (!decide ((v1.getD s6.2.toNat default)=(⟨#[]⟩:ByteArray)))
 else
  some false
 ) λs24=>
 bif s24 then
  gd (decide<|0<=s19.2/\s19.2<(v14.length:Int)) <|
  Ra (mG<|v14.getD s19.2.toNat default) λv28=>
  gd (dI (s19.1.length+1) 32) <|
  gd (MG .i64<|s19.2+(1:Int)) <|
  some (.inl ((s19.1++[v28]),(s19.2+(1:Int))))
 else
  some (.inr s19.1)
theorem lZ (v1:(List ByteArray)) (s6:(List<|List MI)×Int) (v14:(List ByteArray)) (sQ:_):Le (fZ v1 s6 v14 sQ) (dL v1 s6 v14 sQ):=by
 unfold fZ dL
 solve_by_elim (maxDepth:=9999) only [*,tK,Le.gd,Le.bif,Le.bind,Le.sumK,Le.loop,Le.nilK,Le.ifc,Le.refl]
def gL (v1:(List ByteArray)):((List<|List MI)×Int)->Option (((List<|List MI)×Int) ⊕ (List<|List MI)):=λs6=>
 Ra (bif decide (s6.2<(v1.length:Int)) then
  some (decide<|s6.2<=(3:Int))
 else
  some false
 ) λs9=>
 bif s9 then
  Ra (
   gd (decide<|0<=s6.2/\s6.2<(v1.length:Int)) <|
   Ra (lC (v1.getD s6.2.toNat default) (59:Int)) λv14=>
   Ra (
    vU 40 (fZ v1 s6 v14) (([]:List MI),(0:Int))
   ) λs15=>
   gd (dI (s6.1.length+1) 24) <|
   some (s6.1++[s15])
  ) λs12=>
  gd (MG .i64<|s6.2+(1:Int)) <|
  some (.inl (s12,(s6.2+(1:Int))))
 else
  some (.inr s6.1)
theorem mH (v1:(List ByteArray)) (sQ:_):Le (gL v1 sQ) (d9 v1 sQ):=by
 unfold gL d9
 solve_by_elim (maxDepth:=9999) only [*,nW,lZ,Le.gd,Le.bif,Le.bind,Le.sumK,Le.loop,Le.nilK,Le.ifc,Le.refl]
def jJ (from_:Int) (n:Int):Option ByteArray:=
 gd (MG .u8 n) <|
 gd (MG .u8<|from_+n) <|
 some (strOfNums ([(from_+n)]:LI))
theorem rR (from_:Int) (n:Int):Le (jJ from_ n) (ik from_ n):=by
 unfold jJ ik
 solve_by_elim (maxDepth:=9999) only [*,Le.gd,Le.bif,Le.bind,Le.sumK,Le.loop,Le.nilK,Le.ifc,Le.refl]
def nK (x:MI):Option ByteArray:=
 Ra (jJ (120:Int) x.Loc) λv1=>
 Ra (jJ (97:Int) x.Reg) λv2=>
 bif (x.Op==(1:Int)) then
  gd (decide<|v2.size+(⟨#[61]⟩:ByteArray).size<=9223372036854775807) <|
  gd (decide<|(v2++(⟨#[61]⟩:ByteArray)).size+v1.size<=9223372036854775807) <|
  some ((v2++(⟨#[61]⟩:ByteArray))++v1)
 else
  bif (x.Op==(2:Int)) then
   gd (decide<|v1.size+(⟨#[61]⟩:ByteArray).size<=9223372036854775807) <|
   Ra (lw x.Val) λv8=>
   gd (decide<|(v1++(⟨#[61]⟩:ByteArray)).size+v8.size<=9223372036854775807) <|
   some ((v1++(⟨#[61]⟩:ByteArray))++v8)
  else
   bif (x.Op==(3:Int)) then
    gd (decide<|v1.size+(⟨#[61]⟩:ByteArray).size<=9223372036854775807) <|
    gd (decide<|(v1++(⟨#[61]⟩:ByteArray)).size+v2.size<=9223372036854775807) <|
    some ((v1++(⟨#[61]⟩:ByteArray))++v2)
   else
    bif (x.Op==(5:Int)) then
     gd (decide<|v2.size+(⟨#[61]⟩:ByteArray).size<=9223372036854775807) <|
     gd (decide<|(v2++(⟨#[61]⟩:ByteArray)).size+v1.size<=9223372036854775807) <|
     gd (decide<|((v2++(⟨#[61]⟩:ByteArray))++v1).size+(⟨#[58]⟩:ByteArray).size<=9223372036854775807) <|
     Ra (lw x.Val) λv17=>
     gd (decide<|(((v2++(⟨#[61]⟩:ByteArray))++v1)++(⟨#[58]⟩:ByteArray)).size+v17.size<=9223372036854775807) <|
     some ((((v2++(⟨#[61]⟩:ByteArray))++v1)++(⟨#[58]⟩:ByteArray))++v17)
    else
     some (⟨#[102,101,110,99,101]⟩:ByteArray)
theorem uw (x:MI):Le (nK x) (lm x):=by
 unfold nK lm
 solve_by_elim (maxDepth:=9999) only [*,rR,uu,Le.gd,Le.bif,Le.bind,Le.sumK,Le.loop,Le.nilK,Le.ifc,Le.refl]
def iK (p:List<|List MI) (s4:Int×ByteArray):(Int×ByteArray)->Option ((Int×ByteArray) ⊕ ByteArray):=λs13=>
 gd (decide<|0<=s4.1/\s4.1<(p.length:Int)) <|
 bif decide (s13.1<((p.getD s4.1.toNat default).length:Int)) then
  Ra (
   bif decide ((0:Int)<s13.1) then
    gd (decide<|s13.2.size+(⟨#[59]⟩:ByteArray).size<=9223372036854775807) <|
    some (s13.2++(⟨#[59]⟩:ByteArray))
   else
    some s13.2
  ) λs17=>
  gd (decide<|0<=s13.1/\s13.1<((p.getD s4.1.toNat default).length:Int)) <|
  Ra (nK<|(p.getD s4.1.toNat default).getD s13.1.toNat default) λv21=>
  gd (decide<|s17.size+v21.size<=9223372036854775807) <|
  gd (MG .i64<|s13.1+(1:Int)) <|
  some (.inl ((s13.1+(1:Int)),(s17++v21)))
 else
  some (.inr s13.2)
theorem nL (p:List<|List MI) (s4:Int×ByteArray) (sQ:_):Le (iK p s4 sQ) (iJ p s4 sQ):=by
 unfold iK iJ
 solve_by_elim (maxDepth:=9999) only [*,uw,Le.gd,Le.bif,Le.bind,Le.sumK,Le.loop,Le.nilK,Le.ifc,Le.refl]
def ja (p:List<|List MI):(Int×ByteArray)->Option ((Int×ByteArray) ⊕ ByteArray):=λs4=>
 bif decide (s4.1<(p.length:Int)) then
  Ra (
   Ra (
    bif decide ((0:Int)<s4.1) then
     gd (decide<|s4.2.size+(⟨#[124]⟩:ByteArray).size<=9223372036854775807) <|
     some (s4.2++(⟨#[124]⟩:ByteArray))
    else
     some s4.2
   ) λs8=>
   vU 40 (iK p s4) ((0:Int),s8)
  ) λs7=>
  gd (MG .i64<|s4.1+(1:Int)) <|
  some (.inl ((s4.1+(1:Int)),s7))
 else
  some (.inr s4.2)
theorem n9 (p:List<|List MI) (sQ:_):Le (ja p sQ) (i9 p sQ):=by
 unfold ja i9
 solve_by_elim (maxDepth:=9999) only [*,nL,Le.gd,Le.bif,Le.bind,Le.sumK,Le.loop,Le.nilK,Le.ifc,Le.refl]
def kT (p:List<|List MI):Option ByteArray:=
 Ra (
  vU 40 (ja p) ((0:Int),(⟨#[]⟩:ByteArray))
 ) λs1=>
 some s1
theorem qP (p:List<|List MI):Le (kT p) (iW p):=by
 unfold kT iW
 solve_by_elim (maxDepth:=9999) only [*,n9,Le.gd,Le.bif,Le.bind,Le.sumK,Le.loop,Le.nilK,Le.ifc,Le.refl]
def f9 (text:ByteArray):Option ((List<|List MI)×Bool):=
 Ra (lC text (124:Int)) λv1=>
 Ra (
  vU 40 (gL v1) (([]:List<|List MI),(0:Int))
 ) λs2=>
 Ra (cW s2) λv36=>
 Ra (bif !v36 then
  some true
 else
  Ra (kT s2) λv39=>
  some (!decide (v39=text))
 ) λs37=>
 bif s37 then
  some (([]:List<|List MI),false)
 else
  some (s2,true)
theorem og (text:ByteArray):Le (f9 text) (bO text):=by
 unfold f9 bO
 solve_by_elim (maxDepth:=9999) only [*,nW,mH,qP,Le.gd,Le.bif,Le.bind,Le.sumK,Le.loop,Le.nilK,Le.ifc,Le.refl]
def smI (x:MI):Bool:=decide<|(-1<=x.Op/\x.Op<=6)/\(-1<=x.Loc/\x.Loc<=3)/\(-1<=x.Reg/\x.Reg<=3)/\(-1<=x.Val/\x.Val<=4)
def smP (p:List<|List MI):Bool:=decide (p.length<=4)&&p.all λr=>decide (r.length<=8)&&r.all smI
def uS (t:ByteArray):Bool:=match f9 t with
 | some v=>smP v.1
 | none=>false
theorem Di:∀ l,gz=some l->l.all uS=true:=by
 intro l h;obtain rfl:=osl h
 decide +kernel
theorem xS {t:ByteArray} (h:uS t=true):MN (bO t) λv=>smP v.1=true:=by
 unfold uS at h
 cases hc:f9 t with
 | none=>rw [hc] at h;cases h
 | some v=>
  rw [hc] at h;exact ⟨v,og t v hc,h⟩
theorem GL:∀ l,gz=some l->∀ t∈l,MN (bO t) λv=>smP v.1=true:=
 λl h t ht=>xS (RG.1 (Di l h) t ht)
theorem qQ {p:List (List MI)}:smP p=true↔p.length<=4/\∀ r∈p,r.length<=8/\∀ x∈r,smI x=true:=by
 simp only [smP,bae,dte,RG]
theorem GM {p:List (List MI)} (h:smP p=true):Dg p=true:=by
 rw [qQ] at h;simp only [Dg,bae,dte,RG];exact ⟨by omega,λr hr=>by have := (h.2 r hr).1;omega⟩
theorem uT {α:Type} {m:Nat}:∀ {p:List (List α)},(∀ r∈p,r.length<=m)->total p<=p.length*m
 | [],_=>by simp [total]
 | r::p,h=>by
  have h1:=uT (p:=p) λx hx=>h x<|List.mem_cons_of_mem _ hx;have h2:=h r<|List.mem_cons_self;simp only [total,List.map_cons,List.sum_cons,llc,Nat.add_mul,Nat.one_mul] at h1 ⊢;omega
theorem KD {p:List (List MI)} (h:smP p=true):p.length<=1048576/\total p<=1048576:=by
 rw [qQ] at h;have h1:=uT (m:=8) λr hr=>(h.2 r hr).1;have h2:p.length*8<=32:=by omega
 exact ⟨by omega,by omega⟩
theorem vV {k:Int} {r:ak} (h:Rd k r) (hk:k<=10000000):MN (iR r) λv=>Rd (k+4) v.1/\smI v.2=true:=by
 unfold iR;refine (jy h.mk' (by omega) 2).bind λv1 ⟨a1,a2,a3⟩=>(jy a1.mk' (by omega) 7).bind λv2 ⟨b1,b2,b3⟩ => ?_;refine .bif (λ_ => .pure ⟨b1.mono (by omega),by simp only [smI];exact decide_eq_true<|by omega⟩) λ_=>?_;refine .bif (λ_=>(jy b1.mk' (by omega) 2).bind λv3 ⟨c1,c2,c3⟩ => .pure ⟨c1.mono (by omega),decide_eq_true<|by simp only [];omega⟩) λ_=>?_;refine .bif (λ_=>(jy b1.mk' (by omega) 2).bind λv3 ⟨c1,c2,c3⟩=>(jy c1.mk' (by omega) 3).bind λv4 ⟨d1,d2,d3⟩ => .gdI (by omega)<|.pure ⟨d1.mono (by omega),decide_eq_true<|by simp only [];omega⟩) λ_=>?_;refine MN.bind (P:=λ_=>True) (.bif (λ_ => .pure trivial) λ_ => .pure trivial) λs _=>?_;refine .bif (λ_=>(jy b1.mk' (by omega) 3).bind λv3 ⟨c1,c2,c3⟩ => .gdI (by omega)<|.pure ⟨c1.mono (by omega),decide_eq_true<|by simp only [];omega⟩) λ_=>?_;exact (jy b1.mk' (by omega) 2).bind λv3 ⟨c1,c2,c3⟩ => .pure ⟨c1.mono (by omega),decide_eq_true<|by simp only [];omega⟩
theorem Dj {k:Int} {b:LI} {p n:Int} (h:Rd k ⟨b,p⟩) (hk:k<=1000000) (hn:0<=n/\n<=3):MN (bA iz (b,p,([]:List MI),n)) λv=>Rd (k+12) ⟨v.1,v.2.1⟩/\v.2.2.length<=3/\∀ x∈v.2.2,smI x=true:=by
 refine MN.loop (λs=>Rd (k+4*(3-s.2.2.2)) ⟨s.1,s.2.1⟩/\(0<=s.2.2.2/\s.2.2.2+(s.2.2.1.length:Int)<=3)/\∀ x∈s.2.2.1,smI x=true) (λs=>s.2.2.2.toNat) ⟨h.mono (by simp only [];omega),by simp;omega,by simp⟩ λs ⟨h1,h2,h3⟩ => ?_;unfold iz;refine .bifD (λh0=>?_) λh0 => .pure ⟨h1.mono (by omega),by simp only [];omega,h3⟩;refine (vV h1<|by omega).bind λv ⟨a1,a2⟩ => .gdC (by omega) rfl<|.gdI (by omega)<|.pure ⟨⟨a1.mk'.mono (by simp only [];omega),by simp only [lla,llc,Ri];omega,λx hx=>?_⟩,by simp only [];omega⟩;rcases Rl.1 hx with hx | hx
 ·exact h3 x hx
 rw [Rm.1 hx];exact a2
theorem Bb {k:Int} {b:LI} {p n:Int} (h:Rd k ⟨b,p⟩) (hk:k<=100000) (hn:0<=n/\n<=3):MN (bA iA (b,p,([]:List<|List MI),n)) λv=>Rd (k+39) ⟨v.1,v.2.1⟩/\smP v.2.2=true:=by
 refine MN.loop (λs=>Rd (k+13*(3-s.2.2.2)) ⟨s.1,s.2.1⟩/\(0<=s.2.2.2/\s.2.2.2+(s.2.2.1.length:Int)<=3)/\∀ r∈s.2.2.1,r.length<=8/\∀ x∈r,smI x=true) (λs=>s.2.2.2.toNat) ⟨h.mono (by simp only [];omega),by simp;omega,by simp⟩ λs ⟨h1,h2,h3⟩ => ?_;unfold iA;refine .bifD (λh0=>?_) λh0 => .pure ⟨h1.mono (by omega),qQ.2 ⟨by simp only [];omega,h3⟩⟩;refine MN.bind (P:=λv=>Rd (k+13*(3-s.2.2.2)+13) ⟨v.1,v.2.1⟩/\∃ t:List MI,v.2.2=s.2.2.1++[t]/\t.length<=8/\∀ x∈t,smI x=true) ?_ λv ⟨a1,t,a2,a3,a4⟩ => ?_
 ·refine MN.bind (P:=λv=>Rd (k+13*(3-s.2.2.2)+13) ⟨v.1,v.2.1⟩/\v.2.2.length<=3/\∀ x∈v.2.2,smI x=true) ?_ λv ⟨a1,a2,a3⟩ => .gdC (by omega) rfl<|.pure ⟨a1,v.2.2,rfl,by omega,a3⟩;refine (qN h1 (by omega) _<|by simp).bind λv ⟨b1,b2⟩=>(Dj (n:=v.2) b1.mk' (by omega)<|by simp only [Rv,Rw,or_false] at b2;omega).mono λu ⟨c1,c2,c3⟩=>⟨c1.mono (by omega),c2,c3⟩
 refine .gdI (by omega)<|.pure ⟨⟨a1.mono (by simp only [];omega),by simp only [a2,lla,llc,Ri];omega,λr hr=>?_⟩,by simp only [];omega⟩;simp only [a2] at hr;rcases Rl.1 hr with hr | hr
 ·exact h3 r hr
 rw [Rm.1 hr];exact ⟨a3,a4⟩
theorem Dk {k:Int} {r:ak} (h:Rd k r) (hk:k<=10000) (hp:∀ l,gz=some l->∀ t∈l,MN (bO t) λv=>smP v.1=true):MN (lq r) λv=>Rd (k+46) v.1/\smP v.2=true:=by
 unfold lq;have e1:∃ l,gz=some l/\0<l.length/\l.length<=100:=⟨_,rfl,by decide,by decide⟩;obtain ⟨l,e1,e2,e3⟩:=e1;have hp':=hp l e1;refine (MN.of (P:=λv=>v=l) e1 rfl).bind λv1 hv=>?_;subst hv;refine MN.sum (PS:=λs=>Rd (k+2) ⟨s.1,s.2⟩) (PW:=λv:ak×List (List MI)=>Rd (k+46) v.1/\smP v.2=true) ?_ λs hs=>?_
 ·refine (jy h.mk' (by omega) 3).bind λv3 ⟨a1,a2,a3⟩ => .bif (λ_=>?_) λ_ => .pure<|a1.mk'.mono (by omega);refine (jy a1.mk' (by omega) _).bind λv5 ⟨b1,b2,b3⟩ => .gdD ⟨b2,by omega⟩ ?_;have hlt:v5.2.toNat<v1.length:=by omega
  refine MN.bind (hp' (v1.getD v5.2.toNat default)<|by rw [gdq,geq hlt];exact Rc _) λv7 h7=>?_;exact .bif (λ_ => .pure ⟨b1.mk'.mono (by omega),h7⟩) λ_ => .pure<|b1.mk'.mono (by omega)
 refine MN.bind (P:=λv=>Rd (k+42) ⟨v.1,v.2.1⟩/\smP v.2.2=true) ?_ λv ⟨a1,a2⟩ => ?_
 ·exact (qN hs (by omega) _<|by simp).bind λv ⟨b1,b2⟩=>(Bb (n:=v.2) b1.mk' (by omega)<|by simp only [Rv,Rw,or_false] at b2;omega).mono λu ⟨c1,c2⟩=>⟨c1.mono (by omega),c2⟩
 have hv:MN (cW v.2.2) λ_=>True := .gdD (KD a2)<|.pure trivial;refine hv.bind λb _ => .bif (λ_ => .pure ⟨a1.mono (by omega),a2⟩) λ_=>?_;exact (vV a1<|by omega).bind λu ⟨c1,c2⟩ => .pure ⟨c1.mk'.mono (by omega),qQ.2 ⟨by simp,by simp [c2]⟩⟩
theorem Jg {p:List (List MI)} (h:smP p=true) {i:Nat} (hi:i<p.length) {l:List MI} (hl:(p.getD i []).length+l.length<=9) (hx:∀ x∈l,smI x=true):(FY p i l).length<=4/\∀ r∈FY p i l,r.length<=9/\∀ x∈r,smI x=true:=by
 rw [qQ] at h;unfold FY;refine ⟨by rw [List.length_set];exact h.1,λr hr=>?_⟩;rcases RL hr with hr | rfl
 ·exact ⟨by have := (h.2 r hr).1;omega,(h.2 r hr).2⟩
 have hg:p.getD i []=p[i]:=by simp [hi]
 refine ⟨by rw [lla];omega,λx hxx=>?_⟩;rcases Rl.1 hxx with hxx | hxx
 ·rw [hg] at hxx;exact (h.2 _<|Rc hi).2 x hxx
 exact hx x hxx
def Sm (p:List<|List MI):Prop:=p.length<=9/\∀ r∈p,r.length<=9/\∀ x∈r,smI x=true
theorem Ch {p:List (List MI)} (h:smP p=true):Sm p:=by
 rw [qQ] at h;exact ⟨by omega,λr hr=>⟨by have := (h.2 r hr).1;omega,(h.2 r hr).2⟩⟩
theorem Sm.sz {p:List (List MI)} (h:Sm p):p.length<=1048576/\total p<=1048576:=by
 have h1:=uT (m:=9) λr hr=>(h.2 r hr).1;have h2:p.length*9<=81:=by have := h.1;omega
 exact ⟨by have := h.1;omega,by omega⟩
theorem zP {k:Int} {r:ak} (h:Rd k r) (hk:k<=100000) {p:List (List MI)} (hp:smP p=true):MN (ij r p) λv=>Rd (k+4) v.1/\Sm v.2:=by
 unfold ij;have hp0:=qQ.1 hp;have hg:∀ i,(p.getD i []).length<=8:=λi=>by
  by_cases hi:i<p.length
  ·have : p.getD i []=p[i]:=by simp [hi]
   rw [this];exact (hp0.2 _<|Rc hi).1
  simp [List.getD,gen (Nat.le_of_not_lt hi)]
 refine .gd (GM hp)<|.bif (λ_ => .pure ⟨h.mono (by omega),Ch hp⟩) λh0=>?_;have hpos:0<p.length:=by
  cases hc:p.length with
  | zero=>rw [hc] at h0;cases h0
  | succ n=>omega
 refine (jy h (by omega) _).bind λv1 ⟨a1,a2,a3⟩=>(jy a1 (by omega) _).bind λv2 ⟨b1,b2,b3⟩ => .gdD ⟨a2,by omega⟩ ?_;have hi:v1.2.toNat<p.length:=by omega
 have put:∀ {l:List MI},(p.getD v1.2.toNat []).length+l.length<=9->(∀ x∈l,smI x=true)->Sm (FY p v1.2.toNat l):=λ{l} hl hx=>by
  obtain ⟨g1,g2⟩:=Jg hp hi hl hx;exact ⟨by omega,g2⟩
 refine .bif (λ_=>(qN b1 (by omega) _<|by simp).bind λa ⟨c1,c2⟩=>(qN c1 (by omega) _<|by simp).bind λb ⟨d1,d2⟩ => .pure ⟨d1.mono (by omega),put (by have := hg v1.2.toNat;simp only [llc,Ri];omega) λx hx=>?_⟩) λ_=>?_
 ·rw [Rm.1 hx];simp only [Rv,Rw,or_false] at c2 d2;exact decide_eq_true (by simp only [];omega)
 refine .bif (λ_=>(qN b1 (by omega) _<|by simp).bind λa ⟨c1,c2⟩ => .pure ⟨c1.mono (by omega),put (by have := hg v1.2.toNat;simp only [llc,Ri];omega) λx hx=>?_⟩) λ_=>?_
 ·rw [Rm.1 hx];simp only [Rv,Rw,or_false] at c2;exact decide_eq_true (by simp only [];omega)
 refine .bif (λ_ => .pure ⟨b1.mono (by omega),by simp only [lla,RN];omega,λr hr=>?_⟩) λ_=>?_
 ·rcases Rl.1 hr with hr | hr
  ·exact ⟨by have := (hp0.2 r hr).1;omega,(hp0.2 r hr).2⟩
  rw [RO hr];exact ⟨by simp,by simp⟩
 refine .bif (λ_ => .pure ⟨b1.mono (by omega),put (by have := hg v1.2.toNat;rw [RN];omega) λx hx=>?_⟩) λ_=>?_
 ·rw [RO hx]
  rfl
 refine .bif (λ_ => .pure ⟨b1.mono (by omega),?_⟩) λ_ => .pure ⟨b1.mono (by omega),Ch hp⟩;exact ⟨by simp only [Rh,Rn];omega,λr hr=>(Ch hp).2 r<|RE<|RF hr⟩

instance decIns:DecidableEq MI:=λa b=>decidable_of_iff (a.Op=b.Op/\a.Loc=b.Loc/\a.Reg=b.Reg/\a.Val=b.Val) ⟨λ⟨h1,h2,h3,h4⟩=>by cases a;cases b;simp only at h1 h2 h3 h4;rw [h1,h2,h3,h4],λh=>by rw [h];exact ⟨rfl,rfl,rfl,rfl⟩⟩
section
variable {p:List (List MI)}
end
section
variable {P:Nat->List MI} {d:Bool} {cl:Int->Int}
theorem qR {κ α:Type} [DecidableEq κ] {s:κ->κ} (hs:∀ k,s (s k)=k) (f:κ->α) (k:κ) (v:α):ud (λj=>f<|s j) (s k) v=λj=>ud f k v (s j):=by
 funext j
 unfold ud
 by_cases h:j=s k
 ·subst h;rw [if_pos rfl,if_pos (hs k)]
 rw [if_neg h,if_neg λe=>h (by rw [<- e,hs])]
def thS (s:Nat->Nat) (a:TS):TS:=⟨λt=>a.pc<|s t,λt=>a.rg<|s t,a.mm,λt=>a.bf<|s t⟩
theorem Jh {s:Nat->Nat} (hs:∀ k,s (s k)=k) {a b:TS} (h:StT P d cl a b):StT (λt=>P<|s t) d cl (thS s a) (thS s b):=by
 cases h with
 | @ex t x hc=>
  have e:thS s (exT d cl a t x)=exT d cl (thS s a) (s t) x:=by
   have h1:qc cl (thS s a) (s t) x.Loc=qc cl a t x.Loc:=by unfold qc thS;simp only [hs]
   have h2:z7 (thS s a) (s t) x=z7 a t x:=by unfold z7 thS;simp only [hs]
   unfold exT;rw [h1,h2];refine TS.ext ?_ ?_ rfl ?_
   ·simp only [thS,hs,qR hs]
   ·simp only [thS,hs,qR hs];split <;> rfl
   simp only [thS,hs,qR hs];split <;> rfl
  rw [e];exact .ex ⟨by simp only [thS,hs];exact hc.1,λh c=>by simp only [thS,hs];exact hc.2 h c⟩
 | @fl t c e r h=>
  have e:thS s (flT a t c e r)=flT (thS s a) (s t) c e r:=by
   unfold flT;refine TS.ext rfl rfl rfl ?_;simp only [thS,hs,qR hs]
  rw [e];exact .fl (by simp only [thS,hs];exact h)
theorem KE {s:Nat->Nat} (hs:∀ k,s (s k)=k) {a:TS} (h:Rch (StT P d cl) a0T a):Rch (StT (λt=>P<|s t) d cl) a0T (thS s a):=by
 induction h with
 | base=>exact .base
 | step _ k ih=>exact ih.step (Jh hs k)
theorem KG {s:Nat->Nat} (hs:∀ k,s (s k)=k) {n:Nat} {f:LI->LI} (hf:∀ a,outT n (thS s a)=f (outT n a)) {o:LI} (h:J0 P d cl n o):J0 (λt=>P<|s t) d cl n (f o):=by
 obtain ⟨a,h1,h2,rfl⟩:=h;exact ⟨_,KE hs h1,⟨λt=>h2.1 _,λt c=>h2.2 _ _⟩,hf a⟩
end
structure Ms where
 val:Int
 lk:Bool
 vw:Int->Nat
structure RS where
 pc:Nat->Nat
 rg:Nat->Int->Int
 li:Int->List Ms
 ow:Nat->Int->Nat
theorem RS.ext {a b:RS} (h1:a.pc=b.pc) (h2:a.rg=b.rg) (h3:a.li=b.li) (h4:a.ow=b.ow):a=b:=by
 cases a;cases b;simp only at h1 h2 h3 h4;subst h1 h2 h3 h4;rfl
def mvV (l:Int) (k:Nat) (w:Int->Nat):Int->Nat:=ud w l (if k<=w l then w l+1 else w l)
def mvM (l:Int) (k:Nat) (m:Ms):Ms:=⟨m.val,m.lk,mvV l k m.vw⟩
def joV (v w:Int->Nat):Int->Nat:=λl=>max (v l)<|w l
def Dl (a:RS) (t:Nat) (l:Int) (k:Nat) (v:Int):RS where
 pc:=a.pc
 rg:=a.rg
 li:=ud (λl'=>(a.li l').map<|mvM l k) l (((a.li l).map<|mvM l k).take k++⟨v,false,ud (a.ow t) l k⟩::((a.li l).map<|mvM l k).drop k)
 ow:=ud (λu=>mvV l k<|a.ow u) t<|ud (a.ow t) l k
def Ib (a:RS) (t:Nat) (x:MI):Int:=if x.Op=3 then a.rg t x.Reg else x.Val
def lkM (m:Ms):Ms:=⟨m.val,true,m.vw⟩
def rdR (a:RS) (t:Nat) (x:MI) (m:Ms):RS where
 pc:=ud a.pc t<|a.pc t+1
 rg:=ud a.rg t<|ud (a.rg t) x.Reg m.val
 li:=a.li
 ow:=ud a.ow t<|joV (a.ow t) m.vw
def pcR (a:RS) (t:Nat):RS:={ a with pc:=ud a.pc t (a.pc t+1) }
def lkR (a:RS) (l:Int) (k:Nat):RS:={ a with li:=ud a.li l ((a.li l).modify k lkM) }
inductive StR (P:Nat->List MI):RS->RS->Prop
 | fen {a:RS} {t:Nat} {x:MI} (h:(P t)[a.pc t]? = some x) (o:x.Op=4):StR P a (pcR a t)
 | ld {a:RS} {t k:Nat} {x:MI} {m:Ms} (h:(P t)[a.pc t]? = some x) (o:x.Op=1) (hk:a.ow t x.Loc<=k) (hm:(a.li x.Loc)[k]? = some m):StR P a (rdR a t x m)
 | st {a:RS} {t k:Nat} {x:MI} {m:Ms} (h:(P t)[a.pc t]? = some x) (o:x.Op=2\/x.Op=3) (hk:a.ow t x.Loc<=k) (hm:(a.li x.Loc)[k]? = some m) (hl:m.lk=false):StR P a (Dl (pcR a t) t x.Loc (k+1)<|Ib a t x)
 | sw {a:RS} {t k:Nat} {x:MI} {m:Ms} (h:(P t)[a.pc t]? = some x) (o:x.Op=5) (hk:a.ow t x.Loc<=k) (hm:(a.li x.Loc)[k]? = some m) (hl:m.lk=false):StR P a (lkR (Dl (rdR a t x m) t x.Loc (k+1) x.Val) x.Loc k)
def a0R:RS:=⟨λ_=>0,λ_ _=>0,λ_=>[⟨0,false,λ_=>0⟩],λ_ _=>0⟩
def Ji (a:RS) (l:Int):Int:=match (a.li l).getLast? with
 | some m=>m.val
 | none=>0
def Ic (n:Nat) (a:RS):LI:=((Rb n).flatMap λt=>(Rb 3).map λg:Nat=>a.rg t g)++(Rb 3).map λl:Nat=>Ji a l
def DnR (P:Nat->List MI) (a:RS):Prop:=∀ t,(P t).length<=a.pc t
def Lm (P:Nat->List MI) (n:Nat):LI->Prop:=LA (StR P) a0R (DnR P)<|Ic n
section
variable {P:Nat->List MI}
def thR (s:Nat->Nat) (a:RS):RS:=⟨λt=>a.pc<|s t,λt=>a.rg<|s t,a.li,λt=>a.ow<|s t⟩
theorem Ie {s:Nat->Nat} (hs:∀ k,s (s k)=k) (a:RS) (t:Nat) (l:Int) (k:Nat) (v:Int):thR s (Dl a t l k v)=Dl (thR s a) (s t) l k v:=by
 unfold Dl;refine RS.ext rfl rfl ?_ ?_
 ·simp only [thR,hs]
 simp only [thR,hs];rw [<- qR hs]
theorem GN {s:Nat->Nat} (hs:∀ k,s (s k)=k) {a b:RS} (h:StR P a b):StR (λt=>P<|s t) (thR s a) (thR s b):=by
 have hp:∀ a:RS,∀ t,thR s (pcR a t)=pcR (thR s a) (s t):=λa t=>by
  unfold pcR;refine RS.ext ?_ rfl rfl rfl;simp only [thR,hs,qR hs]
 have hr:∀ a:RS,∀ t x m,thR s (rdR a t x m)=rdR (thR s a) (s t) x m:=λa t x m=>by
  unfold rdR;refine RS.ext ?_ ?_ rfl ?_ <;> simp only [thR,hs,qR hs]
 cases h with
 | @fen t x h o=>rw [hp];exact .fen (by simp only [thR,hs];exact h) o
 | @ld t k x m h o hk hm=>rw [hr];exact .ld (k:=k) (by simp only [thR,hs];exact h) o (by simp only [thR,hs];exact hk) hm
 | @st t k x m h o hk hm hl=>
  have : Ib a t x=Ib (thR s a) (s t) x:=by unfold Ib;simp only [thR,hs]
  rw [Ie hs,hp,this];exact .st (by simp only [thR,hs];exact h) o (by simp only [thR,hs];exact hk) hm hl
 | @sw t k x m h o hk hm hl=>
  have : ∀ a:RS,∀ l k,thR s (lkR a l k)=lkR (thR s a) l k:=λ_ _ _=>rfl;rw [this,Ie hs,hr];exact .sw (by simp only [thR,hs];exact h) o (by simp only [thR,hs];exact hk) hm hl
theorem Jj {s:Nat->Nat} (hs:∀ k,s (s k)=k) {n:Nat} {f:LI->LI} (hf:∀ a,Ic n (thR s a)=f (Ic n a)) {o:LI} (h:Lm P n o):Lm (λt=>P<|s t) n (f o):=by
 obtain ⟨a,h1,h2,rfl⟩:=h;have : Rch (StR λt=>P<|s t) a0R (thR s a):=by
  clear h2
  induction h1 with
  | base=>exact .base
  | step _ k ih=>exact ih.step (GN hs k)
 exact ⟨_,this,λt=>h2 _,hf a⟩
end
def evs (P:Nat->List MI) (t:Nat):List MI:=(P t).filter λx=>x.Op != 4
def MQ (P:Nat->List MI) (a:RS) (t:Nat):Nat:=MP<|(P t).take<|a.pc t
def sm (f:List MI->Nat) (P:Nat->List MI) (e:Nat->Nat):Nat:=f ((evs P 0).take<|e 0)+f ((evs P 1).take<|e 1)+f ((evs P 2).take<|e 2)
def sW (f:List MI->Nat) (P:Nat->List MI):Nat:=f (evs P 0)+f (evs P 1)+f (evs P 2)
def dt (a:RS):RS:={ a with pc:=λ_=>0 }
def dfM:Ms:=⟨0,false,λ_=>0⟩
def scc (t:Nat) (x:MI) (n:Nat) (d:RS):List RS:=
 (Rb n).map λk=>dt (if x.Op=1 then rdR d t x ((d.li x.Loc).getD k dfM) else if x.Op=5 then lkR (Dl (rdR d t x<|(d.li x.Loc).getD k dfM) t x.Loc (k+1) x.Val) x.Loc k else Dl (pcR d t) t x.Loc (k+1) (Ib d t x))
theorem Jk (t:Nat) (x:MI) (n:Nat) (d:RS):(scc t x n d).length=n:=by simp [scc]
theorem Ci {α:Type} (f:α->Bool) {x:α} (hx:f x=true):∀ (l:List α) (k:Nat),l[k]? = some x->(l.filter f)[(l.take k).countP f]? = some x
 | [],k,h=>by simp at h
 | y::l,0,h=>by
  obtain rfl:y=x:=by simpa using h
  simp [hx]
 | y::l,k+1,h=>by
  have ih:=Ci f hx l k (by simpa using h)
  by_cases hy:f y=true
  ·rw [List.filter_cons_of_pos hy,RP,List.countP_cons_of_pos hy];simpa using ih
  rw [List.filter_cons_of_neg hy,RP,List.countP_cons_of_neg hy];exact ih
section
variable {P:Nat->List MI}
theorem uU {a b:RS} {t:Nat} {x:MI} (hx:(P t)[a.pc t]? = some x) (hb:b.pc=ud a.pc t (a.pc t+1)):MQ P b=if x.Op=4 then MQ P a else ud (MQ P a) t (MQ P a t+1):=by
 have hk:=(ges hx).1;have e1:MQ P b t=MQ P a t+if x.Op=4 then 0 else 1:=by
  unfold MQ;rw [hb,dU,List.take_add_one,hx];unfold MP;rw [List.countP_append]
  by_cases h:x.Op=4 <;> simp [h]
 have e2:∀ u,u≠t->MQ P b u=MQ P a u:=λu hu=>by
  unfold MQ;rw [hb,jZ hu]
 funext u
 by_cases hu:u=t
 ·subst hu;rw [e1]
  split
  ·omega
  rw [dU]
 rw [e2 u hu]
 split
 ·rfl
 rw [jZ hu]
theorem Cj (a:RS) (t:Nat) (l:Int) (k:Nat) (v:Int) (hk:k<=(a.li l).length) (j:Int):((Dl a t l k v).li j).length=(a.li j).length+if l=j then 1 else 0:=by
 unfold Dl;simp only [pg]
 by_cases h:j=l
 ·subst h;rw [if_pos rfl,if_pos rfl];simp only [lla,llc,Rh,Rn,llm];omega
 rw [if_neg h,if_neg (Ne.symm h),llm];rfl
theorem Jl (a:RS) (l:Int) (k:Nat) (j:Int):((lkR a l k).li j).length=(a.li j).length:=by
 unfold lkR;simp only [pg]
 split
 ·rename_i h;rw [List.length_modify,h]
 rfl
theorem Fu (h3:∀ t,3<=t->P t=[]) {a b:RS} (h:StR P a b):(MQ P b=MQ P a/\dt b=dt a/\∀ l,(b.li l).length=(a.li l).length) \/
  ∃ (t:Nat) (x:MI),t<3/\(∃ k:Nat,(P t)[k]? = some x)/\x.Op≠4/\(evs P t)[MQ P a t]? = some x/\MQ P b=ud (MQ P a) t (MQ P a t+1)/\dt b∈scc t x (a.li x.Loc).length (dt a)/\∀ l,(b.li l).length=(a.li l).length+if wrX x&&x.Loc==l then 1 else 0:=by
 have ht:∀ {t k:Nat} {x:MI},(P t)[k]? = some x->t<3:=λ{t k x} h=>by
  refine Decidable.byContradiction λg=>?_;rw [h3 t (by omega)] at h;simp at h
 have he:∀ {t:Nat} {x:MI},(P t)[a.pc t]? = some x->x.Op≠4->(evs P t)[MQ P a t]? = some x:=λh o=>Ci _ (by simpa using o) _ _ h
 cases h with
 | @fen t x h o=>
  refine .inl ⟨?_,rfl,λ_=>rfl⟩;rw [uU h rfl,if_pos o]
 | @ld t k x m h o hk hm=>
  refine .inr ⟨t,x,ht h,⟨_,h⟩,by omega,he h (by omega),?_,?_,λl=>?_⟩
  ·rw [uU h rfl,if_neg (by omega)]
  ·refine Rt.2 ⟨k,Rf.2 (ges hm).1,?_⟩;rw [if_pos o,show (dt a).li=a.li from rfl,gdq,hm]
   rfl
  simp [wrX,o,rdR]
 | @st t k x m h o hk hm hl=>
  have hlt:=(ges hm).1;refine .inr ⟨t,x,ht h,⟨_,h⟩,by omega,he h (by omega),?_,?_,λl=>?_⟩
  ·rw [uU h rfl,if_neg (by omega)]
  ·refine Rt.2 ⟨k,Rf.2 hlt,?_⟩;rw [if_neg (by omega),if_neg (by omega)]
   rfl
  rw [Cj _ _ _ _ _ (by exact hlt)];have : wrX x=true:=by rcases o with o | o <;> simp [wrX,o]
  rw [this];simp [pcR]
 | @sw t k x m h o hk hm hl=>
  have hlt:=(ges hm).1;refine .inr ⟨t,x,ht h,⟨_,h⟩,by omega,he h (by omega),?_,?_,λl=>?_⟩
  ·rw [uU h rfl,if_neg (by omega)]
  ·refine Rt.2 ⟨k,Rf.2 hlt,?_⟩;rw [if_neg (by omega),if_pos o,show (dt a).li=a.li from rfl,gdq,hm]
   rfl
  rw [Jl,Cj _ _ _ _ _ (by exact hlt)];have : wrX x=true:=by simp [wrX,o]
  rw [this];simp [rdR]
theorem Bc {f:MI->Bool} {e:Nat->Nat} {t:Nat} {x:MI} (ht:t<3) (hx:(evs P t)[e t]? = some x):sm (Rj f) P (ud e t<|e t+1)=sm (Rj f) P e+if f x=true then 1 else 0:=by
 have key:((evs P t).take<|e t+1).countP f=((evs P t).take<|e t).countP f+if f x=true then 1 else 0:=by
  rw [List.take_add_one,hx,List.countP_append]
  by_cases h:f x=true <;> simp [h]
 unfold sm;obtain rfl | rfl | rfl:t=0\/t=1\/t=2:=by omega
 ·rw [dU,jZ (by decide),jZ (by decide),key];omega
 ·rw [dU,jZ (by decide),jZ (by decide),key];omega
 rw [dU,jZ (by decide),jZ (by decide),key];omega
theorem GQ (f:MI->Bool) (e:Nat->Nat):sm (Rj f) P e<=sW (Rj f) P:=by
 have : ∀ t k,((evs P t).take k).countP f<=(evs P t).countP f:=λt k=>(List.take_sublist _ _).countP_le;unfold sm sW;have h0:=this 0<|e 0;have h1:=this 1<|e 1;have h2:=this 2<|e 2;omega
def fwL (l:Int) (x:MI):Bool:=wrX x&&x.Loc==l
def flL (l:Int) (x:MI):Bool:=x.Op==1&&x.Loc==l
def wC (P:Nat->List MI) (l:Int) (e:Nat->Nat):Nat:=sm (Rj<|fwL l) P e
def rC (P:Nat->List MI) (l:Int) (e:Nat->Nat):Nat:=sm (Rj<|flL l) P e
def WT (P:Nat->List MI) (l:Int):Nat:=sW (Rj<|fwL l) P
def RT (P:Nat->List MI) (l:Int):Nat:=sW (Rj<|flL l) P
theorem Ig (h3:∀ t,3<=t->P t=[]) {a:RS} (h:Rch (StR P) a0R a) (l:Int):(a.li l).length=1+wC P l (MQ P a):=by
 induction h with
 | base=>simp [a0R,wC,sm,MQ,MP]
 | step _ s ih=>
  rcases Fu h3 s with ⟨e1,_,e2⟩ | ⟨t,x,ht,_,_,hx,e1,_,e2⟩
  ·rw [e1,e2,ih]
  rw [e1,e2,ih];unfold wC;rw [Bc ht hx];unfold fwL;omega
theorem Ih (h3:∀ t,3<=t->P t=[]) {a:RS} (h:Rch (StR P) a0R a):(MQ P a=(λ_=>0)/\dt a=a0R) \/
  ∃ (a':RS) (t:Nat) (x:MI),Rch (StR P) a0R a'/\t<3/\(∃ k:Nat,(P t)[k]? = some x)/\x.Op≠4/\(evs P t)[MQ P a' t]? = some x/\MQ P a=ud (MQ P a') t (MQ P a' t+1)/\dt a∈scc t x (1+wC P x.Loc (MQ P a')) (dt a'):=by
 induction h with
 | base=>exact .inl ⟨by funext t;simp [MQ,a0R,MP],rfl⟩
 | step h s ih=>
  rcases Fu h3 s with ⟨e1,e3,_⟩ | ⟨t,x,ht,hk,ho,hx,e1,e3,_⟩
  ·rw [e1,e3];exact ih
  exact .inr ⟨_,t,x,h,ht,hk,ho,hx,e1,by rw [<- Ig h3 h];exact e3⟩
def phl (P:Nat->List MI) (l:Int) (e:Nat->Nat):Nat:=(WT P l+1) ^ rC P l e*fct (wC P l e)
def phi (P:Nat->List MI) (e:Nat->Nat):Nat:=phl P 0 e*phl P 1 e*phl P 2 e
theorem Cm {a b:Nat} (h:a<=b):fct a<=fct b:=by
 induction h with
 | refl=>exact Nat.le_refl _
 | step _ ih=>exact Rk ih (Nat.le_mul_of_pos_right _<|by omega)
theorem KH (l:Int) (e:Nat->Nat):phl P l e<=(WT P l+1) ^ RT P l*fct (WT P l):=
 Rx (RQ (by omega)<|GQ _ _) (Cm<|GQ _ _)
theorem yC {e:Nat->Nat} {t:Nat} {x:MI} (ht:t<3) (hx:(evs P t)[e t]? = some x) (ho:x.Op=1\/wrX x=true/\x.Op≠1) (l:Int):phl P l e*(if l=x.Loc then 1+wC P l e else 1)<=phl P l (ud e t<|e t+1):=by
 unfold phl rC wC;rw [Bc ht hx,Bc ht hx];have hw:=GQ (P:=P) (fwL l) e
 by_cases hl:l=x.Loc
 ·subst hl;rw [if_pos rfl];rcases ho with ho | ⟨ho,hn⟩
  ·have h1:flL x.Loc x=true:=by simp [flL,ho]
   have h2:fwL x.Loc x=false:=by simp [fwL,wrX,ho]
   rw [h1,h2];simp only [if_true,Bool.false_eq_true,if_false,Nat.add_zero];rw [Nat.pow_succ,Ru];refine RR _<|Nat.mul_le_mul_left _ ?_;unfold WT;omega
  have h1:flL x.Loc x=false:=by simp [flL,hn]
  have h2:fwL x.Loc x=true:=by simp [fwL,ho]
  rw [h1,h2];simp only [if_true,Bool.false_eq_true,if_false,Nat.add_zero,fct];rw [Ry,Nat.add_comm 1];exact Nat.le_refl _
 have h1:flL l x=false:=by simp [flL,Ne.symm hl]
 have h2:fwL l x=false:=by simp [fwL,Ne.symm hl]
 rw [h1,h2,if_neg hl];simp
theorem GR {e:Nat->Nat} {t:Nat} {x:MI} (ht:t<3) (hx:(evs P t)[e t]? = some x) (ho:x.Op=1\/wrX x=true/\x.Op≠1) (hl:x.Loc=0\/x.Loc=1\/x.Loc=2):phi P e*(1+wC P x.Loc e)<=phi P (ud e t<|e t+1):=by
 have h0:=yC ht hx ho 0;have h1:=yC ht hx ho 1;have h2:=yC ht hx ho 2;have key:=Rx (Rx h0 h1) h2;unfold phi;refine Rk (Nat.le_of_eq ?_) key;rcases hl with hl | hl | hl <;> rw [hl] <;> simp only [if_true,Nat.mul_one,if_neg (by decide : ¬ (1:Int)=0),if_neg (by decide : ¬ (2:Int)=0),if_neg (by decide : ¬ (0:Int)=1),if_neg (by decide : ¬ (2:Int)=1),if_neg (by decide : ¬ (0:Int)=2),if_neg (by decide : ¬ (1:Int)=2)]
 ·generalize phl P 0 e=p;generalize phl P 1 e=q;generalize phl P 2 e=r;generalize 1+wC P 0 e=s;rw [Ru p s q,Ru (p*q) s r]
 ·generalize phl P 0 e=p;generalize phl P 1 e=q;generalize phl P 2 e=r;generalize 1+wC P 1 e=s;rw [<- Ry p q s,Ru (p*q) s r]
 rw [Ry (phl P 0 e*phl P 1 e)]
theorem GU (f:List MI->Nat) {e e':Nat->Nat} (h0:e 0=e' 0) (h1:e 1=e' 1) (h2:e 2=e' 2):sm f P e=sm f P e':=by unfold sm;rw [h0,h1,h2]
theorem Jm (e:Nat->Nat):1<=phi P e:=by
 have : ∀ l,0<phl P l e:=λl=>Nat.mul_pos (Nat.pow_pos<|by omega)<|I0 _;exact Nat.mul_pos (Nat.mul_pos (this 0)<|this 1)<|this 2
theorem cov (h3:∀ t,3<=t->P t=[]) (hP:∀ (t k:Nat) (x:MI),(P t)[k]? = some x->InR x) (hO:∀ (t k:Nat) (x:MI),(P t)[k]? = some x->1<=x.Op/\x.Op<=5):∀ (n:Nat) (e:Nat->Nat),e 0+e 1+e 2=n ->
  ∃ L:List RS,L.length<=3 ^ n*phi P e/\∀ a,Rch (StR P) a0R a->MQ P a 0=e 0->MQ P a 1=e 1->MQ P a 2=e 2->dt a∈L
 | 0,e,he=>by
  refine ⟨[a0R],by simpa using Jm e,λa ha g0 g1 g2=>?_⟩;rcases Ih h3 ha with ⟨_,h⟩ | ⟨a',t,x,_,ht,_,_,_,h,_⟩
  ·rw [h];exact Rm.2 rfl
  have := congrFun h t;rw [dU] at this;obtain rfl | rfl | rfl:t=0\/t=1\/t=2:=by omega
  all_goals omega
 | n+1,e,he=>by
  have part:∀ t,t<3->∃ Lt:List RS,Lt.length<=3 ^ n*phi P e/\∀ (a' a:RS) (x:MI),Rch (StR P) a0R a'->(∃ k:Nat,(P t)[k]? = some x)->x.Op≠4->(evs P t)[MQ P a' t]? = some x->MQ P a=ud (MQ P a') t (MQ P a' t+1) ->
    MQ P a 0=e 0->MQ P a 1=e 1->MQ P a 2=e 2->dt a∈scc t x (1+wC P x.Loc (MQ P a')) (dt a')->dt a∈Lt:=by
   intro t ht;have pv:∀ {a' a:RS},MQ P a=ud (MQ P a') t (MQ P a' t+1)->MQ P a 0=e 0->MQ P a 1=e 1->MQ P a 2=e 2->e t=MQ P a' t+1/\∀ u,u<3->MQ P a' u=ud e t (e t-1) u:=λ{a' a} h g0 g1 g2=>by
    have hu:∀ u,u<3->MQ P a u=e u:=λu hu=>by
     obtain rfl | rfl | rfl:u=0\/u=1\/u=2:=by omega
     all_goals assumption
    have e1:e t=MQ P a' t+1:=by rw [<- hu t ht,h,dU]
    refine ⟨e1,λu h3=>?_⟩
    by_cases k:u=t
    ·subst k;rw [dU];omega
    rw [jZ k,<- hu u h3,h,jZ k]
   cases hx:(evs P t)[e t-1]? with
   | none=>
    refine ⟨[],Nat.zero_le _,λa' a x h1 h2 h4 h5 h6 g0 g1 g2 h7=>?_⟩;obtain ⟨k1,_⟩:=pv h6 g0 g1 g2;rw [k1,Nat.add_sub_cancel,h5] at hx
    cases hx
   | some x=>
    by_cases hpos:0<e t
    ·have hsum:(ud e t<|e t-1) 0+(ud e t<|e t-1) 1+(ud e t<|e t-1) 2=n:=by
      obtain rfl | rfl | rfl:t=0\/t=1\/t=2:=by omega
      ·rw [dU,jZ (by decide),jZ (by decide)];omega
      ·rw [dU,jZ (by decide),jZ (by decide)];omega
      rw [dU,jZ (by decide),jZ (by decide)];omega
     obtain ⟨L,hL,hc⟩:=cov h3 hP hO n _ hsum;have hmem:x∈evs P t:=List.mem_of_getElem? hx;unfold evs at hmem;obtain ⟨hm1,hm2⟩:=List.mem_filter.1 hmem;obtain ⟨k,hk⟩:=List.getElem?_of_mem hm1;have hr:=hP t k x hk;have hro:=hO t k x hk;have ho:x.Op≠4:=by simpa using hm2
     have hst:phi P (ud e t<|e t-1)*(1+wC P x.Loc (ud e t<|e t-1))<=phi P e:=by
      have := GR (P:=P) (e:=ud e t<|e t-1) (t:=t) (x:=x) ht (by rw [dU];exact hx) (by unfold InR at hr;unfold wrX;simp only [Bool.or_eq_true,beq_iff_eq];omega) (by unfold InR at hr;omega);rw [dU,Nat.sub_add_cancel hpos,zG,Kr] at this;exact this
     refine ⟨L.flatMap<|scc t x<|1+wC P x.Loc (ud e t<|e t-1),?_,λa' a y h1 h2 h4 h5 h6 g0 g1 g2 h7=>?_⟩
     ·refine Rk (wV λd _=>Nat.le_of_eq<|Jk _ _ _ d) ?_;refine Rk (RR _ hL) ?_;rw [Ry];exact Nat.mul_le_mul_left _ hst
     obtain ⟨k1,k2⟩:=pv h6 g0 g1 g2;rw [k1,Nat.add_sub_cancel,h5] at hx;obtain rfl:=osl hx;refine Rz.2 ⟨dt a',hc a' h1 (k2 0<|by omega) (k2 1<|by omega)<|k2 2 (by omega),?_⟩;have : wC P y.Loc (ud e t<|e t-1)=wC P y.Loc (MQ P a'):=GU _ (k2 0<|by omega).symm (k2 1<|by omega).symm (k2 2<|by omega).symm;rw [this];exact h7
    refine ⟨[],Nat.zero_le _,λa' a x h1 h2 h4 h5 h6 g0 g1 g2 h7=>?_⟩;obtain ⟨k1,_⟩:=pv h6 g0 g1 g2;omega
  obtain ⟨A,hA,kA⟩:=part 0 (by omega);obtain ⟨B,hB,kB⟩:=part 1 (by omega);obtain ⟨C,hC,kC⟩:=part 2 (by omega);refine ⟨A++B++C,?_,λa ha g0 g1 g2=>?_⟩
  ·rw [lla,lla,Nat.pow_succ,Ru];omega
  rcases Ih h3 ha with ⟨h,_⟩ | ⟨a',t,x,h1,ht,h2,h4,h5,h6,h7⟩
  ·rw [h] at g0 g1 g2;simp only at g0 g1 g2;omega
  obtain rfl | rfl | rfl:t=0\/t=1\/t=2:=by omega
  ·exact RH _<|RH _<|kA a' a x h1 h2 h4 h5 h6 g0 g1 g2 h7
  ·exact RH _<|RU _<|kB a' a x h1 h2 h4 h5 h6 g0 g1 g2 h7
  exact RU _<|kC a' a x h1 h2 h4 h5 h6 g0 g1 g2 h7
theorem KI {a:RS} (h:Rch (StR P) a0R a) (t:Nat):a.pc t<=(P t).length:=by
 induction h with
 | base=>exact Nat.zero_le _
 | @step a b h s ih=>
  have key:∀ {u:Nat} {x:MI},(P u)[a.pc u]? = some x->b.pc=ud a.pc u (a.pc u+1)->b.pc t<=(P t).length:=λ{u x} h1 h2=>by
   have := (ges h1).1;rw [h2,pg]
   split
   ·rename_i e;subst e;omega
   exact ih
  cases s with
  | fen h1 _=>exact key h1 rfl
  | ld h1 _ _ _=>exact key h1 rfl
  | st h1 _ _ _ _=>exact key h1 rfl
  | sw h1 _ _ _ _=>exact key h1 rfl
theorem Ml (h3:∀ t,3<=t->P t=[]) (hP:∀ (t k:Nat) (x:MI),(P t)[k]? = some x->InR x) (hO:∀ (t k:Nat) (x:MI),(P t)[k]? = some x->1<=x.Op/\x.Op<=5) (h7:∀ t,(P t).length<=7) (he:MP (P 0)+MP (P 1)+MP (P 2)<=12) (hx:∀ e,phi P e<=3000)
  (V:List RS) (hn:V.Nodup) (hV:∀ v∈V,Rch (StR P) a0R v):V.length<=816293376000:=by
 have C:=λi j k:Nat=>cov h3 hP hO _ (λt=>if t=0 then MP ((P 0).take i) else if t=1 then MP ((P 1).take j) else MP ((P 2).take k)) rfl;have hs:=zH hn (l:=(Rb 8).flatMap λi=>(Rb 8).flatMap λj=>(Rb 8).flatMap λk=>(Classical.choose<|C i j k).map λd=>({ d with pc:=λt=>if t=0 then i else if t=1 then j else if t=2 then k else 0 }:RS)) λv hv=>?_
 ·have k3:∀ i j k,((Classical.choose<|C i j k).map λd=>({ d with pc:=λt=>if t=0 then i else if t=1 then j else if t=2 then k else 0 }:RS)).length<=1594323000:=λi j k=>by
   rw [llm];refine Rk (Classical.choose_spec<|C i j k).1 ?_;refine Rk (Rx (RQ (by decide)<|show _<=12 from ?_)<|hx _) (by decide);have a0:=uO (P 0) i;have a1:=uO (P 1) j;have a2:=uO (P 2) k;simp only [if_true,if_neg (by decide : ¬ (1:Nat)=0),if_neg (by decide : ¬ (2:Nat)=0),if_neg (by decide : ¬ (2:Nat)=1)];omega
  have hl:(Rb 8).length=8:=by simp
  have k2:=λi j=>wV (l:=Rb 8) λk _=>k3 i j k;have k1:=λi=>wV (l:=Rb 8) λj _=>k2 i j;have k0:=wV (l:=Rb 8) λi _=>k1 i;rw [hl] at k0;exact Rk hs<|Rk k0 (by decide)
 have hr:=hV v hv;have hp:=KI hr;have p0:=hp 0;have p1:=hp 1;have p2:=hp 2;have q0:=h7 0;have q1:=h7 1;have q2:=h7 2;refine Rz.2 ⟨v.pc 0,Rf.2 (by omega),Rz.2 ⟨v.pc 1,Rf.2 (by omega),Rz.2 ⟨v.pc 2,Rf.2 (by omega),Rt.2 ⟨dt v,(Classical.choose_spec<|C _ _ _).2 v hr rfl rfl rfl,?_⟩⟩⟩⟩;refine RS.ext ?_ rfl rfl rfl
 funext t
 simp only
 split
 ·rename_i e;rw [e]
 split
 ·rename_i e;rw [e]
 split
 ·rename_i e;rw [e]
 have := hp t;rw [h3 t (by omega)] at this;simp at this;omega
end
def vwF (v:ah):Int->Nat:=λl=>if 0<=l/\l<=2 then (ah.get v l).toNat else 0
def vW (w:ai):Ms:=⟨w.value,w.taken,vwF w.view⟩
def liF (a:ae):Int->List Ms:=λl=>if 0<=l/\l<=2 then (ae.get a l).map vW else [⟨0,false,λ_=>0⟩]
def owF (a:aa):Nat->Int->Nat:=λt=>if t<3 then vwF (aa.get a t) else λ_=>0
def AW (s:au):RS:=⟨pcF s.values.pc,rgF s.values.reg,liF s.lists,owF s.own⟩
def VB (n:Int) (v:ah):Prop:=∀ l,0<=l/\l<=2->0<=ah.get v l/\ah.get v l<=n
theorem yD (v:ah) {q j:Int} (z:Int) (hq:0<=q/\q<=2) (hj:0<=j/\j<=2):ah.get (ah.set v q z) j=if j=q then z else ah.get v j:=by
 have h1:q=0\/q=1\/q=2:=by omega
 have h2:j=0\/j=1\/j=2:=by omega
 rcases h1 with rfl | rfl | rfl <;> rcases h2 with rfl | rfl | rfl <;> rfl
theorem p6 (v:aa) {q j:Int} (z:ah) (hq:0<=q/\q<=2) (hj:0<=j/\j<=2):aa.get (aa.set v q z) j=if j=q then z else aa.get v j:=by
 have h1:q=0\/q=1\/q=2:=by omega
 have h2:j=0\/j=1\/j=2:=by omega
 rcases h1 with rfl | rfl | rfl <;> rcases h2 with rfl | rfl | rfl <;> rfl
theorem yE (v:ae) {q j:Int} (z:List ai) (hq:0<=q/\q<=2) (hj:0<=j/\j<=2):ae.get (ae.set v q z) j=if j=q then z else ae.get v j:=by
 have h1:q=0\/q=1\/q=2:=by omega
 have h2:j=0\/j=1\/j=2:=by omega
 rcases h1 with rfl | rfl | rfl <;> rcases h2 with rfl | rfl | rfl <;> rfl
theorem Bd (v:ah) {l:Int} (hl:0<=l/\l<=2) (z:Int):vwF (ah.set v l z)=ud (vwF v) l z.toNat:=by
 funext j
 simp only [vwF,pg]
 by_cases h:0<=j/\j<=2
 ·rw [if_pos h,if_pos h,yD _ _ hl h]
  split <;> rfl
 rw [if_neg h,if_neg h,if_neg λe=>h (by rw [e];exact hl)]
theorem Fv (a:aa) {t:Nat} (ht:t<3) (v:ah):owF (aa.set a t v)=ud (owF a) t (vwF v):=by
 funext u
 simp only [owF,pg]
 by_cases h:u<3
 ·rw [if_pos h,if_pos h,p6 _ _ (by omega) (by omega)]
  by_cases e:u=t
  ·rw [if_pos (by omega),if_pos e]
  rw [if_neg (by omega),if_neg e]
 rw [if_neg h,if_neg h,if_neg (by omega)]
theorem Jn (a:ae) {l:Int} (hl:0<=l/\l<=2) (w:List ai):liF (ae.set a l w)=ud (liF a) l (w.map vW):=by
 funext j
 simp only [liF,pg]
 by_cases h:0<=j/\j<=2
 ·rw [if_pos h,if_pos h,yE _ _ hl h]
  split <;> rfl
 rw [if_neg h,if_neg h,if_neg λe=>h (by rw [e];exact hl)]
def mvP (v:ah) (l k:Int):ah:=ah.set v l (if k<=ah.get v l then ah.get v l+1 else ah.get v l)
def mvW (l k:Int) (w:ai):ai:={ w with view:=mvP w.view l k }
theorem GV (v:ah) (l:Int):ah.set v l (ah.get v l)=v:=by
 unfold ah.set ah.get
 split
 ·rfl
 split <;> rfl
theorem lQ {v:ah} {l k:Int} (hl:0<=l/\l<=2) (hv:VB 254 v):MN (aO v l k) (· = mvP v l k):=by
 have h:=hv l hl;unfold aO;refine MN.bind (P:=λz=>(⟨z.1,z.2.1,z.2.2⟩:ah)=mvP v l k) (.gdD (by omega)<|.bifD (λhk => .gdY (by omega)<|.pure ?_) λhk => .pure ?_) λz hz => .pure hz
 ·unfold mvP;rw [if_pos hk]
 unfold mvP;rw [if_neg hk,GV]
theorem Cn {v:ah} {l:Int} (hl:0<=l/\l<=2) (hv:VB 254 v) (k:Nat):vwF (mvP v l k)=mvV l k (vwF v):=by
 have h:=hv l hl;unfold mvP mvV;rw [Bd _ hl]
 congr 1
 have : vwF v l=(ah.get v l).toNat:=if_pos hl;rw [this]
 split <;> split <;> omega
def joP (v o:ah):ah:=⟨max v.x0 o.x0,max v.x1 o.x1,max v.x2 o.x2⟩
theorem Dm (v o:ah):MN (gQ v o) (· = joP v o):=by
 have mx:∀ a b:Int,(if b>a then b else a)=max a b:=λa b=>by split <;> omega
 unfold gQ;refine MN.bind (P:=λz=>(⟨z.1,z.2.1,z.2.2⟩:ah)=joP v o) ?_ λz hz => .pure hz;refine MN.loop (λz=>(z.2.2.2=0/\(z.1,z.2.1,z.2.2.1)=(v.x0,v.x1,v.x2))\/(z.2.2.2=1/\(z.1,z.2.1,z.2.2.1)=(max v.x0 o.x0,v.x1,v.x2))\/(z.2.2.2=2/\(z.1,z.2.1,z.2.2.1)=(max v.x0 o.x0,max v.x1 o.x1,v.x2))\/(z.2.2.2=3/\(z.1,z.2.1,z.2.2.1)=(max v.x0 o.x0,max v.x1 o.x1,max v.x2 o.x2))) (λz=>(3-z.2.2.2).toNat) (.inl ⟨rfl,rfl⟩) λz hz=>?_;obtain ⟨a,b,c,i⟩:=z;unfold kI;simp only [Prod.mk.injEq] at hz;rcases hz with ⟨rfl,rfl,rfl,rfl⟩ | ⟨rfl,rfl,rfl,rfl⟩ | ⟨rfl,rfl,rfl,rfl⟩ | ⟨rfl,rfl,rfl,rfl⟩
 ·refine .bifD (λ_ => .gdD (by simp only [];omega)<|.gdI (by simp only [];omega)<|.pure ⟨.inr<|.inl ⟨rfl,?_⟩,by simp only [];omega⟩) λh=>absurd (by simp only [];omega) h;simp only [ah.set,ah.get,if_true,mx]
 ·refine .bifD (λ_ => .gdD (by simp only [];omega)<|.gdI (by simp only [];omega)<|.pure ⟨.inr<|.inr<|.inl ⟨rfl,?_⟩,by simp only [];omega⟩) λh=>absurd (by simp only [];omega) h;simp only [ah.set,ah.get,if_true,if_neg (by decide : ¬ (1:Int)=0),mx]
 ·refine .bifD (λ_ => .gdD (by simp only [];omega)<|.gdI (by simp only [];omega)<|.pure ⟨.inr<|.inr<|.inr ⟨rfl,?_⟩,by simp only [];omega⟩) λh=>absurd (by simp only [];omega) h;simp only [ah.set,ah.get,if_neg (by decide : ¬ (2:Int)=0),if_neg (by decide : ¬ (2:Int)=1),mx]
 exact .bifD (λh=>absurd h<|by simp only [];omega) λ_ => .pure rfl
theorem KJ {v o:ah} (hv:VB 254 v) (ho:VB 254 o):vwF (joP v o)=joV (vwF v) (vwF o):=by
 funext l
 unfold joV;simp only [vwF]
 by_cases h:0<=l/\l<=2
 ·rw [if_pos h,if_pos h,if_pos h];have h1:=hv l h;have h2:=ho l h;have : l=0\/l=1\/l=2:=by omega
  rcases this with rfl | rfl | rfl
  all_goals
   simp only [ah.get,joP,if_true,if_neg (by decide : ¬ (1:Int)=0),if_neg (by decide : ¬ (2:Int)=0),if_neg (by decide : ¬ (2:Int)=1)] at *;omega
 rw [if_neg h,if_neg h,if_neg h];rfl
theorem p7 {l k:Int} {xs:List ai} {f:(List ai×Int)->Option ((List ai×Int) ⊕ List ai)} (hl:0<=l/\l<=2) (hb:∀ w∈xs,VB 254 w.view) (hx:xs.length<=254)
  (hf:∀ z,f z=bif decide (z.2<(xs.length:Int)) then (gd (decide<|0<=z.2/\z.2<(z.1.length:Int))<|Ra (aO ((z.1.getD z.2.toNat default).view) l k) λv=>gd (MG .i64<|z.2+(1:Int))<|some<|.inl ((z.1.set z.2.toNat<|{ (z.1.getD z.2.toNat default) with view:=v }),(z.2+(1:Int)))) else some (.inr z.1)) :
  MN (bA f (xs,(0:Int))) (· = xs.map (mvW l k)):=by
 refine MN.loop (λz=>(0<=z.2/\z.2<=(xs.length:Int))/\z.1=(xs.take z.2.toNat).map (mvW l k)++xs.drop z.2.toNat) (λz=>((xs.length:Int)-z.2).toNat) ⟨⟨Re _,by simp only [];omega⟩,by simp⟩ λz ⟨⟨h1,h2⟩,h3⟩ => ?_;rw [hf];obtain ⟨ys,i⟩:=z;simp only at h1 h2 h3;obtain ⟨n,rfl⟩:=Rp h1;simp only [tnn] at h3 ⊢;have hyl:ys.length=xs.length:=by rw [h3];simp;omega
 refine .bifD (λhlt => .gdD ⟨h1,by rw [hyl];exact hlt⟩ ?_) λhge => .pure ?_
 ·have hn:n<xs.length:=by omega
  have hg:ys.getD n default=xs[n]:=by
   rw [h3,gdq,gar (by simp;omega)];simp [Nat.min_eq_left (Nat.le_of_lt hn),hn]
  rw [hg];refine (lQ hl<|hb _<|Rc hn).bind λv hv => .gdI (by omega)<|.pure ⟨⟨⟨by omega,by omega⟩,?_⟩,by omega⟩;subst hv;show ys.set n (mvW l k xs[n])=_;rw [show ((n:Int)+1).toNat=n+1 by omega,h3,List.set_append_right _ _ (by simp;omega)];simp only [llm,Rh,Nat.min_eq_left (Nat.le_of_lt hn),Nat.sub_self];rw [List.drop_eq_getElem_cons hn,List.set_cons_zero,List.take_succ_eq_append_getElem hn,RI,List.append_assoc]
  rfl
 rw [h3,show n=xs.length by omega];simp
def Fw (L:ae) (O:aa) (t l k v:Int):ae×aa:=
 let O2:aa:=⟨mvP O.x0 l k,mvP O.x1 l k,mvP O.x2 l k⟩;let O3:=aa.set O2 t<|ah.set (aa.get O2 t) l k;let L2:ae:=⟨L.x0.map<|mvW l k,L.x1.map<|mvW l k,L.x2.map<|mvW l k⟩;let M:=ae.get L2 l
 (ae.set L2 l<|M.take k.toNat++[⟨v,false,aa.get O3 t⟩]++M.drop k.toNat,O3)
def Ii (s:au) (x:MI) (k:Int):ai:=(ae.get s.lists x.Loc).getD k.toNat default
def Be (s:au) (t k:Int) (x:MI):Z33:=if rdX x=true then Z33.set s.values.reg t (Z3b.set (Z33.get s.values.reg t) x.Reg (Ii s x k).value) else s.values.reg
def wX (s:au) (t k:Int) (x:MI):aa:=if rdX x=true then aa.set s.own t (joP (aa.get s.own t) (Ii s x k).view) else s.own
def GX (L:ae) (l k:Int):ae:=ae.set L l<|(ae.get L l).set k.toNat { ((ae.get L l).getD k.toNat default) with taken:=true }
def Dn (s:au) (t k:Int) (x:MI) (O:aa):ae×aa:=
 if x.Op=2\/x.Op=3 then Fw s.lists O t x.Loc k (su s.values t x)
 else if x.Op=5 then (GX (Fw s.lists O t x.Loc (k+1) x.Val).1 x.Loc k,(Fw s.lists O t x.Loc (k+1) x.Val).2)
 else (s.lists,O)
def Jo (s:au) (t:Int) (R:Z33) (q:ae×aa):au:=
 ⟨⟨s.values.p,Z3b.set s.values.pc t<|Z3b.get s.values.pc t+1,R,s.values.mem⟩,q.1,q.2⟩
def afW (s:au) (t k:Int) (x:MI):au:=Jo s t (Be s t k x)<|Dn s t k x<|wX s t k x
section
variable {p:List (List MI)} {s:au}
structure IW (p:List (List MI)) (s:au):Prop where
 iv:Iv p s.values
 m0:s.values.mem=⟨0,0,0⟩
 ln:∀ l,0<=l/\l<=2->1<=(ae.get s.lists l).length
 wv:∀ l,0<=l/\l<=2->∀ w∈ae.get s.lists l,(0<=w.value/\w.value<=3)/\∀ j,0<=j/\j<=2->0<=ah.get w.view j/\ah.get w.view j<((ae.get s.lists j).length:Int)
 ow:∀ t:Nat,t<3->∀ j,0<=j/\j<=2->0<=ah.get (aa.get s.own t) j/\ah.get (aa.get s.own t) j<((ae.get s.lists j).length:Int)
def SmL (s:au):Prop:=∀ l,0<=l/\l<=2->(ae.get s.lists l).length<=13
theorem IW.vbw (h:IW p s) (hs:SmL s) {l:Int} (hl:0<=l/\l<=2) {w:ai} (hw:w∈ae.get s.lists l):VB 254 w.view:=λj hj=>by
 have := (h.wv l hl w hw).2 j hj;have := hs j hj;omega
theorem IW.vbo (h:IW p s) (hs:SmL s) {t:Nat} (ht:t<3):VB 254 (aa.get s.own t):=λj hj=>by
 have := h.ow t ht j hj;have := hs j hj;omega
theorem VB.jo {n:Int} {v o:ah} (hv:VB n v) (ho:VB n o):VB n (joP v o):=λj hj=>by
 have h1:=hv j hj;have h2:=ho j hj;have : j=0\/j=1\/j=2:=by omega
 rcases this with rfl | rfl | rfl
 all_goals
  simp only [ah.get,joP,if_true,if_neg (by decide : ¬ (1:Int)=0),if_neg (by decide : ¬ (2:Int)=0),if_neg (by decide : ¬ (2:Int)=1)] at *;omega
theorem tL (w:List ai) (h:w.length<=13):MN (aX w) (· = w):=
 uR (λe=>by rw [List.isEmpty_iff.1 e]) (kQ<|dZ (by simp;omega) rfl)
theorem ko {xs:List ai} {k:Int} {w:ai} (hk:0<=k/\k<=(xs.length:Int)) (h0:0<xs.length) (h1:xs.length<=1000):MN (cK xs k [w]) (· = xs.take k.toNat++[w]++xs.drop k.toNat):=
 .gdD ⟨hk,h0,h1,rfl⟩ (.pure rfl)
theorem uV {x:MI} {k:Int} (h0:0<=k) (hk:k<((ae.get s.lists x.Loc).length:Int)):Ii s x k∈ae.get s.lists x.Loc:=by
 unfold Ii;rw [gdq,geq (by omega)];exact Rc _
theorem VB.x {n:Int} {O:aa} (h:∀ t:Nat,t<3->VB n (aa.get O t)):VB n O.x0/\VB n O.x1/\VB n O.x2:=⟨h 0 (by omega),h 1 (by omega),h 2<|by omega⟩
theorem Bf {u:MJ} {t:Nat} {x:MI} (ht:t<3) (hr:0<=x.Reg/\x.Reg<=2) (hv:0<=x.Val/\x.Val<=3):MN (bH u t x) (· = su u t x):=by
 unfold bH su;refine .bif (λh => .gdD ⟨by omega,by omega⟩<|.gdD ⟨by omega,by omega⟩<|.pure ?_) λh => .gdY (by omega)<|.pure ?_
 ·rw [if_pos (by simpa using h)]
 rw [if_neg (by simpa using h)]
theorem Dq (hp:PV p) (h:IW p s) (hs:SmL s) {m:Int} {t k:Nat} (hm:m.tmod 3=(t:Int)) (hd:m.tdiv 3=(k:Int)) (ht:t<p.length) (hc:qb s.values t=true) (hx:InR<|jp s.values t) (ho:1<=(jp s.values t).Op/\(jp s.values t).Op<=5)
  (hk:(k:Int)<=13) (hk1:(jp s.values t).Op=1\/(jp s.values t).Op=5->(k:Int)<((ae.get s.lists (jp s.values t).Loc).length:Int)) (hk2:(jp s.values t).Op=2\/(jp s.values t).Op=3->(k:Int)<=((ae.get s.lists (jp s.values t).Loc).length:Int)) :
  MN (bX s m) (· = afW s t k (jp s.values t)):=by
 have hl:=hp.vs.1;have hs0:=hs 0 (by decide);have hs1:=hs 1 (by decide);have hs2:=hs 2 (by decide);unfold bX;simp only [hm,hd];refine .gdD (by decide)<|(tL _ hs0).bind λv2 e2 => .gdI (by decide)<|.gdD (by decide)<|(tL _ hs1).bind λv8 e8 => .gdI (by decide)<|.gdD (by decide)<|(tL _ hs2).bind λv14 e14 => .gdI (by decide)<|.gdD (by decide)<|.gdI (by omega) ?_;subst e2 e8 e14;refine (AP hp h.iv ht).bind λv ⟨g1,g2⟩ => ?_;have g3:=g2<|g1.trans hc;have hpc:=h.iv.pc t (by omega);have hr7:=hp.vs.2 t;have hval:0<=su s.values t (jp s.values t)/\su s.values t (jp s.values t)<=3:=by
  obtain ⟨x1,x2,x3,x4,x5,x6⟩:=hx;unfold su
  split
  ·obtain ⟨g,hg⟩:=Rp x3;rw [hg];exact h.iv.rv t g (by omega) (by omega)
  exact ⟨x5,x6⟩
 rw [<- g3] at hx ho hk1 hk2 hval ⊢;generalize hvx:v.1=x at hx ho hk1 hk2 hval ⊢;have hX:=hx;obtain ⟨x1,x2,x3,x4,x5,x6⟩:=hX;have hn:=h.ln x.Loc ⟨x1,x2⟩;refine .gdD ⟨by omega,by omega⟩ (.gdY (by omega) ?_);refine MN.bind (P:=λz=>(⟨⟨z.1,z.2.1,z.2.2.1⟩,⟨z.2.2.2.1,z.2.2.2.2.1,z.2.2.2.2.2.1⟩,⟨z.2.2.2.2.2.2.1,z.2.2.2.2.2.2.2.1,z.2.2.2.2.2.2.2.2.1⟩⟩:Z33)=Be s t k x /\
   (⟨⟨z.2.2.2.2.2.2.2.2.2.1,z.2.2.2.2.2.2.2.2.2.2.1,z.2.2.2.2.2.2.2.2.2.2.2.1⟩,⟨z.2.2.2.2.2.2.2.2.2.2.2.2.1,z.2.2.2.2.2.2.2.2.2.2.2.2.2.1,z.2.2.2.2.2.2.2.2.2.2.2.2.2.2.1⟩,⟨z.2.2.2.2.2.2.2.2.2.2.2.2.2.2.2.1,z.2.2.2.2.2.2.2.2.2.2.2.2.2.2.2.2.1,z.2.2.2.2.2.2.2.2.2.2.2.2.2.2.2.2.2.1⟩⟩:aa)=wX s t k x /\
   z.2.2.2.2.2.2.2.2.2.2.2.2.2.2.2.2.2.2=(s.lists.x0,s.lists.x1,s.lists.x2)) ?_ λz hz=>?_
 ·refine (EK _).bind λb hb=>?_;have hb':b=rdX x:=hb;refine .bif (λhcb=>?_) λhcb => .pure ⟨?_,?_,rfl⟩
  ·have hrd:x.Op=1\/x.Op=5:=by
    rw [hb'] at hcb;simpa [rdX] using hcb
   refine .gdD ⟨x1,by omega⟩<|.gdD ⟨by omega,hk1 hrd⟩<|.gdD ⟨x3,by omega⟩<|(Dm _ _).bind λv30 e30 => .pure ⟨?_,?_,rfl⟩
   ·unfold Be Ii;rw [if_pos (by rw [<- hb'];exact hcb)]
   subst e30;unfold wX Ii;rw [if_pos (by rw [<- hb'];exact hcb)]
  ·unfold Be;rw [if_neg (by rw [<- hb',hcb];decide)]
  unfold wX;rw [if_neg (by rw [<- hb',hcb];decide)]
 obtain ⟨hz1,hz2,hz3⟩:=hz;obtain ⟨r0,r1,r2,r3,r4,r5,r6,r7,r8,o0,o1,o2,o3,o4,o5,o6,o7,o8,l0,l1,l2⟩:=z;simp only [Prod.mk.injEq] at hz1 hz2 hz3;obtain ⟨rfl,rfl,rfl⟩:=hz3;have hvo:∀ u:Nat,u<3->VB 254 (aa.get (wX s t k x) u):=λu hu=>by
  unfold wX
  split
  ·rename_i hrd;have hrd:x.Op=1\/x.Op=5:=by simpa [rdX] using hrd
   rw [p6 _ _ (by omega) (by omega)]
   split
   ·exact (h.vbo hs<|by omega).jo<|h.vbw hs ⟨x1,x2⟩<|uV (by omega)<|hk1 hrd
   exact h.vbo hs hu
  exact h.vbo hs hu
 unfold afW;rw [<- hz1];rw [<- hz2] at hvo ⊢;obtain ⟨hv0,hv1,hv2⟩:=VB.x hvo;have hloc:x.Loc=0\/x.Loc=1\/x.Loc=2:=by omega
 have hln:∀ (l:Int),0<=l/\l<=2->0<(ae.get s.lists l).length:=λl hl=>h.ln l hl;have mvs:∀ (q:Int),0<=q->True:=λ_ _=>trivial;refine MN.bind (P:=λy=>((⟨y.2.2.2.2.2.2.2.2.2.1,y.2.2.2.2.2.2.2.2.2.2.1,y.2.2.2.2.2.2.2.2.2.2.2⟩:ae),(⟨⟨y.1,y.2.1,y.2.2.1⟩,⟨y.2.2.2.1,y.2.2.2.2.1,y.2.2.2.2.2.1⟩,⟨y.2.2.2.2.2.2.1,y.2.2.2.2.2.2.2.1,y.2.2.2.2.2.2.2.2.1⟩⟩:aa))=Dn s t k x ⟨⟨o0,o1,o2⟩,⟨o3,o4,o5⟩,⟨o6,o7,o8⟩⟩) ?_ λy hy => .pure ?_
 ·refine MN.bind (P:=(· = wU x)) (.bif (λhc => .pure<|by unfold wU;rw [hc];rfl) λhc => .pure<|by unfold wU;rw [hc];rfl) λb hb=>?_;subst hb;refine .bif (λhst=>?_) λhst => .bif (λh5=>?_) λh5 => .pure ?_
  ·have hop:x.Op=2\/x.Op=3:=by simpa [wU] using hst
   have hkk:=hk2 hop;refine .gdY (by omega)<|(Bf (by omega) ⟨x3,x4⟩ ⟨x5,x6⟩).bind λv45 e45=>?_;refine (p7 ⟨x1,x2⟩ (λw hw=>h.vbw hs (l:=0) (by decide) hw) (by show (ae.get s.lists 0).length<=_;omega) λz=>by unfold gG;simp only [hvx,hd];rfl).bind λv46 e46=>?_;refine (p7 ⟨x1,x2⟩ (λw hw=>h.vbw hs (l:=1) (by decide) hw) (by show (ae.get s.lists 1).length<=_;omega) λz=>by unfold gH;simp only [hvx,hd];rfl).bind λv64 e64=>?_;refine (p7 ⟨x1,x2⟩ (λw hw=>h.vbw hs (l:=2) (by decide) hw) (by show (ae.get s.lists 2).length<=_;omega) λz=>by unfold gI;simp only [hvx,hd];rfl).bind λv82 e82=>?_;refine (lQ ⟨x1,x2⟩ hv0).bind λaH e100=>(lQ ⟨x1,x2⟩ hv1).bind λaI e101=>(lQ ⟨x1,x2⟩ hv2).bind λaJ e102 => .gdD ⟨x1,by omega⟩ ?_;subst e45 e46 e64 e82 e100 e101 e102;unfold Dn;rw [if_pos hop];obtain ⟨xo,xl,xr,xv⟩:=x;simp only at hloc hkk;rcases hloc with rfl | rfl | rfl
   ·refine .bifD (λ_=>(ko (by rw [llm];exact ⟨by omega,hkk⟩) (by rw [llm];exact hln 0<|by decide)<|by rw [llm];show (ae.get s.lists 0).length<=_;omega).bind λv e => .pure ?_) λhh=>absurd rfl hh;subst e
    rfl
   ·refine .bifD (λhh=>absurd hh<|by simp only [];decide) λ_ => .bifD (λ_=>(ko (by rw [llm];exact ⟨by omega,hkk⟩) (by rw [llm];exact hln 1<|by decide)<|by rw [llm];show (ae.get s.lists 1).length<=_;omega).bind λv e => .pure ?_) λhh=>absurd rfl hh;subst e
    rfl
   refine .bifD (λhh=>absurd hh<|by simp only [];decide) λ_ => .bifD (λhh=>absurd hh<|by simp only [];decide) λ_ => .bifD (λ_=>(ko (by rw [llm];exact ⟨by omega,hkk⟩) (by rw [llm];exact hln 2<|by decide)<|by rw [llm];show (ae.get s.lists 2).length<=_;omega).bind λv e => .pure ?_) λhh=>absurd rfl hh;subst e
   rfl
  ·have hop:x.Op=5:=by simpa using h5
   have hkk:=hk1<|.inr hop;have h23 : ¬ (x.Op=2\/x.Op=3):=by omega
   refine .gdI (by omega)<|.gdY (by omega)<|.gdY (by omega) ?_;refine (p7 ⟨x1,x2⟩ (λw hw=>h.vbw hs (l:=0) (by decide) hw) (by show (ae.get s.lists 0).length<=_;omega) λz=>by unfold fP;simp only [hvx,hd];rfl).bind λv123 e123=>?_;refine (p7 ⟨x1,x2⟩ (λw hw=>h.vbw hs (l:=1) (by decide) hw) (by show (ae.get s.lists 1).length<=_;omega) λz=>by unfold fQ;simp only [hvx,hd];rfl).bind λv141 e141=>?_;refine (p7 ⟨x1,x2⟩ (λw hw=>h.vbw hs (l:=2) (by decide) hw) (by show (ae.get s.lists 2).length<=_;omega) λz=>by unfold fS;simp only [hvx,hd];rfl).bind λv159 e159=>?_;refine (lQ ⟨x1,x2⟩ hv0).bind λaH e100=>(lQ ⟨x1,x2⟩ hv1).bind λaI e101=>(lQ ⟨x1,x2⟩ hv2).bind λaJ e102 => .gdD ⟨x1,by omega⟩ ?_;subst e123 e141 e159 e100 e101 e102;unfold Dn;rw [if_neg h23,if_pos hop];obtain ⟨xo,xl,xr,xv⟩:=x;simp only at hloc hkk;rcases hloc with rfl | rfl | rfl
   ·refine .bifD (λ_=>(ko (by rw [llm];exact ⟨by omega,by show _<=((ae.get s.lists 0).length:Int);omega⟩) (by rw [llm];exact hln 0<|by decide)<|by rw [llm];show (ae.get s.lists 0).length<=_;omega).bind λv e=>?_) λhh=>absurd rfl hh;subst e;refine .gdD ⟨by omega,?_⟩<|.pure rfl;simp only [lla,Rh,Rn,llm,llc,Ri];have : (ae.get s.lists 0).length=s.lists.x0.length:=rfl;omega
   ·refine .bifD (λhh=>absurd hh<|by simp only [];decide) λ_ => .bifD (λ_=>(ko (by rw [llm];exact ⟨by omega,by show _<=((ae.get s.lists 1).length:Int);omega⟩) (by rw [llm];exact hln 1<|by decide)<|by rw [llm];show (ae.get s.lists 1).length<=_;omega).bind λv e=>?_) λhh=>absurd rfl hh;subst e;refine .gdD ⟨by omega,?_⟩<|.pure rfl;simp only [lla,Rh,Rn,llm,llc,Ri];have : (ae.get s.lists 1).length=s.lists.x1.length:=rfl;omega
   refine .bifD (λhh=>absurd hh<|by simp only [];decide) λ_ => .bifD (λhh=>absurd hh<|by simp only [];decide) λ_ => .bifD (λ_=>(ko (by rw [llm];exact ⟨by omega,by show _<=((ae.get s.lists 2).length:Int);omega⟩) (by rw [llm];exact hln 2<|by decide)<|by rw [llm];show (ae.get s.lists 2).length<=_;omega).bind λv e=>?_) λhh=>absurd rfl hh;subst e;refine .gdD ⟨by omega,?_⟩<|.pure rfl;simp only [lla,Rh,Rn,llm,llc,Ri];have : (ae.get s.lists 2).length=s.lists.x2.length:=rfl;omega
  have h23 : ¬ (x.Op=2\/x.Op=3):=by
   intro e;have : wU x=true:=by rcases e with e | e <;> simp [wU,e]
   rw [this] at hst
   cases hst
  unfold Dn;rw [if_neg h23,if_neg (by simpa using h5)]
 unfold Jo;rw [<- hy]
end
theorem Co (L:ae) (f:ai->ai) (j:Int):ae.get ⟨L.x0.map f,L.x1.map f,L.x2.map f⟩ j=(ae.get L j).map f:=by
 unfold ae.get
 split
 ·rfl
 split <;> rfl
theorem yF (O:aa) (f:ah->ah) (j:Int):aa.get ⟨f O.x0,f O.x1,f O.x2⟩ j=f (aa.get O j):=by
 unfold aa.get
 split
 ·rfl
 split <;> rfl
def OB (L:ae) (O:aa):Prop:=∀ u:Nat,u<3->∀ j,0<=j/\j<=2->0<=ah.get (aa.get O u) j/\ah.get (aa.get O u) j<((ae.get L j).length:Int)
def LB (L:ae):Prop:=(∀ l,0<=l/\l<=2->1<=(ae.get L l).length)/\∀ l,0<=l/\l<=2->∀ w∈ae.get L l,(0<=w.value/\w.value<=3)/\∀ j,0<=j/\j<=2->0<=ah.get w.view j/\ah.get w.view j<((ae.get L j).length:Int)
theorem Jp (v:ah) {l:Int} (hl:0<=l/\l<=2) (k:Int) {j:Int} (hj:0<=j/\j<=2):ah.get (mvP v l k) j=if j=l/\k<=ah.get v l then ah.get v l+1 else ah.get v j:=by
 unfold mvP;rw [yD _ _ hl hj]
 by_cases e:j=l
 ·subst e;rw [if_pos rfl]
  by_cases h:k<=ah.get v j
  ·rw [if_pos h,if_pos ⟨rfl,h⟩]
  rw [if_neg h,if_neg λg=>h g.2]
 rw [if_neg e,if_neg λg=>e g.1]
def Fx (L:ae) (l k:Int) (w:ai):ae:=
 ae.set ⟨L.x0.map<|mvW l k,L.x1.map<|mvW l k,L.x2.map<|mvW l k⟩ l (((ae.get L l).map<|mvW l k).take k.toNat++[w]++((ae.get L l).map<|mvW l k).drop k.toNat)
def Ij (O:aa) (t l k:Int):aa:=
 aa.set ⟨mvP O.x0 l k,mvP O.x1 l k,mvP O.x2 l k⟩ t (ah.set (mvP (aa.get O t) l k) l k)
theorem yG (L:ae) (O:aa) (t l k v:Int) (ht:0<=t/\t<=2):Fw L O t l k v=(Fx L l k ⟨v,false,ah.set (mvP (aa.get O t) l k) l k⟩,Ij O t l k):=by
 unfold Fw Fx Ij;simp only [Co,yF O (λv=>mvP v l k),p6 _ _ ht ht,if_true]
section
variable {L:ae} {O:aa} {t:Nat} {l k v:Int}
theorem yH (hl:0<=l/\l<=2) (w:ai) {j:Int} (hj:0<=j/\j<=2):ae.get (Fx L l k w) j=if j=l then ((ae.get L l).map<|mvW l k).take k.toNat++[w]++((ae.get L l).map<|mvW l k).drop k.toNat else (ae.get L j).map (mvW l k):=by
 unfold Fx;rw [yE _ _ hl hj,Co]
theorem rS (hl:0<=l/\l<=2) (w:ai) {j:Int} (hj:0<=j/\j<=2):(ae.get (Fx L l k w) j).length=(ae.get L j).length+if j=l then 1 else 0:=by
 rw [yH hl w hj]
 split
 ·rename_i e;subst e;simp only [lla,Rh,Rn,llm,llc,Ri];omega
 simp
theorem GY (ht:t<3) (hl:0<=l/\l<=2) {u:Nat} (hu:u<3) {j:Int} (hj:0<=j/\j<=2):ah.get (aa.get (Ij O t l k) u) j=if u=t/\j=l then k else ah.get (mvP (aa.get O u) l k) j:=by
 unfold Ij;rw [p6 _ _ (by omega) (by omega),yF O (λv=>mvP v l k)]
 by_cases e:u=t
 ·subst e;rw [if_pos rfl,yD _ _ hl hj]
  by_cases g:j=l
  ·rw [if_pos g,if_pos ⟨rfl,g⟩]
  rw [if_neg g,if_neg λh=>g h.2]
 rw [if_neg (by omega),if_neg λh=>e h.1]
theorem KL {w:ah} (hl:0<=l/\l<=2) (hw:∀ j,0<=j/\j<=2->0<=ah.get w j/\ah.get w j<((ae.get L j).length:Int)) (x:ai) {j:Int} (hj:0<=j/\j<=2):0<=ah.get (mvP w l k) j/\ah.get (mvP w l k) j<((ae.get (Fx L l k x) j).length:Int):=by
 rw [rS hl x hj,Jp _ hl k hj];have h1:=hw j hj;have h2:=hw l hl
 split
 ·rename_i h;rw [if_pos h.1,h.1];omega
 split <;> omega
theorem Fy (hO:OB L O) (ht:t<3) (hl:0<=l/\l<=2) (hk:0<=k/\k<=((ae.get L l).length:Int)) (x:ai):OB (Fx L l k x) (Ij O t l k):=λu hu j hj=>by
 rw [GY ht hl hu hj]
 split
 ·rename_i h;rw [rS hl x hj,if_pos h.2,h.2];omega
 exact KL hl (hO u hu) x hj
theorem Ik (hL:LB L) (hO:OB L O) (ht:t<3) (hl:0<=l/\l<=2) (hk:0<=k/\k<=((ae.get L l).length:Int)) (hv:0<=v/\v<=3):LB (Fx L l k ⟨v,false,ah.set (mvP (aa.get O t) l k) l k⟩):=by
 have old:∀ (x:ai) (i:Int),0<=i/\i<=2->∀ w∈(ae.get L i).map (mvW l k),(0<=w.value/\w.value<=3)/\∀ j,0<=j/\j<=2->0<=ah.get w.view j/\ah.get w.view j<((ae.get (Fx L l k x) j).length:Int):=λx i hi w hw=>by
  obtain ⟨w0,h1,rfl⟩:=Rt.1 hw;have h2:=hL.2 i hi w0 h1;exact ⟨h2.1,λj hj=>KL hl h2.2 x hj⟩
 refine ⟨λj hj=>?_,λi hi w hw=>?_⟩
 ·rw [rS hl _ hj];have := hL.1 j hj;omega
 rw [yH hl _ hi] at hw
 split at hw
 ·rename_i e;subst e;rcases Rl.1 hw with hw | hw
  ·rcases Rl.1 hw with hw | hw
   ·exact old _ i hi w<|RF hw
   rw [Rm.1 hw];refine ⟨hv,λj hj=>?_⟩;have := Fy hO ht hi hk ⟨v,false,ah.set (mvP (aa.get O t) i k) i k⟩ t ht j hj;unfold Ij at this;rw [p6 _ _ (by omega) (by omega),if_pos rfl] at this;exact this
  exact old _ i hi w<|RE hw
 exact old _ i hi w hw
theorem Cq (hl:0<=l/\l<=2) {j:Int} (hj:0<=j/\j<=2):ae.get (GX L l k) j=if j=l then (ae.get L l).set k.toNat { ((ae.get L l).getD k.toNat default) with taken:=true } else ae.get L j:=by
 unfold GX;rw [yE _ _ hl hj]
theorem yI (hl:0<=l/\l<=2) {j:Int} (hj:0<=j/\j<=2):(ae.get (GX L l k) j).length=(ae.get L j).length:=by
 rw [Cq hl hj]
 split
 ·rename_i e;subst e;rw [List.length_set]
 rfl
theorem KM (hL:LB L) (hl:0<=l/\l<=2) (hk:0<=k/\k<((ae.get L l).length:Int)):LB (GX L l k):=by
 refine ⟨λj hj=>by rw [yI hl hj];exact hL.1 j hj,λi hi w hw=>?_⟩;have key:∃ w0∈ae.get L i,w.value=w0.value/\w.view=w0.view:=by
  rw [Cq hl hi] at hw
  split at hw
  ·rename_i e;subst e;rcases RL hw with hw | rfl
   ·exact ⟨w,hw,rfl,rfl⟩
   refine ⟨(ae.get L i).getD k.toNat default,?_,rfl,rfl⟩;rw [gdq,geq (by omega)];exact Rc _
  exact ⟨w,hw,rfl,rfl⟩
 obtain ⟨w0,h1,h2,h3⟩:=key;have h4:=hL.2 i hi w0 h1;rw [h2,h3];exact ⟨h4.1,λj hj=>by rw [yI hl hj];exact h4.2 j hj⟩
theorem KN (hO:OB L O) (hl:0<=l/\l<=2):OB (GX L l k) O:=λu hu j hj=>by rw [yI hl hj];exact hO u hu j hj
end
section
variable {p:List (List MI)} {s:au}
theorem IW.lb (h:IW p s):LB s.lists:=⟨h.ln,h.wv⟩
theorem IW.ob (h:IW p s):OB s.lists s.own:=h.ow
theorem KO (v o:ah) {j:Int} (hj:0<=j/\j<=2):ah.get (joP v o) j=max (ah.get v j) (ah.get o j):=by
 have : j=0\/j=1\/j=2:=by omega
 rcases this with rfl | rfl | rfl <;> rfl
def zQ (s:au) (t:Nat) (x:MI) (k:Nat):Prop:=
 (x.Op=4/\k=0)\/(x.Op=1/\ah.get (aa.get s.own t) x.Loc<=k/\k<(ae.get s.lists x.Loc).length) \/
 (x.Op=5/\ah.get (aa.get s.own t) x.Loc<=k/\k<(ae.get s.lists x.Loc).length/\((ae.get s.lists x.Loc).getD k default).taken=false) \/
 ((x.Op=2\/x.Op=3)/\ah.get (aa.get s.own t) x.Loc<k/\k<=(ae.get s.lists x.Loc).length/\((ae.get s.lists x.Loc).getD (k-1) default).taken=false)
theorem Jq (h:IW p s) {t:Nat} (ht:t<3) {x:MI} (hx:InR x):0<=su s.values t x/\su s.values t x<=3:=by
 obtain ⟨x1,x2,x3,x4,x5,x6⟩:=hx;unfold su
 split
 ·obtain ⟨g,hg⟩:=Rp x3;rw [hg];exact h.iv.rv t g ht (by omega)
 exact ⟨x5,x6⟩
theorem Il (h:IW p s) {t k:Nat} (ht:t<3) {x:MI} (hx:InR x) (hk:rdX x=true->k<(ae.get s.lists x.Loc).length):OB s.lists (wX s t k x):=λu hu j hj=>by
 unfold wX
 split
 ·rename_i hr;rw [p6 _ _ (by omega) (by omega)]
  split
  ·rw [KO _ _ hj];have h1:=h.ow t ht j hj;have h2:=(h.wv x.Loc ⟨hx.1,hx.2.1⟩ _<|uV (k:=(k:Int)) (by omega) (by have := hk hr;omega)).2 j hj;omega
  exact h.ow u hu j hj
 exact h.ow u hu j hj
theorem zQ.rd {t k:Nat} {x:MI} (h:zQ s t x k) (hr:rdX x=true):k<(ae.get s.lists x.Loc).length:=by
 have : x.Op=1\/x.Op=5:=by simpa [rdX] using hr
 rcases h with ⟨h,_⟩ | ⟨h,_,h2⟩ | ⟨h,_,h2,_⟩ | ⟨h,_⟩
 ·omega
 ·exact h2
 ·exact h2
 omega
theorem GZ (h:IW p s) {t k:Nat} (ht:t<3) (hc:qb s.values t=true) {x:MI} (hx:InR x) (hk:zQ s t x k):IW p (afW s t k x):=by
 have hX:=hx;obtain ⟨x1,x2,x3,x4,x5,x6⟩:=hX;have hO:=Il h ht hx hk.rd;have hv:=Jq h ht hx;have hq:LB (Dn s t k x<|wX s t k x).1/\OB (Dn s t k x<|wX s t k x).1 (Dn s t k x<|wX s t k x).2:=by
  unfold Dn
  split
  ·rename_i hop;have hkk:(k:Int)<=((ae.get s.lists x.Loc).length:Int):=by
    rcases hk with ⟨h,_⟩ | ⟨h,_⟩ | ⟨h,_⟩ | ⟨_,_,h2,_⟩ <;> omega
   rw [yG _ _ _ _ _ _ (by omega)];exact ⟨Ik h.lb hO ht ⟨x1,x2⟩ ⟨by omega,hkk⟩ hv,Fy hO ht ⟨x1,x2⟩ ⟨by omega,hkk⟩ _⟩
  split
  ·rename_i hop;have hkk:(k:Int)+1<=((ae.get s.lists x.Loc).length:Int):=by
    have := hk.rd (by simp [rdX,hop]);omega
   rw [yG _ _ _ _ _ _ (by omega)];have h1:=Ik (v:=x.Val) h.lb hO ht ⟨x1,x2⟩ (k:=(k:Int)+1) ⟨by omega,hkk⟩ ⟨x5,x6⟩;refine ⟨KM h1 ⟨x1,x2⟩ ⟨by omega,?_⟩,KN (Fy hO ht ⟨x1,x2⟩ ⟨by omega,hkk⟩ _) ⟨x1,x2⟩⟩;rw [rS ⟨x1,x2⟩ _ ⟨x1,x2⟩];omega
  exact ⟨h.lb,hO⟩
 refine ⟨⟨h.iv.up,λu hu=>?_,λu g hu hg=>?_,h.iv.mv⟩,h.m0,hq.1.1,hq.1.2,hq.2⟩
 ·show 0<=Z3b.get (Z3b.set s.values.pc t<|Z3b.get s.values.pc t+1) u/\Z3b.get (Z3b.set s.values.pc t<|Z3b.get s.values.pc t+1) u<=_;rw [lg _ _ _ _ (by omega) (by omega)];have h1:=h.iv.pc u hu
  split
  ·rename_i e;obtain rfl:u=t:=by omega
   unfold qb at hc;rw [h.iv.up] at hc;have := of_decide_eq_true hc;omega
  exact h1
 show 0<=Z3b.get (Z33.get (Be s t k x) u) g/\Z3b.get (Z33.get (Be s t k x) u) g<=3;unfold Be
 split
 ·rename_i hr;rw [rO _ _ _ _ (by omega) (by omega)]
  split
  ·rw [lg _ _ _ _ ⟨x3,x4⟩ (by omega)]
   split
   ·exact (h.wv x.Loc ⟨x1,x2⟩ _<|uV (k:=(k:Int)) (by omega) (by have := hk.rd hr;omega)).1
   exact h.iv.rv t g ht hg
  exact h.iv.rv u g hu hg
 exact h.iv.rv u g hu hg
theorem Jr {w:ai} {l:Int} (hl:0<=l/\l<=2) (hw:VB 254 w.view) (k:Nat):vW (mvW l k w)=mvM l k (vW w):=by
 unfold vW mvW mvM;simp only [Cn hl hw k]
theorem KP {l:Int} {k:Nat} (hk:1<=k):mvV l k (λ_=>0)=λ_=>0:=by
 unfold mvV;rw [if_neg (by simp only [];omega)];exact Kr _ _
theorem uj (L:ae) {l:Int} (hl:0<=l/\l<=2):liF L l=(ae.get L l).map vW:=if_pos hl
theorem Js {L:ae} {l:Int} {k:Nat} (hl:0<=l/\l<=2) (hk:1<=k) (hb:∀ j,0<=j/\j<=2->∀ w∈ae.get L j,VB 254 w.view) (w:ai) :
  liF (Fx L l k w)=ud (λl'=>(liF L l').map<|mvM l k) l (((liF L l).map<|mvM l k).take k++vW w::((liF L l).map<|mvM l k).drop k):=by
 have key:∀ j,0<=j/\j<=2->((ae.get L j).map<|mvW l k).map vW=(liF L j).map (mvM l k):=λj hj=>by
  rw [uj L hj,List.map_map,List.map_map];exact Rq λw hw=>Jr hl (hb j hj w hw) k
 funext j
 rw [pg]
 by_cases hj:0<=j/\j<=2
 ·rw [uj _ hj,yH hl w hj]
  by_cases e:j=l
  ·subst e;rw [if_pos rfl,if_pos rfl,RI,RI,List.map_take,List.map_drop,key j hj,tnn,List.append_assoc]
   rfl
  rw [if_neg e,if_neg e,key j hj]
 have : j≠l:=λe=>hj (by rw [e];exact hl);rw [if_neg this];unfold liF;rw [if_neg hj,if_neg hj];simp [mvM,KP hk]
theorem uk (O:aa) {t:Nat} (ht:t<3):owF O t=vwF (aa.get O t):=if_pos ht
theorem Jt {O:aa} {t:Nat} {l:Int} {k:Nat} (ht:t<3) (hl:0<=l/\l<=2) (hk:1<=k) (hb:∀ u:Nat,u<3->VB 254 (aa.get O u)) :
  owF (Ij O t l k)=ud (λu=>mvV l k<|owF O u) t (ud (owF O t) l k):=by
 funext u
 unfold Ij;rw [Fv _ ht,pg,pg]
 by_cases e:u=t
 ·rw [if_pos e,if_pos e,Bd _ hl,Cn hl (hb t ht),uk O ht];unfold mvV;rw [zG,tnn]
 rw [if_neg e,if_neg e]
 by_cases hu:u<3
 ·rw [uk _ hu,uk _ hu,yF O (λv=>mvP v l k),Cn hl (hb u hu)]
 unfold owF;rw [if_neg hu,if_neg hu,KP hk]
theorem FA {v:ah} {l:Int} {k:Nat} (hl:0<=l/\l<=2) (hv:VB 254 v):vwF (ah.set (mvP v l k) l k)=ud (vwF v) l k:=by
 rw [Bd _ hl,Cn hl hv];unfold mvV;rw [zG,tnn]
theorem Im {L:ae} {O:aa} {t:Nat} {l:Int} {k:Nat} {v:Int} (ht:t<3) (hl:0<=l/\l<=2) (hk:1<=k) (hb:∀ j,0<=j/\j<=2->∀ w∈ae.get L j,VB 254 w.view) (hO:∀ u:Nat,u<3->VB 254 (aa.get O u)) (pc:Nat->Nat) (rg:Nat->Int->Int) :
  (⟨pc,rg,liF (Fw L O t l k v).1,owF (Fw L O t l k v).2⟩:RS)=Dl ⟨pc,rg,liF L,owF O⟩ t l k v:=by
 rw [yG _ _ _ _ _ _ (by omega)];unfold Dl;refine RS.ext rfl rfl ?_ ?_
 ·simp only;rw [Js hl hk hb]
  congr 3
  unfold vW;simp only;rw [FA hl (hO t ht),uk O ht]
 exact Jt ht hl hk hO
theorem Ju {L:ae} {l:Int} {k:Nat} (hl:0<=l/\l<=2) (hk:k<(ae.get L l).length):liF (GX L l k)=ud (liF L) l ((liF L l).modify k lkM):=by
 unfold GX;rw [Jn _ hl,uj L hl]
 congr 1
 rw [tnn,gdq,geq hk,Option.getD_some];refine RA λi=>?_;rw [Ro,List.getElem?_modify,List.getElem?_set,Ro]
 by_cases e:k=i
 ·subst e;rw [if_pos rfl,if_pos hk];simp [hk,vW,lkM]
 rw [if_neg e];simp only [if_neg e]
 cases (ae.get L l)[i]? <;> rfl
end
end
end Go.Proofs.YtjcmfddobaplbaaGreat
