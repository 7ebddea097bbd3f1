/- Texts joined. No conditions. -/
import Derived.Test.YtlmjnhnpahicmaaGreatW5
namespace Go.Proofs.YtlmjnhnpahicmaaGreat
noncomputable section
open Go.RowKit
set_option maxRecDepth 100000
def qV (p:List (List Ma)):Option Me:= some (⟨(⟨p,(⟨(0:Int),(0:Int),(0:Int)⟩:Z3b),(⟨(⟨(0:Int),(0:Int),(0:Int)⟩:Z3b),(⟨(0:Int),(0:Int),(0:Int)⟩:Z3b),(⟨(0:Int),(0:Int),(0:Int)⟩:Z3b)⟩:Z33),(⟨(0:Int),(0:Int),(0:Int)⟩:Z3b)⟩:Md)⟩:Me)
def fG (v:Md):((LI)×Int)->Option (((LI)×Int) ⊕ (LI)):=fun s6=>bif decide (s6.2<(3:Int)) then gd (decide (0<=s6.2/\s6.2<3)) <|gd (aS (s6.1.length+([(⟨(Z33.get v.reg s6.2).x0,(Z33.get v.reg s6.2).x1,(Z33.get v.reg s6.2).x2⟩:Z3b).x0,(⟨(Z33.get v.reg s6.2).x0,(Z33.get v.reg s6.2).x1,(Z33.get v.reg s6.2).x2⟩:Z3b).x1,(⟨(Z33.get v.reg s6.2).x0,(Z33.get v.reg s6.2).x1,(Z33.get v.reg s6.2).x2⟩:Z3b).x2]:LI).length) 1) <|gd (L8 .i64 (s6.2+(1:Int))) <|some (.inl ((s6.1++([(⟨(Z33.get v.reg s6.2).x0,(Z33.get v.reg s6.2).x1,(Z33.get v.reg s6.2).x2⟩:Z3b).x0,(⟨(Z33.get v.reg s6.2).x0,(Z33.get v.reg s6.2).x1,(Z33.get v.reg s6.2).x2⟩:Z3b).x1,(⟨(Z33.get v.reg s6.2).x0,(Z33.get v.reg s6.2).x1,(Z33.get v.reg s6.2).x2⟩:Z3b).x2]:LI)),(s6.2+(1:Int)))) else some (.inr s6.1)
def iQ (v:Md):Option ByteArray:= gd (aS (([]:LI).length+([v.pc.x0,v.pc.x1,v.pc.x2]:LI).length) 1) <|Option.bind (loopO (fG v) ((([]:LI)++([v.pc.x0,v.pc.x1,v.pc.x2]:LI)),(0:Int))) fun s2=>gd (aS (s2.length+([v.mem.x0,v.mem.x1,v.mem.x2]:LI).length) 1) <|some (strOfNums (s2++([v.mem.x0,v.mem.x1,v.mem.x2]:LI)))
def dB (s:Me):Option ByteArray:= Option.bind (iQ s.values) fun v1=>some v1
def bM (v:Md) (t:Int):Option (Ma×Bool):= gd (decide (0<=t/\t<3)) <|gd (L8 .i64 (Z3b.get v.pc t)) <|gd (decide (0<=t/\t<(v.p.length:Int))) <|bif decide (((v.p.getD t.toNat default).length:Int)<=(Z3b.get v.pc t)) then some ((⟨(0:Int),(0:Int),(0:Int),(0:Int)⟩:Ma),false) else gd (decide (0<=(Z3b.get v.pc t)/\(Z3b.get v.pc t)<((v.p.getD t.toNat default).length:Int))) <|some ((⟨((v.p.getD t.toNat default).getD (Z3b.get v.pc t).toNat default).Op,((v.p.getD t.toNat default).getD (Z3b.get v.pc t).toNat default).Loc,((v.p.getD t.toNat default).getD (Z3b.get v.pc t).toNat default).Reg,((v.p.getD t.toNat default).getD (Z3b.get v.pc t).toNat default).Val⟩:Ma),true)
def iF (v:Md):Int->Option (Int ⊕ (Unit ⊕ Bool)):=fun s4=>bif decide (s4<(v.p.length:Int)) then Option.bind (bM v s4) fun v7=>bif v7.2 then some (.inr (.inr false)) else gd (L8 .i64 (s4+(1:Int))) <|some (.inl (s4+(1:Int))) else some (.inr (.inl ()))
def fH (v:Md):Option Bool:= sumK (loopO (iF v) (0:Int)) fun s1=>some true
def dP (s:Me):Option Bool:= Option.bind (fH s.values) fun v1=>some v1
def dC (v:Md) (s7:(LI)×Int):((LI)×Int)->Option (((LI)×Int) ⊕ (LI)):=fun s20=>bif decide (s20.2<(3:Int)) then gd (decide (0<=s20.2/\s20.2<3)) <|gd (L8 .i64 (Z3b.get (Z33.get v.reg s7.2) s20.2)) <|gd (aS (s20.1.length+1) 8) <|gd (L8 .i64 (s20.2+(1:Int))) <|some (.inl ((s20.1++[(Z3b.get (Z33.get v.reg s7.2) s20.2)]),(s20.2+(1:Int)))) else some (.inr s20.1)
def dQ (v:Md):((LI)×Int)->Option (((LI)×Int) ⊕ (LI)):=fun s7=>bif decide (s7.2<(v.p.length:Int)) then Option.bind (gd (decide (0<=s7.2/\s7.2<3)) <|loopO (dC v s7) (s7.1,(0:Int))) fun s13=>gd (L8 .i64 (s7.2+(1:Int))) <|some (.inl (s13,(s7.2+(1:Int)))) else some (.inr s7.1)
def dD (v:Md):((LI)×Int)->Option (((LI)×Int) ⊕ (LI)):=fun s43=>bif decide (s43.2<(3:Int)) then gd (decide (0<=s43.2/\s43.2<3)) <|gd (L8 .i64 (Z3b.get v.mem s43.2)) <|gd (aS (s43.1.length+1) 8) <|gd (L8 .i64 (s43.2+(1:Int))) <|some (.inl ((s43.1++[(Z3b.get v.mem s43.2)]),(s43.2+(1:Int)))) else some (.inr s43.1)
def bB (v:Md):Option (LI):= Option.bind (loopO (dQ v) (([]:LI),(0:Int))) fun s1=>Option.bind (loopO (dD v) (s1,(0:Int))) fun s37=>some s37
def il (s:Me):((LI)×Int)->Option (((LI)×Int) ⊕ (LI)):=fun s7=>bif decide (s7.2<(s.values.p.length:Int)) then Option.bind (Option.bind (bM s.values s7.2) fun v14=>bif v14.2 then gd (aS (s7.1.length+1) 8) <|some (s7.1++[s7.2]) else some s7.1) fun s13=>gd (L8 .i64 (s7.2+(1:Int))) <|some (.inl (s13,(s7.2+(1:Int)))) else some (.inr s7.1)
def cN (s:Me):Option (LI):= Option.bind (loopO (il s) (([]:LI),(0:Int))) fun s1=>some s1
def gz (v:Md) (t:Int) (x:Ma):Option Int:= bif (x.Op==(3:Int)) then gd (decide (0<=t/\t<3)) <|gd (decide (0<=x.Reg/\x.Reg<3)) <|some (Z3b.get (Z33.get v.reg t) x.Reg) else gd (L8 .u8 x.Val) <|some x.Val
def bN (x:Ma):Option Bool:= Option.bind (bif (x.Op==(1:Int)) then some true else some (x.Op==(5:Int))) fun s1=>some s1
def aO (x:Ma):Option Bool:= Option.bind (bif (x.Op==(2:Int)) then some true else some (x.Op==(3:Int))) fun s1=>Option.bind (bif s1 then some true else some (x.Op==(5:Int))) fun s3=>some s3
def cO (s:Me) (t:Int):Option Me:= Option.bind (bM s.values t) fun v1=>gd (decide (0<=t/\t<3)) <|gd (L8 .u8 ((Z3b.get s.values.pc t)+(1:Int))) <|Option.bind (gz s.values t (⟨v1.1.Op,v1.1.Loc,v1.1.Reg,v1.1.Val⟩:Ma)) fun v4=>Option.bind (Option.bind (bN (⟨v1.1.Op,v1.1.Loc,v1.1.Reg,v1.1.Val⟩:Ma)) fun v6=>bif v6 then gd (decide (0<=v1.1.Loc/\v1.1.Loc<3)) <|gd (decide (0<=v1.1.Reg/\v1.1.Reg<3)) <|some (((Z33.set s.values.reg t (Z3b.set (Z33.get s.values.reg t) v1.1.Reg (Z3b.get s.values.mem v1.1.Loc))).x0).x0,((Z33.set s.values.reg t (Z3b.set (Z33.get s.values.reg t) v1.1.Reg (Z3b.get s.values.mem v1.1.Loc))).x0).x1,((Z33.set s.values.reg t (Z3b.set (Z33.get s.values.reg t) v1.1.Reg (Z3b.get s.values.mem v1.1.Loc))).x0).x2,((Z33.set s.values.reg t (Z3b.set (Z33.get s.values.reg t) v1.1.Reg (Z3b.get s.values.mem v1.1.Loc))).x1).x0,((Z33.set s.values.reg t (Z3b.set (Z33.get s.values.reg t) v1.1.Reg (Z3b.get s.values.mem v1.1.Loc))).x1).x1,((Z33.set s.values.reg t (Z3b.set (Z33.get s.values.reg t) v1.1.Reg (Z3b.get s.values.mem v1.1.Loc))).x1).x2,((Z33.set s.values.reg t (Z3b.set (Z33.get s.values.reg t) v1.1.Reg (Z3b.get s.values.mem v1.1.Loc))).x2).x0,((Z33.set s.values.reg t (Z3b.set (Z33.get s.values.reg t) v1.1.Reg (Z3b.get s.values.mem v1.1.Loc))).x2).x1,((Z33.set s.values.reg t (Z3b.set (Z33.get s.values.reg t) v1.1.Reg (Z3b.get s.values.mem v1.1.Loc))).x2).x2) else some (s.values.reg.x0.x0,s.values.reg.x0.x1,s.values.reg.x0.x2,s.values.reg.x1.x0,s.values.reg.x1.x1,s.values.reg.x1.x2,s.values.reg.x2.x0,s.values.reg.x2.x1,s.values.reg.x2.x2)) fun s5=>Option.bind (Option.bind (aO (⟨v1.1.Op,v1.1.Loc,v1.1.Reg,v1.1.Val⟩:Ma)) fun v11=>bif v11 then gd (decide (0<=v1.1.Loc/\v1.1.Loc<3)) <|some ((Z3b.set s.values.mem v1.1.Loc v4).x0,(Z3b.set s.values.mem v1.1.Loc v4).x1,(Z3b.set s.values.mem v1.1.Loc v4).x2) else some (s.values.mem.x0,s.values.mem.x1,s.values.mem.x2)) fun s10=>some (⟨(⟨s.values.p,(⟨(Z3b.set s.values.pc t ((Z3b.get s.values.pc t)+(1:Int))).x0,(Z3b.set s.values.pc t ((Z3b.get s.values.pc t)+(1:Int))).x1,(Z3b.set s.values.pc t ((Z3b.get s.values.pc t)+(1:Int))).x2⟩:Z3b),(⟨(⟨s5.1,s5.2.1,s5.2.2.1⟩:Z3b),(⟨s5.2.2.2.1,s5.2.2.2.2.1,s5.2.2.2.2.2.1⟩:Z3b),(⟨s5.2.2.2.2.2.2.1,s5.2.2.2.2.2.2.2.1,s5.2.2.2.2.2.2.2.2⟩:Z3b)⟩:Z33),(⟨s10.1,s10.2.1,s10.2.2⟩:Z3b)⟩:Md)⟩:Me)
def gJ (s1_:LI) (s2_:LI):Int->Option (Int ⊕ (Unit ⊕ Bool)):=fun s5=>bif decide (s5<(s1_.length:Int)) then gd (decide (0<=s5/\s5<(s1_.length:Int))) <|gd (decide (0<=s5/\s5<(s2_.length:Int))) <|bif ((s1_.getD s5.toNat default) != (s2_.getD s5.toNat default)) then some (.inr (.inr false)) else gd (L8 .i64 (s5+(1:Int))) <|some (.inl (s5+(1:Int))) else some (.inr (.inl ()))
def cz (s1_:LI) (s2_:LI):Option Bool:= bif ((s1_.length:Int) != (s2_.length:Int)) then some false else sumK (loopO (gJ s1_ s2_) (0:Int)) fun s2=>some true
def bH (a:LI) (b:LI):Option Bool:= Option.bind (cz a b) fun v1=>some v1
def aD (s8:(LL)×Int):((LL)×Int×Int)->Option (((LL)×Int×Int) ⊕ ((LL)×Int)):=fun s25=>bif decide (s25.2.1<((((s8.1.length:Int).toNat-s8.2.toNat):Nat):Int)) then Option.bind (gd (decide ((0<=s25.2.1/\s25.2.1<((((s8.1.length:Int).toNat-s8.2.toNat):Nat):Int))/\((0+s8.2.toNat)+s25.2.1.toNat)<s25.1.length)) <|gd (L8 .i64 (s25.2.1-(1:Int))) <|gd (decide ((0<=(s25.2.1-(1:Int))/\(s25.2.1-(1:Int))<((((s8.1.length:Int).toNat-s8.2.toNat):Nat):Int))/\((0+s8.2.toNat)+(s25.2.1-(1:Int)).toNat)<s25.1.length)) <|Option.bind (bH (s25.1.getD ((0+s8.2.toNat)+s25.2.1.toNat) default) (s25.1.getD ((0+s8.2.toNat)+(s25.2.1-(1:Int)).toNat) default)) fun v33=>bif !v33 then gd (decide (0<=s25.2.2/\s25.2.2<(s25.1.length:Int))) <|gd (L8 .i64 (s25.2.2+(1:Int))) <|some ((s25.1.set s25.2.2.toNat (s25.1.getD ((0+s8.2.toNat)+s25.2.1.toNat) default)),(s25.2.2+(1:Int))) else some (s25.1,s25.2.2)) fun s29=>gd (L8 .i64 (s25.2.1+(1:Int))) <|some (.inl (s29.1,(s25.2.1+(1:Int)),s29.2)) else some (.inr (s25.1,s25.2.2))
def aH:((LL)×Int)->Option (((LL)×Int) ⊕ ((LL) ⊕ (LL))):=fun s8=>bif decide (s8.2<(s8.1.length:Int)) then sumK (gd (decide (0<=s8.2/\s8.2<(s8.1.length:Int))) <|gd (L8 .i64 (s8.2-(1:Int))) <|gd (decide (0<=(s8.2-(1:Int))/\(s8.2-(1:Int))<(s8.1.length:Int))) <|Option.bind (bH (s8.1.getD s8.2.toNat default) (s8.1.getD ((s8.2-(1:Int)).toNat) default)) fun v18=>bif v18 then gd (decide (0<=s8.2/\s8.2<=(s8.1.length:Int)/\(s8.1.length:Int)<=(s8.1.length:Int))) <|Option.bind (loopO (aD s8) (s8.1,(1:Int),s8.2)) fun s21=>gd (decide (0<=s21.2/\s21.2<=(s21.1.length:Int)/\(s21.1.length:Int)<=(s21.1.length:Int))) <|gd (decide (0<=(0:Int)/\(0:Int)<=s21.2/\s21.2<=(s21.1.length:Int))) <|some (.inr (.inr (.inr (((cpy s21.1 (0+s21.2.toNat) (List.replicate ((s21.1.length:Int).toNat-s21.2.toNat) (default:LI)) ((s21.1.length:Int).toNat-s21.2.toNat)).drop (0:Int).toNat).take (s21.2.toNat-(0:Int).toNat))))) else some (.inl ())) fun s14=>gd (L8 .i64 (s8.2+(1:Int))) <|some (.inl (s8.1,(s8.2+(1:Int)))) else some (.inr (.inl s8.1))
def ay (s:LL):Option (LL):= bif decide ((s.length:Int)<(2:Int)) then some s else sumK (loopO aH (s,(1:Int))) fun s2=>some s2
def aW (list:LL):Option (LL):= Option.bind (dO list) fun v1=>Option.bind (ay v1) fun v2=>some v2
def gu (s9:(List (ByteArray×Bool))×(LL)×(List Me)) (s19:(LL)) (v27:(LI)):((List (ByteArray×Bool))×(List Me)×Int)->Option (((List (ByteArray×Bool))×(List Me)×Int) ⊕ (((List (ByteArray×Bool))×(LL)×(List Me)) ⊕ ((List (ByteArray×Bool))×(LL)))):=fun s31=>bif decide (s31.2.2<(v27.length:Int)) then Option.bind (gd (decide (0<=s31.2.2/\s31.2.2<(v27.length:Int))) <|Option.bind (cO (s9.2.2.getD (((s9.2.2.length:Int)-(1:Int)).toNat) default) (v27.getD s31.2.2.toNat default)) fun v37=>Option.bind (dB v37) fun v38=>bif !((yR s31.1 v38).getD false) then gd (aS (s31.2.1.length+1) 16) <|some ((wJ s31.1 v38 true),(s31.2.1++[v37])) else some (s31.1,s31.2.1)) fun s35=>gd (L8 .i64 (s31.2.2+(1:Int))) <|some (.inl (s35.1,s35.2,(s31.2.2+(1:Int)))) else some (.inr (.inl (s31.1,s19,s31.2.1)))
def gy:((List (ByteArray×Bool))×(LL)×(List Me))->Option (((List (ByteArray×Bool))×(LL)×(List Me)) ⊕ ((List (ByteArray×Bool))×(LL))):=fun s9=>bif decide ((0:Int)<(s9.2.2.length:Int)) then gd (L8 .i64 ((s9.2.2.length:Int)-(1:Int))) <|gd (decide (0<=((s9.2.2.length:Int)-(1:Int))/\((s9.2.2.length:Int)-(1:Int))<(s9.2.2.length:Int))) <|gd (decide (0<=(0:Int)/\(0:Int)<=((s9.2.2.length:Int)-(1:Int))/\((s9.2.2.length:Int)-(1:Int))<=(s9.2.2.length:Int))) <|Option.bind (Option.bind (dP (s9.2.2.getD (((s9.2.2.length:Int)-(1:Int)).toNat) default)) fun v20=>bif v20 then Option.bind (bB ((s9.2.2.getD (((s9.2.2.length:Int)-(1:Int)).toNat) default).values)) fun v22=>gd (aS (s9.2.1.length+1) 24) <|some (s9.2.1++[v22]) else some s9.2.1) fun s19=>Option.bind (cN (s9.2.2.getD (((s9.2.2.length:Int)-(1:Int)).toNat) default)) fun v27=>loopO (gu s9 s19 v27) (s9.1,((s9.2.2.drop (0:Int).toNat).take (((s9.2.2.length:Int)-(1:Int)).toNat-(0:Int).toNat)),(0:Int)) else some (.inr (s9.1,s9.2.1))
def cA (start:Me):Option ((LL)×Int):= Option.bind (dB start) fun v1=>Option.bind (loopO gy ((wJ ([]:List (ByteArray×Bool)) v1 true),([]:LL),([start]:List Me))) fun s2=>Option.bind (aW s2.2) fun v46=>some (v46,(s2.1.length:Int))
def eF (p:List (List Ma)):Option (LL):= Option.bind (au p) fun v1=>bif !v1 then some ([]:LL) else Option.bind (qV p) fun v3=>Option.bind (cA v3) fun v4=>some v4.1
def kz:((List Mc)×Int)->Option (((List Mc)×Int) ⊕ (List Mc)):=fun s7=>bif decide (s7.2<(3:Int)) then gd (aS (s7.1.length+1) 32) <|gd (L8 .i64 (s7.2+(1:Int))) <|some (.inl ((s7.1++[(⟨(-1:Int),s7.2,s7.2,false,true⟩:Mc)]),(s7.2+(1:Int)))) else some (.inr s7.1)
def jA (p:List (List Ma)) (s24:(List Mc)×Int):((List Mc)×Int)->Option (((List Mc)×Int) ⊕ (List Mc)):=fun s37=>bif decide (s37.2<((p.getD s24.2.toNat default).length:Int)) then Option.bind (gd (decide (0<=s37.2/\s37.2<((p.getD s24.2.toNat default).length:Int))) <|bif ((((p.getD s24.2.toNat default).getD s37.2.toNat default).Op) != (4:Int)) then Option.bind (bN (⟨((p.getD s24.2.toNat default).getD s37.2.toNat default).Op,((p.getD s24.2.toNat default).getD s37.2.toNat default).Loc,((p.getD s24.2.toNat default).getD s37.2.toNat default).Reg,((p.getD s24.2.toNat default).getD s37.2.toNat default).Val⟩:Ma)) fun v46=>Option.bind (aO (⟨((p.getD s24.2.toNat default).getD s37.2.toNat default).Op,((p.getD s24.2.toNat default).getD s37.2.toNat default).Loc,((p.getD s24.2.toNat default).getD s37.2.toNat default).Reg,((p.getD s24.2.toNat default).getD s37.2.toNat default).Val⟩:Ma)) fun v47=>gd (aS (s37.1.length+1) 32) <|some (s37.1++[(⟨s24.2,s37.2,((p.getD s24.2.toNat default).getD s37.2.toNat default).Loc,v46,v47⟩:Mc)]) else some s37.1) fun s43=>gd (L8 .i64 (s37.2+(1:Int))) <|some (.inl (s43,(s37.2+(1:Int)))) else some (.inr s37.1)
def jC (p:List (List Ma)):((List Mc)×Int)->Option (((List Mc)×Int) ⊕ (List Mc)):=fun s24=>bif decide (s24.2<(p.length:Int)) then Option.bind (gd (decide (0<=s24.2/\s24.2<(p.length:Int))) <|loopO (jA p s24) (s24.1,(0:Int))) fun s30=>gd (L8 .i64 (s24.2+(1:Int))) <|some (.inl (s30,(s24.2+(1:Int)))) else some (.inr s24.1)
def kL (p:List (List Ma)):Option (List Mc):= Option.bind (loopO kz (([]:List Mc),(0:Int))) fun s1=>Option.bind (loopO (jC p) (s1,(0:Int))) fun s18=>some s18
def eG (list:List Mc) (loc:Int):((LI)×Int)->Option (((LI)×Int) ⊕ (LI)):=fun s7=>bif decide (s7.2<(list.length:Int)) then Option.bind (gd (decide (0<=s7.2/\s7.2<(list.length:Int))) <|Option.bind (bif (list.getD s7.2.toNat default).Writes then some (((list.getD s7.2.toNat default).Loc)==loc) else some false) fun s15=>bif s15 then gd (aS (s7.1.length+1) 8) <|some (s7.1++[s7.2]) else some s7.1) fun s13=>gd (L8 .i64 (s7.2+(1:Int))) <|some (.inl (s13,(s7.2+(1:Int)))) else some (.inr s7.1)
def cQ (list:List Mc) (loc:Int):Option (LI):= Option.bind (loopO (eG list loc) (([]:LI),(0:Int))) fun s1=>some s1
def dR (k_:Int) (a1:Int):Option Bool:= some (k_==a1)
def bA (s:LI) (f0:Int):Int->Option (Int ⊕ (Unit ⊕ Int)):=fun s4=>bif decide (s4<(s.length:Int)) then gd (decide (0<=s4/\s4<(s.length:Int))) <|Option.bind (dR (s.getD s4.toNat default) f0) fun v8=>bif v8 then some (.inr (.inr s4)) else gd (L8 .i64 (s4+(1:Int))) <|some (.inl (s4+(1:Int))) else some (.inr (.inl ()))
def aU (s:LI) (f0:Int):Option Int:= sumK (loopO (bA s f0) (0:Int)) fun s1=>some (-1:Int)
def aN (del0:Int):((LI)×Int×Int)->Option (((LI)×Int×Int) ⊕ ((LI)×Int)):=fun s10=>bif decide (s10.2.1<(s10.1.length:Int)) then Option.bind (gd (decide (0<=s10.2.1/\s10.2.1<(s10.1.length:Int))) <|Option.bind (dR (s10.1.getD s10.2.1.toNat default) del0) fun v18=>bif !v18 then gd (decide (0<=s10.2.2/\s10.2.2<(s10.1.length:Int))) <|gd (L8 .i64 (s10.2.2+(1:Int))) <|some ((s10.1.set s10.2.2.toNat (s10.1.getD s10.2.1.toNat default)),(s10.2.2+(1:Int))) else some (s10.1,s10.2.2)) fun s16=>gd (L8 .i64 (s10.2.1+(1:Int))) <|some (.inl (s16.1,(s10.2.1+(1:Int)),s16.2)) else some (.inr (s10.1,s10.2.2))
def aG (s:LI) (del0:Int):Option (LI):= Option.bind (aU s del0) fun v1=>bif (v1==(-1:Int)) then some s else Option.bind (gd (L8 .i64 (v1+(1:Int))) <|loopO (aN del0) (s,(v1+(1:Int)),v1)) fun s3=>gd (decide ((0:Int)<=(0:Int)/\(0:Int)<(s3.1.length:Int))) <|gd (decide (0<=s3.2/\s3.2<=(s3.1.length:Int)/\(s3.1.length:Int)<=(s3.1.length:Int))) <|gd (decide (0<=(0:Int)/\(0:Int)<=s3.2/\s3.2<=(s3.1.length:Int))) <|some (((cpy s3.1 (0+s3.2.toNat) (List.replicate ((s3.1.length:Int).toNat-s3.2.toNat) (default:Int)) ((s3.1.length:Int).toNat-s3.2.toNat)).drop (0:Int).toNat).take (s3.2.toNat-(0:Int).toNat))
def aQ (s:LI):Option (LI):= nilK (s.isEmpty) (some ([]:LI)) (gd (aS (([]:LI).length+s.length) 8) <|some (([]:LI)++s))
def jE (writes:LI) (s8:(LL)×Int) (v25:(LL)):((LL)×Int)->Option (((LL)×Int) ⊕ (LL)):=fun s31=>bif decide (s31.2<(v25.length:Int)) then gd (decide (0<=s31.2/\s31.2<(v25.length:Int))) <|gd (aS (([(writes.getD s8.2.toNat default)]:LI).length+(v25.getD s31.2.toNat default).length) 8) <|gd (aS (s31.1.length+1) 24) <|gd (L8 .i64 (s31.2+(1:Int))) <|some (.inl ((s31.1++[(([(writes.getD s8.2.toNat default)]:LI)++(v25.getD s31.2.toNat default))]),(s31.2+(1:Int)))) else some (.inr s31.1)
def gY (rcf:(LI)->Option (LL)) (writes:LI):((LL)×Int)->Option (((LL)×Int) ⊕ (LL)):=fun s8=>bif decide (s8.2<(writes.length:Int)) then Option.bind (gd (decide (0<=s8.2/\s8.2<(writes.length:Int))) <|Option.bind (aQ writes) fun v16=>gd (L8 .i64 (s8.2+(1:Int))) <|Option.bind (kW v16 s8.2 (s8.2+(1:Int))) fun v21=>Option.bind (rcf v21) fun v25=>loopO (jE writes s8 v25) (s8.1,(0:Int))) fun s14=>gd (L8 .i64 (s8.2+(1:Int))) <|some (.inl (s14,(s8.2+(1:Int)))) else some (.inr s8.1)
def dS (rcf:(LI)->Option (LL)) (writes:LI):Option (LL):= bif ((writes.length:Int)==(0:Int)) then some ([([]:LI)]:LL) else Option.bind (loopO (gY rcf writes) (([]:LL),(0:Int))) fun s2=>some s2
def dU:Nat->(LI)->Option (LL)
 | 0=>fun _=>none
 | n+1=>dS (dU n)
def mZ (writes:LI):Option (LL):=Ey fun nf=>dU nf writes
def cE (choices:LL) (s4:Int×(LL)) (s15:(LL)×Int):((LL)×Int)->Option (((LL)×Int) ⊕ (LL)):=fun s28=>bif decide (s28.2<((choices.getD s4.1.toNat default).length:Int)) then gd (decide (0<=s28.2/\s28.2<((choices.getD s4.1.toNat default).length:Int))) <|Option.bind (aQ (s4.2.getD s15.2.toNat default)) fun v35=>gd (aS (v35.length+1) 8) <|gd (aS (s28.1.length+1) 24) <|gd (L8 .i64 (s28.2+(1:Int))) <|some (.inl ((s28.1++[(v35++[((choices.getD s4.1.toNat default).getD s28.2.toNat default)])]),(s28.2+(1:Int)))) else some (.inr s28.1)
def cF (choices:LL) (s4:Int×(LL)):((LL)×Int)->Option (((LL)×Int) ⊕ (LL)):=fun s15=>bif decide (s15.2<(s4.2.length:Int)) then Option.bind (gd (decide (0<=s15.2/\s15.2<(s4.2.length:Int))) <|loopO (cE choices s4 s15) (s15.1,(0:Int))) fun s21=>gd (L8 .i64 (s15.2+(1:Int))) <|some (.inl (s21,(s15.2+(1:Int)))) else some (.inr s15.1)
def jX (choices:LL):(Int×(LL))->Option ((Int×(LL)) ⊕ (LL)):=fun s4=>bif decide (s4.1<(choices.length:Int)) then Option.bind (gd (decide (0<=s4.1/\s4.1<(choices.length:Int))) <|Option.bind (loopO (cF choices s4) (([]:LL),(0:Int))) fun s9=>some s9) fun s7=>gd (L8 .i64 (s4.1+(1:Int))) <|some (.inl ((s4.1+(1:Int)),s7)) else some (.inr s4.2)
def fw (choices:LL):Option (LL):= Option.bind (loopO (jX choices) ((0:Int),([([]:LI)]:LL))) fun s1=>some s1
def iR (s:LL):Option (LL):= nilK (s.isEmpty) (some ([]:LL)) (gd (aS (([]:LL).length+s.length) 24) <|some (([]:LL)++s))
def eH (choices:List (LL)) (s4:Int×(List (LL))) (s15:(List (LL))×Int):((List (LL))×Int)->Option (((List (LL))×Int) ⊕ (List (LL))):=fun s28=>bif decide (s28.2<((choices.getD s4.1.toNat default).length:Int)) then gd (decide (0<=s28.2/\s28.2<((choices.getD s4.1.toNat default).length:Int))) <|Option.bind (iR (s4.2.getD s15.2.toNat default)) fun v35=>gd (aS (v35.length+1) 24) <|gd (aS (s28.1.length+1) 24) <|gd (L8 .i64 (s28.2+(1:Int))) <|some (.inl ((s28.1++[(v35++[((choices.getD s4.1.toNat default).getD s28.2.toNat default)])]),(s28.2+(1:Int)))) else some (.inr s28.1)
def eM (choices:List (LL)) (s4:Int×(List (LL))):((List (LL))×Int)->Option (((List (LL))×Int) ⊕ (List (LL))):=fun s15=>bif decide (s15.2<(s4.2.length:Int)) then Option.bind (gd (decide (0<=s15.2/\s15.2<(s4.2.length:Int))) <|loopO (eH choices s4 s15) (s15.1,(0:Int))) fun s21=>gd (L8 .i64 (s15.2+(1:Int))) <|some (.inl (s21,(s15.2+(1:Int)))) else some (.inr s15.1)
def lH (choices:List (LL)):(Int×(List (LL)))->Option ((Int×(List (LL))) ⊕ (List (LL))):=fun s4=>bif decide (s4.1<(choices.length:Int)) then Option.bind (gd (decide (0<=s4.1/\s4.1<(choices.length:Int))) <|Option.bind (loopO (eM choices s4) (([]:List (LL)),(0:Int))) fun s9=>some s9) fun s7=>gd (L8 .i64 (s4.1+(1:Int))) <|some (.inl ((s4.1+(1:Int)),s7)) else some (.inr s4.2)
def fI (choices:List (LL)):Option (List (LL)):= Option.bind (loopO (lH choices) ((0:Int),([([]:LL)]:List (LL)))) fun s1=>some s1
def iq (x:Mb):((LL)×Int)->Option (((LL)×Int) ⊕ (LL)):=fun s7=>bif decide (s7.2<(x.Order.length:Int)) then gd (decide (0<=s7.2/\s7.2<(x.Order.length:Int))) <|Option.bind (aQ (x.Order.getD s7.2.toNat default)) fun v12=>gd (decide (0<=s7.2/\s7.2<(s7.1.length:Int))) <|gd (L8 .i64 (s7.2+(1:Int))) <|some (.inl ((s7.1.set s7.2.toNat v12),(s7.2+(1:Int)))) else some (.inr s7.1)
def eX (x:Mb):Option Mb:= Option.bind (aQ x.From) fun v1=>gd (decide (0<=(x.Order.length:Int)/\(x.Order.length:Int)<=(x.Order.length:Int)/\(x.Order.length:Int)*((24:Nat):Int)<=140737488355328/\(x.Order.length:Int)<=140737488355328)) <|Option.bind (loopO (iq x) ((List.replicate (x.Order.length:Int).toNat ([]:LI)),(0:Int))) fun s3=>some (⟨v1,s3⟩:Mb)
def fA (v1:(List Mc)):((LL)×Int)->Option (((LL)×Int) ⊕ (LL)):=fun s8=>bif decide (s8.2<(v1.length:Int)) then gd (decide (0<=s8.2/\s8.2<(v1.length:Int))) <|Option.bind (bif (⟨(v1.getD s8.2.toNat default).Thread,(v1.getD s8.2.toNat default).Index,(v1.getD s8.2.toNat default).Loc,(v1.getD s8.2.toNat default).Reads,(v1.getD s8.2.toNat default).Writes⟩:Mc).Reads then Option.bind (cQ v1 ((⟨(v1.getD s8.2.toNat default).Thread,(v1.getD s8.2.toNat default).Index,(v1.getD s8.2.toNat default).Loc,(v1.getD s8.2.toNat default).Reads,(v1.getD s8.2.toNat default).Writes⟩:Mc).Loc)) fun v17=>Option.bind (aG v17 s8.2) fun v21=>some v21 else some ([(-1:Int)]:LI)) fun s15=>gd (aS (s8.1.length+1) 24) <|gd (L8 .i64 (s8.2+(1:Int))) <|some (.inl ((s8.1++[s15]),(s8.2+(1:Int)))) else some (.inr s8.1)
def eO (s36:(List (LL))×Int) (v46:(LL)):((LL)×Int)->Option (((LL)×Int) ⊕ (LL)):=fun s52=>bif decide (s52.2<(v46.length:Int)) then gd (decide (0<=s52.2/\s52.2<(v46.length:Int))) <|gd (aS (([s36.2]:LI).length+(v46.getD s52.2.toNat default).length) 8) <|gd (aS (s52.1.length+1) 24) <|gd (L8 .i64 (s52.2+(1:Int))) <|some (.inl ((s52.1++[(([s36.2]:LI)++(v46.getD s52.2.toNat default))]),(s52.2+(1:Int)))) else some (.inr s52.1)
def eP (v1:(List Mc)):((List (LL))×Int)->Option (((List (LL))×Int) ⊕ (List (LL))):=fun s36=>bif decide (s36.2<(3:Int)) then Option.bind (Option.bind (Option.bind (cQ v1 s36.2) fun v44=>gd (decide (0<=(1:Int)/\(1:Int)<=(v44.length:Int)/\(v44.length:Int)<=(v44.length:Int))) <|Option.bind (mZ ((v44.drop (1:Int).toNat).take ((v44.length:Int).toNat-(1:Int).toNat))) fun v46=>loopO (eO s36 v46) (([]:LL),(0:Int))) fun s43=>gd (aS (s36.1.length+1) 24) <|some (s36.1++[s43])) fun s42=>gd (L8 .i64 (s36.2+(1:Int))) <|some (.inl (s42,(s36.2+(1:Int)))) else some (.inr s36.1)
def bX (v72:(LL)) (s78:(List Mb)×Int) (v86:(List (LL))):((List Mb)×Int)->Option (((List Mb)×Int) ⊕ (List Mb)):=fun s92=>bif decide (s92.2<(v86.length:Int)) then gd (decide (0<=s92.2/\s92.2<(v86.length:Int))) <|Option.bind (eX (⟨(v72.getD s78.2.toNat default),(v86.getD s92.2.toNat default)⟩:Mb)) fun v99=>gd (aS (s92.1.length+1) 48) <|gd (L8 .i64 (s92.2+(1:Int))) <|some (.inl ((s92.1++[v99]),(s92.2+(1:Int)))) else some (.inr s92.1)
def bY (s30:(List (LL))) (v72:(LL)):((List Mb)×Int)->Option (((List Mb)×Int) ⊕ (List Mb)):=fun s78=>bif decide (s78.2<(v72.length:Int)) then Option.bind (gd (decide (0<=s78.2/\s78.2<(v72.length:Int))) <|Option.bind (fI s30) fun v86=>loopO (bX v72 s78 v86) (s78.1,(0:Int))) fun s84=>gd (L8 .i64 (s78.2+(1:Int))) <|some (.inl (s84,(s78.2+(1:Int)))) else some (.inr s78.1)
def iS (p:List (List Ma)):Option (List Mb):= Option.bind (kL p) fun v1=>Option.bind (loopO (fA v1) (([]:LL),(0:Int))) fun s2=>Option.bind (loopO (eP v1) (([]:List (LL)),(0:Int))) fun s30=>Option.bind (Option.bind (fw s2) fun v72=>loopO (bY s30 v72) (([]:List Mb),(0:Int))) fun s71=>some s71
def iT (p:List (List Ma)) (s13:(LL)×Int×Int):((LL)×Int×Int)->Option (((LL)×Int×Int) ⊕ ((LL)×Int)):=fun s32=>bif decide (s32.2.1<((p.getD s13.2.1.toNat default).length:Int)) then Option.bind (gd (decide (0<=s32.2.1/\s32.2.1<((p.getD s13.2.1.toNat default).length:Int))) <|bif ((((p.getD s13.2.1.toNat default).getD s32.2.1.toNat default).Op)==(4:Int)) then gd (decide (0<=s13.2.1/\s13.2.1<(s32.1.length:Int))) <|gd (aS ((s32.1.getD s13.2.1.toNat []).length+1) 8) <|some ((s32.1.set s13.2.1.toNat ((s32.1.getD s13.2.1.toNat [])++[(-1:Int)])),s32.2.2) else gd (decide (0<=s13.2.1/\s13.2.1<(s32.1.length:Int))) <|gd (aS ((s32.1.getD s13.2.1.toNat []).length+1) 8) <|gd (L8 .i64 (s32.2.2+(1:Int))) <|some ((s32.1.set s13.2.1.toNat ((s32.1.getD s13.2.1.toNat [])++[s32.2.2])),(s32.2.2+(1:Int)))) fun s39=>gd (L8 .i64 (s32.2.1+(1:Int))) <|some (.inl (s39.1,(s32.2.1+(1:Int)),s39.2)) else some (.inr (s32.1,s32.2.2))
def iU (p:List (List Ma)):((LL)×Int×Int)->Option (((LL)×Int×Int) ⊕ (LL)):=fun s13=>bif decide (s13.2.1<(p.length:Int)) then Option.bind (gd (decide (0<=s13.2.1/\s13.2.1<(p.length:Int))) <|loopO (iT p s13) (s13.1,(0:Int),s13.2.2)) fun s20=>gd (L8 .i64 (s13.2.1+(1:Int))) <|some (.inl (s20.1,(s13.2.1+(1:Int)),s20.2)) else some (.inr s13.1)
def jK (p:List (List Ma)):Option (LL):= gd (decide (0<=(p.length:Int)/\(p.length:Int)<=(p.length:Int)/\(p.length:Int)*((24:Nat):Int)<=140737488355328/\(p.length:Int)<=140737488355328)) <|Option.bind (loopO (iU p) ((List.replicate (p.length:Int).toNat ([]:LI)),(0:Int),(3:Int))) fun s2=>some s2
def jv (s:ZTv) (pc:Z3i) (loc:Int) (s4:Int×Int):(Int×Int)->Option ((Int×Int) ⊕ Int):=fun s13=>bif decide (s13.1<((((s.p.getD s4.1.toNat default).drop (0:Int).toNat).take ((Z3i.get pc s4.1).toNat-(0:Int).toNat)).length:Int)) then Option.bind (gd (decide (0<=s13.1/\s13.1<((((s.p.getD s4.1.toNat default).drop (0:Int).toNat).take ((Z3i.get pc s4.1).toNat-(0:Int).toNat)).length:Int))) <|Option.bind (aO (⟨((((s.p.getD s4.1.toNat default).drop (0:Int).toNat).take ((Z3i.get pc s4.1).toNat-(0:Int).toNat)).getD s13.1.toNat default).Op,((((s.p.getD s4.1.toNat default).drop (0:Int).toNat).take ((Z3i.get pc s4.1).toNat-(0:Int).toNat)).getD s13.1.toNat default).Loc,((((s.p.getD s4.1.toNat default).drop (0:Int).toNat).take ((Z3i.get pc s4.1).toNat-(0:Int).toNat)).getD s13.1.toNat default).Reg,((((s.p.getD s4.1.toNat default).drop (0:Int).toNat).take ((Z3i.get pc s4.1).toNat-(0:Int).toNat)).getD s13.1.toNat default).Val⟩:Ma)) fun v18=>Option.bind (bif v18 then some ((((((s.p.getD s4.1.toNat default).drop (0:Int).toNat).take ((Z3i.get pc s4.1).toNat-(0:Int).toNat)).getD s13.1.toNat default).Loc)==loc) else some false) fun s19=>bif s19 then gd (L8 .i64 (s13.2+(1:Int))) <|some (s13.2+(1:Int)) else some s13.2) fun s16=>gd (L8 .i64 (s13.1+(1:Int))) <|some (.inl ((s13.1+(1:Int)),s16)) else some (.inr s13.2)
def jY (s:ZTv) (pc:Z3i) (loc:Int):(Int×Int)->Option ((Int×Int) ⊕ Int):=fun s4=>bif decide (s4.1<(s.p.length:Int)) then Option.bind (gd (decide (0<=s4.1/\s4.1<(s.p.length:Int))) <|gd (decide (0<=s4.1/\s4.1<3)) <|gd (decide (0<=(0:Int)/\(0:Int)<=(Z3i.get pc s4.1)/\(Z3i.get pc s4.1)<=((s.p.getD s4.1.toNat default).length:Int))) <|loopO (jv s pc loc s4) ((0:Int),s4.2)) fun s7=>gd (L8 .i64 (s4.1+(1:Int))) <|some (.inl ((s4.1+(1:Int)),s7)) else some (.inr s4.2)
def fB (s:ZTv) (pc:Z3i) (loc:Int):Option Int:= Option.bind (loopO (jY s pc loc) ((0:Int),(0:Int))) fun s1=>some s1
def f8 (s:ZTv) (pc:Z3i) (t:Int):Option Bool:= gd (decide (0<=t/\t<3)) <|gd (decide (0<=t/\t<(s.p.length:Int))) <|bif ((Z3i.get pc t)==((s.p.getD t.toNat default).length:Int)) then some false else gd (decide (0<=(Z3i.get pc t)/\(Z3i.get pc t)<((s.p.getD t.toNat default).length:Int))) <|gd (decide (0<=t/\t<(s.number.length:Int))) <|gd (decide (0<=(Z3i.get pc t)/\(Z3i.get pc t)<((s.number.getD t.toNat default).length:Int))) <|bif ((((s.p.getD t.toNat default).getD (Z3i.get pc t).toNat default).Op)==(4:Int)) then some true else gd (decide (0<=((s.p.getD t.toNat default).getD (Z3i.get pc t).toNat default).Loc/\((s.p.getD t.toNat default).getD (Z3i.get pc t).toNat default).Loc<(s.x.Order.length:Int))) <|Option.bind (fB s pc (((s.p.getD t.toNat default).getD (Z3i.get pc t).toNat default).Loc)) fun v9=>Option.bind (Option.bind (bN (⟨((s.p.getD t.toNat default).getD (Z3i.get pc t).toNat default).Op,((s.p.getD t.toNat default).getD (Z3i.get pc t).toNat default).Loc,((s.p.getD t.toNat default).getD (Z3i.get pc t).toNat default).Reg,((s.p.getD t.toNat default).getD (Z3i.get pc t).toNat default).Val⟩:Ma)) fun v11=>bif !v11 then Option.bind (aO (⟨((s.p.getD t.toNat default).getD (Z3i.get pc t).toNat default).Op,((s.p.getD t.toNat default).getD (Z3i.get pc t).toNat default).Loc,((s.p.getD t.toNat default).getD (Z3i.get pc t).toNat default).Reg,((s.p.getD t.toNat default).getD (Z3i.get pc t).toNat default).Val⟩:Ma)) fun v13=>bif !v13 then some true else gd (L8 .i64 (v9+(1:Int))) <|gd (decide (0<=(v9+(1:Int))/\(v9+(1:Int))<((s.x.Order.getD (((s.p.getD t.toNat default).getD (Z3i.get pc t).toNat default).Loc).toNat default).length:Int))) <|some (((s.x.Order.getD (((s.p.getD t.toNat default).getD (Z3i.get pc t).toNat default).Loc).toNat default).getD (v9+(1:Int)).toNat default)==((s.number.getD t.toNat default).getD (Z3i.get pc t).toNat default)) else gd (decide (0<=((s.number.getD t.toNat default).getD (Z3i.get pc t).toNat default)/\((s.number.getD t.toNat default).getD (Z3i.get pc t).toNat default)<(s.x.From.length:Int))) <|gd (decide (0<=v9/\v9<((s.x.Order.getD (((s.p.getD t.toNat default).getD (Z3i.get pc t).toNat default).Loc).toNat default).length:Int))) <|bif ((s.x.From.getD ((s.number.getD t.toNat default).getD (Z3i.get pc t).toNat default).toNat default)==((s.x.Order.getD (((s.p.getD t.toNat default).getD (Z3i.get pc t).toNat default).Loc).toNat default).getD v9.toNat default)) then Option.bind (aO (⟨((s.p.getD t.toNat default).getD (Z3i.get pc t).toNat default).Op,((s.p.getD t.toNat default).getD (Z3i.get pc t).toNat default).Loc,((s.p.getD t.toNat default).getD (Z3i.get pc t).toNat default).Reg,((s.p.getD t.toNat default).getD (Z3i.get pc t).toNat default).Val⟩:Ma)) fun v20=>bif !v20 then some true else gd (L8 .i64 (v9+(1:Int))) <|gd (decide (0<=(v9+(1:Int))/\(v9+(1:Int))<((s.x.Order.getD (((s.p.getD t.toNat default).getD (Z3i.get pc t).toNat default).Loc).toNat default).length:Int))) <|some (((s.x.Order.getD (((s.p.getD t.toNat default).getD (Z3i.get pc t).toNat default).Loc).toNat default).getD (v9+(1:Int)).toNat default)==((s.number.getD t.toNat default).getD (Z3i.get pc t).toNat default)) else some false) fun s10=>some s10
def fJ (s:ZTr) (pc:Z3i):(Int×Bool)->Option ((Int×Bool) ⊕ Bool):=fun s5=>bif decide (s5.1<(s.p.length:Int)) then Option.bind (bif s5.2 then gd (decide (0<=s5.1/\s5.1<3)) <|gd (decide (0<=s5.1/\s5.1<(s.p.length:Int))) <|some ((Z3i.get pc s5.1)==((s.p.getD s5.1.toNat default).length:Int)) else some false) fun s8=>gd (L8 .i64 (s5.1+(1:Int))) <|some (.inl ((s5.1+(1:Int)),s8)) else some (.inr s5.2)
def bK (rcf:ZTr->Z3i->Option (ZTr×Bool)) (s:ZTr) (pc:Z3i):((List (List Ma))×(LI)×(LL)×(LL)×(LI)×(List ((Int×Int×Int)×Bool))×Int)->Option (((List (List Ma))×(LI)×(LL)×(LL)×(LI)×(List ((Int×Int×Int)×Bool))×Int) ⊕ (((List (List Ma))×(LI)×(LL)×(LL)×(LI)×(List ((Int×Int×Int)×Bool))) ⊕ (ZTr×Bool))):=fun s18=>bif decide (s18.2.2.2.2.2.2<(s.p.length:Int)) then sumK (Option.bind (f8 (⟨s18.1,(⟨s18.2.1,s18.2.2.1⟩:Mb),s18.2.2.2.1⟩:ZTv) pc s18.2.2.2.2.2.2) fun v23=>bif !v23 then some (.inl (s18.1,s18.2.1,s18.2.2.1,s18.2.2.2.1,s18.2.2.2.2.1,s18.2.2.2.2.2.1)) else gd (decide (0<=s18.2.2.2.2.2.2/\s18.2.2.2.2.2.2<3)) <|gd (L8 .i64 ((Z3i.get pc s18.2.2.2.2.2.2)+(1:Int))) <|gd (aS (s18.2.2.2.2.1.length+1) 8) <|Option.bind (rcf (⟨s18.1,(⟨s18.2.1,s18.2.2.1⟩:Mb),s18.2.2.2.1,(s18.2.2.2.2.1++[s18.2.2.2.2.2.2]),s18.2.2.2.2.2.1⟩:ZTr) (Z3i.set pc s18.2.2.2.2.2.2 ((Z3i.get pc s18.2.2.2.2.2.2)+(1:Int)))) fun v28=>bif v28.2 then some (.inr (.inr (.inr ((⟨v28.1.p,(⟨v28.1.x.From,v28.1.x.Order⟩:Mb),v28.1.number,v28.1.schedule,v28.1.failed⟩:ZTr),true)))) else gd (L8 .i64 ((v28.1.schedule.length:Int)-(1:Int))) <|gd (decide (0<=(0:Int)/\(0:Int)<=((v28.1.schedule.length:Int)-(1:Int))/\((v28.1.schedule.length:Int)-(1:Int))<=(v28.1.schedule.length:Int))) <|some (.inl (v28.1.p,v28.1.x.From,v28.1.x.Order,v28.1.number,((v28.1.schedule.drop (0:Int).toNat).take (((v28.1.schedule.length:Int)-(1:Int)).toNat-(0:Int).toNat)),v28.1.failed))) fun s22=>gd (L8 .i64 (s18.2.2.2.2.2.2+(1:Int))) <|some (.inl (s22.1,s22.2.1,s22.2.2.1,s22.2.2.2.1,s22.2.2.2.2.1,s22.2.2.2.2.2,(s18.2.2.2.2.2.2+(1:Int)))) else some (.inr (.inl (s18.1,s18.2.1,s18.2.2.1,s18.2.2.2.1,s18.2.2.2.2.1,s18.2.2.2.2.2.1)))
def aR (rcf:ZTr->Z3i->Option (ZTr×Bool)) (s:ZTr) (pc:Z3i):Option (ZTr×Bool):= bif ((yR s.failed (pc.x0,pc.x1,pc.x2)).getD false) then some ((⟨s.p,(⟨s.x.From,s.x.Order⟩:Mb),s.number,s.schedule,s.failed⟩:ZTr),false) else Option.bind (loopO (fJ s pc) ((0:Int),true)) fun s2=>bif s2 then some ((⟨s.p,(⟨s.x.From,s.x.Order⟩:Mb),s.number,s.schedule,s.failed⟩:ZTr),true) else sumK (loopO (bK rcf s pc) (s.p,s.x.From,s.x.Order,s.number,s.schedule,s.failed,(0:Int))) fun s14=>some ((⟨s14.1,(⟨s14.2.1,s14.2.2.1⟩:Mb),s14.2.2.2.1,s14.2.2.2.2.1,(wJ s14.2.2.2.2.2 (pc.x0,pc.x1,pc.x2) true)⟩:ZTr),false)
def az:Nat->ZTr->Z3i->Option (ZTr×Bool)
 | 0=>fun _ _=>none
 | n+1=>aR (az n)
def fD (s:ZTr) (pc:Z3i):Option (ZTr×Bool):=Ey fun nf=>az nf s pc
def bg (p:List (List Ma)) (x:Mb):Option ((LI)×Bool):= Option.bind (jK p) fun v1=>Option.bind (fD (⟨p,(⟨x.From,x.Order⟩:Mb),v1,([]:LI),([]:List ((Int×Int×Int)×Bool))⟩:ZTr) (⟨(0:Int),(0:Int),(0:Int)⟩:Z3i)) fun v2=>bif !v2.2 then some (([]:LI),false) else some (v2.1.schedule,true)
def gB (p:List (List Ma)) (v4:(List Mb)):((LL)×Int)->Option (((LL)×Int) ⊕ (LL)):=fun s10=>bif decide (s10.2<(v4.length:Int)) then Option.bind (gd (decide (0<=s10.2/\s10.2<(v4.length:Int))) <|Option.bind (bg p (⟨(v4.getD s10.2.toNat default).From,(v4.getD s10.2.toNat default).Order⟩:Mb)) fun v18=>bif v18.2 then gd (aS (s10.1.length+1) 24) <|some (s10.1++[v18.1]) else some s10.1) fun s16=>gd (L8 .i64 (s10.2+(1:Int))) <|some (.inl (s16,(s10.2+(1:Int)))) else some (.inr s10.1)
def cT (p:List (List Ma)):Option (LL):= Option.bind (au p) fun v1=>bif !v1 then some ([]:LL) else Option.bind (Option.bind (iS p) fun v4=>loopO (gB p v4) (([]:LL),(0:Int))) fun s3=>Option.bind (aW s3) fun v28=>some v28
def dF (x:Ma):Option Bool:= Option.bind (bif (x.Op==(1:Int)) then some true else some (x.Op==(5:Int))) fun s1=>some s1
def bZ (x:Ma):Option Bool:= Option.bind (bif (x.Op==(2:Int)) then some true else some (x.Op==(3:Int))) fun s1=>Option.bind (bif s1 then some true else some (x.Op==(5:Int))) fun s3=>some s3
def iV:((List Mc)×Int)->Option (((List Mc)×Int) ⊕ (List Mc)):=fun s5=>bif decide (s5.2<=(2:Int)) then gd (aS (s5.1.length+1) 32) <|gd (L8 .i64 (s5.2+(1:Int))) <|some (.inl ((s5.1++[(⟨(-1:Int),s5.2,s5.2,false,true⟩:Mc)]),(s5.2+(1:Int)))) else some (.inr s5.1)
def iw (p:List (List Ma)) (s16:(List Mc)×Int):((List Mc)×Int)->Option (((List Mc)×Int) ⊕ (List Mc)):=fun s24=>gd (decide (0<=s16.2/\s16.2<(p.length:Int))) <|bif decide (s24.2<((p.getD s16.2.toNat default).length:Int)) then Option.bind (gd (decide (0<=s24.2/\s24.2<((p.getD s16.2.toNat default).length:Int))) <|bif ((((p.getD s16.2.toNat default).getD s24.2.toNat default).Op) != (4:Int)) then Option.bind (dF (⟨((p.getD s16.2.toNat default).getD s24.2.toNat default).Op,((p.getD s16.2.toNat default).getD s24.2.toNat default).Loc,((p.getD s16.2.toNat default).getD s24.2.toNat default).Reg,((p.getD s16.2.toNat default).getD s24.2.toNat default).Val⟩:Ma)) fun v32=>Option.bind (bZ (⟨((p.getD s16.2.toNat default).getD s24.2.toNat default).Op,((p.getD s16.2.toNat default).getD s24.2.toNat default).Loc,((p.getD s16.2.toNat default).getD s24.2.toNat default).Reg,((p.getD s16.2.toNat default).getD s24.2.toNat default).Val⟩:Ma)) fun v33=>gd (aS (s24.1.length+1) 32) <|some (s24.1++[(⟨s16.2,s24.2,((p.getD s16.2.toNat default).getD s24.2.toNat default).Loc,v32,v33⟩:Mc)]) else some s24.1) fun s29=>gd (L8 .i64 (s24.2+(1:Int))) <|some (.inl (s29,(s24.2+(1:Int)))) else some (.inr s24.1)
def iy (p:List (List Ma)):((List Mc)×Int)->Option (((List Mc)×Int) ⊕ (List Mc)):=fun s16=>bif decide (s16.2<(p.length:Int)) then Option.bind (loopO (iw p s16) (s16.1,(0:Int))) fun s20=>gd (L8 .i64 (s16.2+(1:Int))) <|some (.inl (s20,(s16.2+(1:Int)))) else some (.inr s16.1)
def dV (p:List (List Ma)):Option (List Mc):= Option.bind (loopO iV (([]:List Mc),(0:Int))) fun s1=>Option.bind (loopO (iy p) (s1,(0:Int))) fun s12=>some s12
def iz (events:List Mc) (loc:Int):((LI)×Int)->Option (((LI)×Int) ⊕ (LI)):=fun s5=>bif decide (s5.2<(events.length:Int)) then Option.bind (gd (decide (0<=s5.2/\s5.2<(events.length:Int))) <|Option.bind (bif (events.getD s5.2.toNat default).Writes then some (((events.getD s5.2.toNat default).Loc)==loc) else some false) fun s11=>bif s11 then gd (aS (s5.1.length+1) 8) <|some (s5.1++[s5.2]) else some s5.1) fun s9=>gd (L8 .i64 (s5.2+(1:Int))) <|some (.inl (s9,(s5.2+(1:Int)))) else some (.inr s5.1)
def cV (events:List Mc) (loc:Int):Option (LI):= Option.bind (loopO (iz events loc) (([]:LI),(0:Int))) fun s1=>some s1
def db (i:Int) (v3:(LL)) (s4:(LI)) (s12:(LL)×Int):((LL)×Int)->Option (((LL)×Int) ⊕ (LL)):=fun s20=>Option.bind (bif decide (s20.2<(v3.length:Int)) then gd (decide (0<=s12.2/\s12.2<(s4.length:Int))) <|some ((s4.getD s12.2.toNat default) != i) else some false) fun s23=>bif s23 then gd (decide (0<=s12.2/\s12.2<(s4.length:Int))) <|gd (decide (0<=s20.2/\s20.2<(v3.length:Int))) <|gd (aS (([(s4.getD s12.2.toNat default)]:LI).length+(v3.getD s20.2.toNat default).length) 8) <|gd (aS (s20.1.length+1) 24) <|gd (L8 .i64 (s20.2+(1:Int))) <|some (.inl ((s20.1++[(([(s4.getD s12.2.toNat default)]:LI)++(v3.getD s20.2.toNat default))]),(s20.2+(1:Int)))) else some (.inr s20.1)
def df (i:Int) (v3:(LL)) (s4:(LI)):((LL)×Int)->Option (((LL)×Int) ⊕ (LL)):=fun s12=>bif decide (s12.2<(s4.length:Int)) then Option.bind (loopO (db i v3 s4 s12) (s12.1,(0:Int))) fun s16=>gd (L8 .i64 (s12.2+(1:Int))) <|some (.inl (s16,(s12.2+(1:Int)))) else some (.inr s12.1)
def cW (rcf:(List Mc)->Int->Option (LL)) (events:List Mc) (i:Int):Option (LL):= bif (i==(events.length:Int)) then some ([([]:LI)]:LL) else gd (L8 .i64 (i+(1:Int))) <|Option.bind (rcf events (i+(1:Int))) fun v3=>Option.bind (gd (decide (0<=i/\i<(events.length:Int))) <|bif (events.getD i.toNat default).Reads then Option.bind (cV events ((events.getD i.toNat default).Loc)) fun v7=>some v7 else some ([(-1:Int)]:LI)) fun s4=>Option.bind (loopO (df i v3 s4) (([]:LL),(0:Int))) fun s8=>some s8
def eY:Nat->(List Mc)->Int->Option (LL)
 | 0=>fun _ _=>none
 | n+1=>cW (eY n)
def l5 (events:List Mc) (i:Int):Option (LL):=Ey fun nf=>eY nf events i
def iW (list:LI) (s6:(LL)×Int) (v16:(LL)):((LL)×Int)->Option (((LL)×Int) ⊕ (LL)):=fun s20=>bif decide (s20.2<(v16.length:Int)) then gd (decide (0<=s6.2/\s6.2<(list.length:Int))) <|gd (decide (0<=s20.2/\s20.2<(v16.length:Int))) <|gd (aS (([(list.getD s6.2.toNat default)]:LI).length+(v16.getD s20.2.toNat default).length) 8) <|gd (aS (s20.1.length+1) 24) <|gd (L8 .i64 (s20.2+(1:Int))) <|some (.inl ((s20.1++[(([(list.getD s6.2.toNat default)]:LI)++(v16.getD s20.2.toNat default))]),(s20.2+(1:Int)))) else some (.inr s20.1)
def f9 (rcf:(LI)->Option (LL)) (list:LI):((LL)×Int)->Option (((LL)×Int) ⊕ (LL)):=fun s6=>bif decide (s6.2<(list.length:Int)) then Option.bind (gd (decide (0<=(0:Int)/\(0:Int)<=s6.2/\s6.2<=(list.length:Int))) <|gd (aS (([]:LI).length+((list.drop (0:Int).toNat).take (s6.2.toNat-(0:Int).toNat)).length) 8) <|gd (L8 .i64 (s6.2+(1:Int))) <|gd (decide (0<=(s6.2+(1:Int))/\(s6.2+(1:Int))<=(list.length:Int)/\(list.length:Int)<=(list.length:Int))) <|gd (aS ((([]:LI)++((list.drop (0:Int).toNat).take (s6.2.toNat-(0:Int).toNat))).length+((list.drop (s6.2+(1:Int)).toNat).take ((list.length:Int).toNat-(s6.2+(1:Int)).toNat)).length) 8) <|Option.bind (rcf ((([]:LI)++((list.drop (0:Int).toNat).take (s6.2.toNat-(0:Int).toNat)))++((list.drop (s6.2+(1:Int)).toNat).take ((list.length:Int).toNat-(s6.2+(1:Int)).toNat)))) fun v16=>loopO (iW list s6 v16) (s6.1,(0:Int))) fun s10=>gd (L8 .i64 (s6.2+(1:Int))) <|some (.inl (s10,(s6.2+(1:Int)))) else some (.inr s6.1)
def cZ (rcf:(LI)->Option (LL)) (list:LI):Option (LL):= bif ((list.length:Int)==(0:Int)) then some ([([]:LI)]:LL) else Option.bind (loopO (f9 rcf list) (([]:LL),(0:Int))) fun s2=>some s2
def da:Nat->(LI)->Option (LL)
 | 0=>fun _=>none
 | n+1=>cZ (da n)
def l6 (list:LI):Option (LL):=Ey fun nf=>da nf list
def cf (v3:(List (LL))) (v4:(LI)) (v6:(LL)) (s11:(List (LL))×Int):((List (LL))×Int)->Option (((List (LL))×Int) ⊕ (List (LL))):=fun s22=>bif decide (s22.2<(v3.length:Int)) then gd (decide (0<=s22.2/\s22.2<(v3.length:Int))) <|gd (aS (([(([(v4.getD (0:Int).toNat default)]:LI)++(v6.getD s11.2.toNat default))]:LL).length+(v3.getD s22.2.toNat default).length) 24) <|gd (aS (s22.1.length+1) 24) <|gd (L8 .i64 (s22.2+(1:Int))) <|some (.inl ((s22.1++[(([(([(v4.getD (0:Int).toNat default)]:LI)++(v6.getD s11.2.toNat default))]:LL)++(v3.getD s22.2.toNat default))]),(s22.2+(1:Int)))) else some (.inr s22.1)
def cg (v3:(List (LL))) (v4:(LI)) (v6:(LL)):((List (LL))×Int)->Option (((List (LL))×Int) ⊕ (List (LL))):=fun s11=>bif decide (s11.2<(v6.length:Int)) then Option.bind (gd (decide (0<=(0:Int)/\(0:Int)<(v4.length:Int))) <|gd (decide (0<=s11.2/\s11.2<(v6.length:Int))) <|gd (aS (([(v4.getD (0:Int).toNat default)]:LI).length+(v6.getD s11.2.toNat default).length) 8) <|loopO (cf v3 v4 v6 s11) (s11.1,(0:Int))) fun s15=>gd (L8 .i64 (s11.2+(1:Int))) <|some (.inl (s15,(s11.2+(1:Int)))) else some (.inr s11.1)
def bW (rcf:(List Mc)->Int->Option (List (LL))) (events:List Mc) (loc:Int):Option (List (LL)):= bif decide ((2:Int)<loc) then some ([([]:LL)]:List (LL)) else gd (L8 .i64 (loc+(1:Int))) <|Option.bind (rcf events (loc+(1:Int))) fun v3=>Option.bind (cV events loc) fun v4=>gd (decide (0<=(1:Int)/\(1:Int)<=(v4.length:Int)/\(v4.length:Int)<=(v4.length:Int))) <|Option.bind (l6 ((v4.drop (1:Int).toNat).take ((v4.length:Int).toNat-(1:Int).toNat))) fun v6=>Option.bind (loopO (cg v3 v4 v6) (([]:List (LL)),(0:Int))) fun s7=>some s7
def dW:Nat->(List Mc)->Int->Option (List (LL))
 | 0=>fun _ _=>none
 | n+1=>bW (dW n)
def kZ (events:List Mc) (loc:Int):Option (List (LL)):=Ey fun nf=>dW nf events loc
def kC (x:Mb):((LL)×Int)->Option (((LL)×Int) ⊕ (LL)):=fun s8=>bif decide (s8.2<(x.Order.length:Int)) then gd (decide (0<=s8.2/\s8.2<(x.Order.length:Int))) <|gd (aS (([]:LI).length+(x.Order.getD s8.2.toNat default).length) 8) <|gd (aS (s8.1.length+1) 24) <|gd (L8 .i64 (s8.2+(1:Int))) <|some (.inl ((s8.1++[(([]:LI)++(x.Order.getD s8.2.toNat default))]),(s8.2+(1:Int)))) else some (.inr s8.1)
def iX (x:Mb):Option Mb:= gd (aS (([]:LI).length+x.From.length) 8) <|Option.bind (loopO (kC x) (([]:LL),(0:Int))) fun s2=>some (⟨(([]:LI)++x.From),s2⟩:Mb)
def eZ (v2:(LL)) (v3:(List (LL))) (s8:(List Mb)×Int):((List Mb)×Int)->Option (((List Mb)×Int) ⊕ (List Mb)):=fun s16=>bif decide (s16.2<(v3.length:Int)) then gd (decide (0<=s8.2/\s8.2<(v2.length:Int))) <|gd (decide (0<=s16.2/\s16.2<(v3.length:Int))) <|Option.bind (iX (⟨(v2.getD s8.2.toNat default),(v3.getD s16.2.toNat default)⟩:Mb)) fun v22=>gd (aS (s16.1.length+1) 48) <|gd (L8 .i64 (s16.2+(1:Int))) <|some (.inl ((s16.1++[v22]),(s16.2+(1:Int)))) else some (.inr s16.1)
def fK (v2:(LL)) (v3:(List (LL))):((List Mb)×Int)->Option (((List Mb)×Int) ⊕ (List Mb)):=fun s8=>bif decide (s8.2<(v2.length:Int)) then Option.bind (loopO (eZ v2 v3 s8) (s8.1,(0:Int))) fun s12=>gd (L8 .i64 (s8.2+(1:Int))) <|some (.inl (s12,(s8.2+(1:Int)))) else some (.inr s8.1)
def lI (p:List (List Ma)):Option (List Mb):= Option.bind (dV p) fun v1=>Option.bind (l5 v1 (0:Int)) fun v2=>Option.bind (kZ v1 (0:Int)) fun v3=>Option.bind (loopO (fK v2 v3) (([]:List Mb),(0:Int))) fun s4=>some s4
def iY (p:List (List Ma)):Option (List Mb):= Option.bind (aV p) fun v1=>bif !v1 then some ([]:List Mb) else Option.bind (lI p) fun v3=>some v3
def mh (list:LI) (n:Int):Int->Option (Int ⊕ (Unit ⊕ Int)):=fun s4=>bif decide (s4<(list.length:Int)) then gd (decide (0<=s4/\s4<(list.length:Int))) <|bif ((list.getD s4.toNat default)==n) then some (.inr (.inr s4)) else gd (L8 .i64 (s4+(1:Int))) <|some (.inl (s4+(1:Int))) else some (.inr (.inl ()))
def gK (list:LI) (n:Int):Option Int:= sumK (loopO (mh list n) (0:Int)) fun s1=>some (-1:Int)
def fL (x:Mb) (loc:Int) (i:Int) (k_:Int):Option Bool:= gd (decide (0<=loc/\loc<(x.Order.length:Int))) <|Option.bind (gK (x.Order.getD loc.toNat default) i) fun v2=>Option.bind (gK (x.Order.getD loc.toNat default) k_) fun v3=>some (decide (v2<v3))
def sF (list:List Ma) (to:Int):Int->Option (Int ⊕ (Unit ⊕ Bool)):=fun s5=>bif decide (s5<to) then gd (decide (0<=s5/\s5<(list.length:Int))) <|bif (((list.getD s5.toNat default).Op)==(4:Int)) then some (.inr (.inr true)) else gd (L8 .i64 (s5+(1:Int))) <|some (.inl (s5+(1:Int))) else some (.inr (.inl ()))
def p5 (list:List Ma) (from_:Int) (to:Int):Option Bool:= sumK (gd (L8 .i64 (from_+(1:Int))) <|loopO (sF list to) (from_+(1:Int))) fun s1=>some false
def kM (p:List (List Ma)) (x:Mb) (events:List Mc) (name:ByteArray) (i:Int) (k_:Int):Option Bool:= gd (decide (0<=i/\i<(events.length:Int))) <|gd (decide (0<=k_/\k_<(events.length:Int))) <|Option.bind (bif (((events.getD i.toNat default).Thread)==((events.getD k_.toNat default).Thread)) then some (decide ((0:Int)<=((events.getD i.toNat default).Thread))) else some false) fun s3=>sumK (bif decide (name=(⟨#[112,111]⟩:ByteArray)) then Option.bind (bif s3 then some (decide (((events.getD i.toNat default).Index)<((events.getD k_.toNat default).Index))) else some false) fun s7=>some (.inr s7) else bif decide (name=(⟨#[108,111,99]⟩:ByteArray)) then some (.inr (((events.getD i.toNat default).Loc)==((events.getD k_.toNat default).Loc))) else bif decide (name=(⟨#[101,120,116]⟩:ByteArray)) then some (.inr (!s3)) else bif decide (name=(⟨#[114,102]⟩:ByteArray)) then Option.bind (bif (events.getD k_.toNat default).Reads then gd (decide (0<=k_/\k_<(x.From.length:Int))) <|some ((x.From.getD k_.toNat default)==i) else some false) fun s12=>some (.inr s12) else bif decide (name=(⟨#[99,111]⟩:ByteArray)) then Option.bind (bif (events.getD i.toNat default).Writes then some ((events.getD k_.toNat default).Writes) else some false) fun s16=>Option.bind (bif s16 then some (((events.getD i.toNat default).Loc)==((events.getD k_.toNat default).Loc)) else some false) fun s18=>Option.bind (bif s18 then Option.bind (fL x ((events.getD i.toNat default).Loc) i k_) fun v22=>some v22 else some false) fun s20=>some (.inr s20) else bif decide (name=(⟨#[102,114]⟩:ByteArray)) then Option.bind (bif (events.getD i.toNat default).Reads then bif (events.getD k_.toNat default).Writes then bif (((events.getD i.toNat default).Loc)==((events.getD k_.toNat default).Loc)) then bif (i != k_) then gd (decide (0<=i/\i<(x.From.length:Int))) <|Option.bind (fL x ((events.getD i.toNat default).Loc) (x.From.getD i.toNat default) k_) fun v30=>some v30 else some false else some false else some false else some false) fun s24=>some (.inr s24) else bif decide (name=(⟨#[102,101,110,99,101]⟩:ByteArray)) then Option.bind (bif s3 then bif decide (((events.getD i.toNat default).Index)<((events.getD k_.toNat default).Index)) then gd (decide (0<=(events.getD i.toNat default).Thread/\(events.getD i.toNat default).Thread<(p.length:Int))) <|Option.bind (p5 (p.getD ((events.getD i.toNat default).Thread).toNat default) ((events.getD i.toNat default).Index) ((events.getD k_.toNat default).Index)) fun v36=>some v36 else some false else some false) fun s32=>some (.inr s32) else bif decide (name=(⟨#[119,114]⟩:ByteArray)) then Option.bind (bif (events.getD i.toNat default).Writes then some (!((events.getD i.toNat default).Reads)) else some false) fun s38=>Option.bind (bif s38 then some ((events.getD k_.toNat default).Reads) else some false) fun s40=>Option.bind (bif s40 then some (!((events.getD k_.toNat default).Writes)) else some false) fun s42=>some (.inr s42) else bif decide (name=(⟨#[119,119]⟩:ByteArray)) then Option.bind (bif (events.getD i.toNat default).Writes then some (!((events.getD i.toNat default).Reads)) else some false) fun s45=>Option.bind (bif s45 then some ((events.getD k_.toNat default).Writes) else some false) fun s47=>Option.bind (bif s47 then some (!((events.getD k_.toNat default).Reads)) else some false) fun s49=>some (.inr s49) else some (.inl ())) fun s5=>Option.bind (bif decide (name=(⟨#[105,100]⟩:ByteArray)) then some (i==k_) else some false) fun s51=>some s51
def nH (p:List (List Ma)) (x:Mb) (name:ByteArray) (v1:(List Mc)) (s6:(LI)×Int):(Int×Int)->Option ((Int×Int) ⊕ Int):=fun s14=>bif decide (s14.1<(v1.length:Int)) then Option.bind (Option.bind (kM p x v1 name s6.2 s14.1) fun v18=>bif v18 then gd (decide (0<=s14.1)) <|some (bOr .i64 s14.2 (IY .i64 (1:Int) s14.1)) else some s14.2) fun s17=>gd (L8 .i64 (s14.1+(1:Int))) <|some (.inl ((s14.1+(1:Int)),s17)) else some (.inr s14.2)
def lc (p:List (List Ma)) (x:Mb) (name:ByteArray) (v1:(List Mc)):((LI)×Int)->Option (((LI)×Int) ⊕ (LI)):=fun s6=>bif decide (s6.2<(v1.length:Int)) then Option.bind (Option.bind (loopO (nH p x name v1 s6) ((0:Int),(0:Int))) fun s11=>gd (aS (s6.1.length+1) 8) <|some (s6.1++[s11])) fun s10=>gd (L8 .i64 (s6.2+(1:Int))) <|some (.inl (s10,(s6.2+(1:Int)))) else some (.inr s6.1)
def fM (p:List (List Ma)) (x:Mb) (name:ByteArray):Option (LI):= Option.bind (dV p) fun v1=>Option.bind (loopO (lc p x name v1) (([]:LI),(0:Int))) fun s2=>some s2
def jG (a:LI) (b:LI):((LI)×Int)->Option (((LI)×Int) ⊕ (LI)):=fun s5=>bif decide (s5.2<(a.length:Int)) then gd (decide (0<=s5.2/\s5.2<(a.length:Int))) <|gd (decide (0<=s5.2/\s5.2<(b.length:Int))) <|gd (aS (s5.1.length+1) 8) <|gd (L8 .i64 (s5.2+(1:Int))) <|some (.inl ((s5.1++[(bOr .i64 (a.getD s5.2.toNat default) (b.getD s5.2.toNat default))]),(s5.2+(1:Int)))) else some (.inr s5.1)
def fe (a:LI) (b:LI):Option (LI):= Option.bind (loopO (jG a b) (([]:LI),(0:Int))) fun s1=>some s1
def gZ (p:List (List Ma)) (x:Mb):Option (LI):= Option.bind (fM p x (⟨#[112,111]⟩:ByteArray)) fun v1=>Option.bind (fM p x (⟨#[114,102]⟩:ByteArray)) fun v2=>Option.bind (fe v1 v2) fun v3=>Option.bind (fM p x (⟨#[99,111]⟩:ByteArray)) fun v4=>Option.bind (fe v3 v4) fun v5=>Option.bind (fM p x (⟨#[102,114]⟩:ByteArray)) fun v6=>Option.bind (fe v5 v6) fun v7=>some v7
def m5 (n:Int):Option Int:= gd (decide (0<=n)) <|gd (L8 .i64 ((IY .i64 (1:Int) n)-(1:Int))) <|some ((IY .i64 (1:Int) n)-(1:Int))
def lJ (events:List Mc) (t:Int) (index:Int):Int->Option (Int ⊕ (Unit ⊕ Int)):=fun s4=>bif decide (s4<(events.length:Int)) then gd (decide (0<=s4/\s4<(events.length:Int))) <|Option.bind (bif (((events.getD s4.toNat default).Thread)==t) then some (((events.getD s4.toNat default).Index)==index) else some false) fun s8=>bif s8 then some (.inr (.inr s4)) else gd (L8 .i64 (s4+(1:Int))) <|some (.inl (s4+(1:Int))) else some (.inr (.inl ()))
def iZ (events:List Mc) (t:Int) (index:Int):Option Int:= sumK (loopO (lJ events t index) (0:Int)) fun s1=>some (-1:Int)
def oF (r_:LI) (i:Int) (k_:Int):Option Bool:= gd (decide (0<=i/\i<(r_.length:Int))) <|gd (decide (0<=k_)) <|some ((J5 .i64 (JQ .i64 (r_.getD i.toNat default) k_) (1:Int))==(1:Int))
def lK (before:LI) (done:Int) (k_:Int):Int->Option (Int ⊕ (Unit ⊕ Bool)):=fun s4=>bif decide (s4<(before.length:Int)) then Option.bind (oF before s4 k_) fun v7=>Option.bind (bif v7 then gd (decide (0<=s4)) <|some ((J5 .i64 (JQ .i64 done s4) (1:Int))==(0:Int)) else some false) fun s8=>bif s8 then some (.inr (.inr false)) else gd (L8 .i64 (s4+(1:Int))) <|some (.inl (s4+(1:Int))) else some (.inr (.inl ()))
def i9 (before:LI) (done:Int) (k_:Int):Option Bool:= sumK (loopO (lK before done k_) (0:Int)) fun s1=>some true
def ja (p:List (List Ma)) (before:LI) (v1:(List Mc)):((LI)×(LI)×Int×Bool×Int)->Option (((LI)×(LI)×Int×Bool×Int) ⊕ (((LI)×(LI)×Bool×Int) ⊕ ((LI)×(LI)))):=fun s18=>Option.bind (bif decide (s18.2.2.1<(p.length:Int)) then some (!s18.2.2.2.1) else some false) fun s22=>bif s22 then Option.bind (gd (decide (0<=s18.2.2.1/\s18.2.2.1<(s18.1.length:Int))) <|gd (decide (0<=s18.2.2.1/\s18.2.2.1<(p.length:Int))) <|bif ((s18.1.getD s18.2.2.1.toNat default)==((p.getD s18.2.2.1.toNat default).length:Int)) then some (s18.1,s18.2.1,s18.2.2.2.1,s18.2.2.2.2) else Option.bind (iZ v1 s18.2.2.1 (s18.1.getD s18.2.2.1.toNat default)) fun v29=>Option.bind (bif decide ((0:Int)<=v29) then Option.bind (i9 before s18.2.2.2.2 v29) fun v32=>some (!v32) else some false) fun s30=>bif s30 then some (s18.1,s18.2.1,s18.2.2.2.1,s18.2.2.2.2) else Option.bind (bif decide ((0:Int)<=v29) then gd (decide (0<=v29)) <|some (bOr .i64 s18.2.2.2.2 (IY .i64 (1:Int) v29)) else some s18.2.2.2.2) fun s34=>gd (L8 .i64 ((s18.1.getD s18.2.2.1.toNat default)+(1:Int))) <|gd (aS (s18.2.1.length+1) 8) <|some ((s18.1.set s18.2.2.1.toNat ((s18.1.getD s18.2.2.1.toNat default)+(1:Int))),(s18.2.1++[s18.2.2.1]),true,s34)) fun s25=>gd (L8 .i64 (s18.2.2.1+(1:Int))) <|some (.inl (s25.1,s25.2.1,(s18.2.2.1+(1:Int)),s25.2.2.1,s25.2.2.2)) else some (.inr (.inl (s18.1,s18.2.1,s18.2.2.2.1,s18.2.2.2.2)))
def jb (p:List (List Ma)) (before:LI) (v1:(List Mc)):((LI)×(LI)×Bool×Int)->Option (((LI)×(LI)×Bool×Int) ⊕ ((LI)×(LI))):=fun s9=>bif s9.2.2.1 then loopO (ja p before v1) (s9.1,s9.2.1,(0:Int),false,s9.2.2.2) else some (.inr (s9.1,s9.2.1))
def lL (p:List (List Ma)) (s4:(LI)×(LI)):Int->Option (Int ⊕ (Unit ⊕ ((LI)×Bool))):=fun s47=>bif decide (s47<(p.length:Int)) then gd (decide (0<=s47/\s47<(s4.1.length:Int))) <|gd (decide (0<=s47/\s47<(p.length:Int))) <|bif decide ((s4.1.getD s47.toNat default)<((p.getD s47.toNat default).length:Int)) then some (.inr (.inr (([]:LI),false))) else gd (L8 .i64 (s47+(1:Int))) <|some (.inl (s47+(1:Int))) else some (.inr (.inl ()))
def dG (p:List (List Ma)) (before:LI):Option ((LI)×Bool):= Option.bind (dV p) fun v1=>gd (decide (0<=(p.length:Int)/\(p.length:Int)<=(p.length:Int)/\(p.length:Int)*((8:Nat):Int)<=140737488355328/\(p.length:Int)<=140737488355328)) <|Option.bind (m5 (3:Int)) fun v3=>Option.bind (loopO (jb p before v1) ((List.replicate (p.length:Int).toNat (default:Int)),([]:LI),true,v3)) fun s4=>sumK (loopO (lL p s4) (0:Int)) fun s44=>some (s4.2,true)
def nI (a:LI) (b:LI):Int->Option (Int ⊕ (Unit ⊕ Int)):=fun s4=>Option.bind (bif decide (s4<(a.length:Int)) then some (decide (s4<(b.length:Int))) else some false) fun s6=>bif s6 then gd (decide (0<=s4/\s4<(a.length:Int))) <|gd (decide (0<=s4/\s4<(b.length:Int))) <|bif decide ((a.getD s4.toNat default)<(b.getD s4.toNat default)) then some (.inr (.inr (-1:Int))) else bif decide ((b.getD s4.toNat default)<(a.getD s4.toNat default)) then some (.inr (.inr (1:Int))) else gd (L8 .i64 (s4+(1:Int))) <|some (.inl (s4+(1:Int))) else some (.inr (.inl ()))
def jc (a:LI) (b:LI):Option Int:= sumK (loopO (nI a b) (0:Int)) fun s1=>some (0:Int)
def oH (list:LL) (o_:LI):Int->Option (Int ⊕ Int):=fun s4=>Option.bind (bif decide (s4<(list.length:Int)) then gd (decide (0<=s4/\s4<(list.length:Int))) <|Option.bind (jc (list.getD s4.toNat default) o_) fun v9=>some (decide (v9<(0:Int))) else some false) fun s6=>bif s6 then gd (L8 .i64 (s4+(1:Int))) <|some (.inl (s4+(1:Int))) else some (.inr s4)
def lM (list:LL) (o_:LI):Option (LL):= Option.bind (loopO (oH list o_) (0:Int)) fun s1=>Option.bind (bif decide (s1<(list.length:Int)) then gd (decide (0<=s1/\s1<(list.length:Int))) <|Option.bind (jc (list.getD s1.toNat default) o_) fun v15=>some (v15==(0:Int)) else some false) fun s12=>bif s12 then some list else gd (decide (0<=(0:Int)/\(0:Int)<=s1/\s1<=(list.length:Int))) <|gd (aS (([]:LL).length+((list.drop (0:Int).toNat).take (s1.toNat-(0:Int).toNat)).length) 24) <|gd (aS ((([]:LL)++((list.drop (0:Int).toNat).take (s1.toNat-(0:Int).toNat))).length+1) 24) <|gd (decide (0<=s1/\s1<=(list.length:Int)/\(list.length:Int)<=(list.length:Int))) <|gd (aS (((([]:LL)++((list.drop (0:Int).toNat).take (s1.toNat-(0:Int).toNat)))++[o_]).length+((list.drop s1.toNat).take ((list.length:Int).toNat-s1.toNat)).length) 24) <|some (((([]:LL)++((list.drop (0:Int).toNat).take (s1.toNat-(0:Int).toNat)))++[o_])++((list.drop s1.toNat).take ((list.length:Int).toNat-s1.toNat)))
def m6 (list:LL) (s:LI):Option (LL):= Option.bind (lM list s) fun v1=>some v1
def iA (p:List (List Ma)) (v1:(List Mb)):(Int×(LL))->Option ((Int×(LL)) ⊕ (LL)):=fun s5=>bif decide (s5.1<(v1.length:Int)) then Option.bind (gd (decide (0<=s5.1/\s5.1<(v1.length:Int))) <|Option.bind (gZ p (v1.getD s5.1.toNat default)) fun v10=>Option.bind (dG p v10) fun v11=>bif v11.2 then Option.bind (m6 s5.2 v11.1) fun v13=>some v13 else some s5.2) fun s8=>gd (L8 .i64 (s5.1+(1:Int))) <|some (.inl ((s5.1+(1:Int)),s8)) else some (.inr s5.2)
def bO (p:List (List Ma)):Option (LL):= Option.bind (iY p) fun v1=>Option.bind (loopO (iA p v1) ((0:Int),([]:LL))) fun s2=>some s2
structure gm where
 From:LI
 Order:LL
instance:Inhabited gm:=⟨⟨default,default⟩⟩
def gm.c (x:gm):List AV:=[eL cI x.From,eL (cL cI) x.Order]
theorem gm.len (x:gm):(gm.c x).length=2:=rfl
theorem gm.isF (x:gm):(gm.c x).all (isF 9)=true:=rfl
structure ZSt where
 at_:LI
 regs:LI
 mem:LI
 buf:LL
instance:Inhabited ZSt:=⟨⟨default,default,default,default⟩⟩
def ZSt.c (x:ZSt):List AV:=[eL cI x.at_,eL cI x.regs,eL cI x.mem,eL (cL cI) x.buf]
theorem ZSt.len (x:ZSt):(ZSt.c x).length=4:=rfl
theorem ZSt.isF (x:ZSt):(ZSt.c x).all (isF 9)=true:=rfl
structure dh where
 p:List (List Ma)
 x:Mb
 events:List Mc
 values:LI
 busy:List Bool
instance:Inhabited dh:=⟨⟨default,default,default,default,default⟩⟩
def dh.c (x:dh):List AV:=[eL (cL Ma.c) x.p,eL cI x.x.From,eL (cL cI) x.x.Order,eL Mc.c x.events,eL cI x.values,eL cB x.busy]
theorem dh.len (x:dh):(dh.c x).length=6:=rfl
theorem dh.isF (x:dh):(dh.c x).all (isF 9)=true:=rfl
def Mg {α:Type} (x:Option α) (P:α->Prop):Prop:=∃ v,x=some v/\P v
section
variable {α β S E:Type} {P:α->Prop} {Q:β->Prop} {x y:Option α}
theorem Mg.pure {v:α} (h:P v):Mg (some v) P:=⟨v,rfl,h⟩
theorem Mg.mono {P':α->Prop} (h:Mg x P) (k:∀ v,P v->P' v):Mg x P':=by
 obtain ⟨v,e,p⟩:=h;exact ⟨v,e,k v p⟩
theorem Mg.bind {o:Option α} {f:α->Option β} (h:Mg o P) (k:∀ v,P v->Mg (f v) Q):Mg (o.bind f) Q:=by
 obtain ⟨v,rfl,p⟩:=h;exact k v p
theorem Mg.gd {b:Bool} (hb:b=true) (h:Mg x P):Mg (gd b x) P:=by rw [kV hb];exact h
theorem Mg.gdD {A:Prop} [Decidable A] (hb:A) (h:Mg x P):Mg (Go.Proofs.YtlmjnhnpahicmaaGreat.gd (decide A) x) P:=Mg.gd (decide_eq_true hb) h
theorem Mg.gdI {n:Int} (hb : -9223372036854775808<=n/\n<=9223372036854775807) (h:Mg x P):Mg (Go.Proofs.YtlmjnhnpahicmaaGreat.gd (L8 .i64 n) x) P:=Mg.gd (Ij hb) h
theorem Mg.gdY {n:Int} (hb:0<=n/\n<=255) (h:Mg x P):Mg (Go.Proofs.YtlmjnhnpahicmaaGreat.gd (L8 .u8 n) x) P:=Mg.gd (J6 hb) h
theorem GX {n m:Nat} (hn:n<=1048576) (hm:Nat.ble m 1000=true):aS n m=true:=by
 have h1:=nlb hm;have h2:n*m<=1048576*1000:=Nat.mul_le_mul hn h1;exact decide_eq_true ⟨by omega,by omega⟩
theorem Mg.gdC {n m:Nat} (hn:n<=1048576) (hm:Nat.ble m 1000=true) (h:Mg x P):Mg (Go.Proofs.YtlmjnhnpahicmaaGreat.gd (aS n m) x) P:=Mg.gd (GX hn hm) h
theorem Mg.bif {b:Bool} (h1:b=true->Mg x P) (h2:b=false->Mg y P):Mg (bif b then x else y) P:=by
 cases b with
 | true=>exact h1 rfl
 | false=>exact h2 rfl
theorem Mg.bifD {A:Prop} [Decidable A] (h1:A->Mg x P) (h2 : ¬ A->Mg y P):Mg (_root_.cond (decide A) x y) P:=
 Mg.bif (fun h=>h1 (of_decide_eq_true h)) (fun h=>h2 (of_decide_eq_false h))
theorem Mg.sum {W:Type} {PS:S->Prop} {PW:W->Prop} {a:Option (S ⊕ W)} {f:S->Option W} (h:Mg a fun z=>match z with
  | .inl s=>PS s
  | .inr w=>PW w) (k:∀ s,PS s->Mg (f s) PW):Mg (sumK a f) PW:=by
 obtain ⟨v,rfl,p⟩:=h
 match v,p with
 | .inl s,p=>exact k s p
 | .inr w,p=>exact ⟨w,rfl,p⟩
theorem Mg.loop {step:S->Option (S ⊕ E)} {R:E->Prop} (J:S->Prop) (mu:S->Nat) {s0:S} (h0:J s0) (h:∀ s,J s->Mg (step s) fun z=>match z with
  | .inl s'=>J s'/\mu s'<mu s
  | .inr x=>R x):Mg (loopO step s0) R:=by
 have key:∀ (n:Nat) (s:S),mu s=n->J s->Mg (loopO step s) R:=by
  intro n
  induction n using Nat.strongRecOn with
  | _ n ih=>
   intro s hs hj;obtain ⟨z,e,hz⟩:=h s hj;rw [pq,e]
   match z,hz with
   | .inl s',hz=>exact ih (mu s') (by omega) s' rfl hz.1
   | .inr x,hz=>exact ⟨x,rfl,hz⟩
 exact key _ s0 rfl h0
theorem Mg.eq {v:α} (h:Mg x (· = v)):x=some v:=by
 obtain ⟨u,e,rfl⟩:=h;exact e
theorem Mg.of {v:α} (h:x=some v) (p:P v):Mg x P:=⟨v,h,p⟩
end
section
variable {α β:Type} {x x' y y':Option α}
end
structure Mac (σ:Type) where
 mv:σ->LI
 af:σ->Int->σ
 ky:σ->ByteArray
 dn:σ->Bool
 oc:σ->LI
section
variable {σ:Type} (M:Mac σ)
inductive Rea (s0:σ):σ->Prop
 | base:Rea s0 s0
 | step {s:σ} {m:Int} (h:Rea s0 s) (hm:m∈M.mv s):Rea s0 (M.af s m)
def KV (s0:σ) (o:LI):Prop:=∃ s,Rea M s0 s/\M.dn s=true/\M.oc s=o
structure Mok (s0:σ) (N:Nat):Prop where
 key:∀ s t,Rea M s0 s->Rea M s0 t->M.ky s=M.ky t->s=t
 cnt:∀ V:List σ,V.Nodup->(∀ v∈V,Rea M s0 v)->V.length<=N
variable {M} {s0:σ} {N:Nat}
def kys (M:Mac σ) (V:List σ):List (ByteArray×Bool):=V.map fun v=>(M.ky v,true)
theorem Ca (V:List σ) (k:ByteArray):(∃ j,qP (kys M V) k=some j)↔∃ v∈V,M.ky v=k:=by
 unfold qP kys;rw [List.map_map]
 cases h:List.findIdx? (fun x=>decide (x=k)) (V.map ((fun x:ByteArray×Bool=>x.1) ∘ fun v=>(M.ky v,true))) with
 | none=>
  rw [List.findIdx?_eq_none_iff] at h;refine ⟨fun ⟨j,hj⟩=>(by cases hj),fun ⟨v,hv,e⟩ => ?_⟩;have := h (M.ky v) (List.mem_map.2 ⟨v,hv,rfl⟩);rw [e] at this;simp at this
 | some j=>
  refine ⟨fun _=>?_,fun _=>⟨j,rfl⟩⟩;obtain ⟨h1,h2,_⟩:=List.findIdx?_eq_some_iff_getElem.1 h;have hj:j<V.length:=by simpa using h1
  refine ⟨V[j],List.getElem_mem hj,?_⟩;simpa using h2
theorem Cb (V:List σ) (k:ByteArray):((yR (kys M V) k).getD false)=true↔∃ v∈V,M.ky v=k:=by
 rw [<- Ca];unfold yR
 cases h:qP (kys M V) k with
 | none=>simp
 | some j=>
  obtain ⟨hj,v,hv⟩:=rU h;rw [Option.bind_some,hv];have : (k,v)∈kys M V:=List.mem_of_getElem? hv;unfold kys at this;obtain ⟨u,_,e⟩:=List.mem_map.1 this;injection e with _ e;subst e;simp
theorem I5 {V:List σ} {s:σ} (h : ¬ ∃ v∈V,M.ky v=M.ky s):wJ (kys M V) (M.ky s) true=kys M (V++[s]):=by
 unfold wJ
 cases hm:qP (kys M V) (M.ky s) with
 | some j=>exact absurd ((Ca V _).1 ⟨j,hm⟩) h
 | none=>simp [kys]
def Done (M:Mac σ) (V:List σ) (outs:LL) (v:σ):Prop:=(∀ m∈M.mv v,M.af v m∈V)/\(M.dn v=true->M.oc v∈outs)
structure Srch (M:Mac σ) (s0:σ) (V stack:List σ) (outs:List (List Int)) (cur:Option (σ×Nat)):Prop where
 rea:∀ v∈V,Rea M s0 v
 base:s0∈V
 nd:V.Nodup
 sub:∀ v∈stack,v∈V
 all:∀ v∈V,v∈stack\/(∃ n,cur=some (v,n))\/Done M V outs v
 out:∀ o∈outs,∃ v∈V,M.dn v=true/\M.oc v=o
 len:outs.length+stack.length<=V.length
 cur_:∀ s n,cur=some (s,n)->s∈V/\(M.dn s=true->M.oc s∈outs)/\∀ j,j<n->∀ m,(M.mv s)[j]? = some m->M.af s m∈V
theorem Srch.start:Srch M s0 [s0] [s0] [] none where
 rea:=fun v hv=>by rw [List.mem_singleton.1 hv];exact .base
 base:=List.mem_singleton.2 rfl
 nd:=by simp
 sub:=fun v hv=>hv
 all:=fun v hv => .inl hv
 out:=nofun
 len:=by simp
 cur_:=nofun
theorem Srch.pop {V stack:List σ} {s:σ} {outs:LL} (h:Srch M s0 V (stack++[s]) outs none) {outs':LL} (ho:outs'=if M.dn s then outs++[M.oc s] else outs):Srch M s0 V stack outs' (some (s,0)) where
 rea:=h.rea
 base:=h.base
 nd:=h.nd
 sub:=fun v hv=>h.sub v (List.mem_append_left _ hv)
 all:=fun v hv=>by
  rcases h.all v hv with h1 | ⟨n,h1⟩ | ⟨h1,h2⟩
  ·rcases List.mem_append.1 h1 with h1 | h1
   ·exact .inl h1
   ·rw [List.mem_singleton.1 h1];exact .inr (.inl ⟨0,rfl⟩)
  ·cases h1
  ·refine .inr (.inr ⟨h1,fun hd=>?_⟩);rw [ho]
   split
   ·exact List.mem_append_left _ (h2 hd)
   ·exact h2 hd
 out:=fun o hm=>by
  rw [ho] at hm
  split at hm
  ·rename_i hd;rcases List.mem_append.1 hm with hm | hm
   ·exact h.out o hm
   ·rw [List.mem_singleton.1 hm];exact ⟨s,h.sub s (List.mem_append_right _ (List.mem_singleton.2 rfl)),hd,rfl⟩
  ·exact h.out o hm
 len:=by
  have := h.len;rw [lla,List.length_singleton] at this;rw [ho]
  split
  ·rw [lla,List.length_singleton];omega
  ·omega
 cur_:=fun t n e=>by
  injection e with e;injection e with e1 e2;subst e1 e2;refine ⟨h.sub s (List.mem_append_right _ (List.mem_singleton.2 rfl)),fun hd=>?_,fun j hj=>absurd hj (by omega)⟩;rw [ho,if_pos hd];exact List.mem_append_right _ (List.mem_singleton.2 rfl)
theorem Srch.old {V stack:List σ} {s:σ} {outs:LL} {n:Nat} {m:Int} (h:Srch M s0 V stack outs (some (s,n))) (hm:(M.mv s)[n]? = some m) (hv:M.af s m∈V):Srch M s0 V stack outs (some (s,n+1)) where
 rea:=h.rea
 base:=h.base
 nd:=h.nd
 sub:=h.sub
 all:=fun v hv=>by
  rcases h.all v hv with h1 | ⟨k,h1⟩ | h1
  ·exact .inl h1
  ·injection h1 with h1;injection h1 with h1 _;subst h1;exact .inr (.inl ⟨n+1,rfl⟩)
  ·exact .inr (.inr h1)
 out:=h.out
 len:=h.len
 cur_:=fun t k e=>by
  injection e with e;injection e with e1 e2;subst e1 e2;obtain ⟨g1,g2,g3⟩:=h.cur_ s n rfl;refine ⟨g1,g2,fun j hj m' hm' => ?_⟩;rcases Nat.lt_or_ge j n with h' | h'
  ·exact g3 j h' m' hm'
  ·obtain rfl:j=n:=by omega
   rw [hm] at hm';obtain rfl:=osl hm';exact hv
theorem Srch.new {V stack:List σ} {s:σ} {outs:LL} {n:Nat} {m:Int} (h:Srch M s0 V stack outs (some (s,n))) (hm:(M.mv s)[n]? = some m) (hv:M.af s m∉V):Srch M s0 (V++[M.af s m]) (stack++[M.af s m]) outs (some (s,n+1)) where
 rea:=fun v hv=>by
  rcases List.mem_append.1 hv with hv | hv
  ·exact h.rea v hv
  ·rw [List.mem_singleton.1 hv];exact .step (h.rea s (h.cur_ s n rfl).1) (List.mem_of_getElem? hm)
 base:=List.mem_append_left _ h.base
 nd:=by
  rw [List.nodup_append];exact ⟨h.nd,by simp,fun a ha b hb e=>hv (by rw [<- List.mem_singleton.1 hb,<- e];exact ha)⟩
 sub:=fun v hv=>by
  rcases List.mem_append.1 hv with hv | hv
  ·exact List.mem_append_left _ (h.sub v hv)
  ·exact List.mem_append_right _ hv
 all:=fun v hv=>by
  rcases List.mem_append.1 hv with hv | hv
  ·rcases h.all v hv with h1 | ⟨k,h1⟩ | ⟨h1,h2⟩
   ·exact .inl (List.mem_append_left _ h1)
   ·injection h1 with h1;injection h1 with h1 _;subst h1;exact .inr (.inl ⟨n+1,rfl⟩)
   ·exact .inr (.inr ⟨fun m hm=>List.mem_append_left _ (h1 m hm),h2⟩)
  ·exact .inl (List.mem_append_right _ hv)
 out:=fun o ho=>by
  obtain ⟨v,g1,g2⟩:=h.out o ho;exact ⟨v,List.mem_append_left _ g1,g2⟩
 len:=by
  have := h.len;simp only [lla,List.length_singleton];omega
 cur_:=fun t k e=>by
  injection e with e;injection e with e1 e2;subst e1 e2;obtain ⟨g1,g2,g3⟩:=h.cur_ s n rfl;refine ⟨List.mem_append_left _ g1,g2,fun j hj m' hm' => ?_⟩;rcases Nat.lt_or_ge j n with h' | h'
  ·exact List.mem_append_left _ (g3 j h' m' hm')
  ·obtain rfl:j=n:=by omega
   rw [hm] at hm';obtain rfl:=osl hm';exact List.mem_append_right _ (List.mem_singleton.2 rfl)
theorem Srch.fin {V stack:List σ} {s:σ} {outs:LL} {n:Nat} (h:Srch M s0 V stack outs (some (s,n))) (hn:(M.mv s).length<=n):Srch M s0 V stack outs none where
 rea:=h.rea
 base:=h.base
 nd:=h.nd
 sub:=h.sub
 all:=fun v hv=>by
  rcases h.all v hv with h1 | ⟨k,h1⟩ | h1
  ·exact .inl h1
  ·injection h1 with h1;injection h1 with h1 _;subst h1;obtain ⟨_,g2,g3⟩:=h.cur_ s n rfl;refine .inr (.inr ⟨fun m hm=>?_,g2⟩);obtain ⟨j,hj⟩:=List.getElem?_of_mem hm;exact g3 j (by have := (ges hj).1;omega) m hj
  ·exact .inr (.inr h1)
 out:=h.out
 len:=h.len
 cur_:=nofun
theorem Srch.ends {V:List σ} {outs:LL} (h:Srch M s0 V [] outs none):(∀ o,o∈outs↔KV M s0 o)/\∀ v,v∈V↔Rea M s0 v:=by
 have all:∀ v,Rea M s0 v->v∈V:=fun v hv=>by
  induction hv with
  | base=>exact h.base
  | step _ hm ih=>
   rcases h.all _ ih with h1 | ⟨_,h1⟩ | h1
   ·cases h1
   ·cases h1
   ·exact h1.1 _ hm
 refine ⟨fun o=>⟨fun ho=>?_,fun ⟨s,h1,h2,h3⟩ => ?_⟩,fun v=>⟨h.rea v,all v⟩⟩
 ·obtain ⟨v,g1,g2,g3⟩:=h.out o ho;exact ⟨v,h.rea v g1,g2,g3⟩
 ·rcases h.all s (all s h1) with h4 | ⟨_,h4⟩ | h4
  ·cases h4
  ·cases h4
  ·rw [<- h3];exact h4.2 h2
end
section
variable {σ:Type} [Inhabited σ] (mv:σ->Option (LI)) (af:σ->Int->Option σ) (ky:σ->Option ByteArray) (dn:σ->Option Bool) (oc:σ->Option (LI)) (srt:LL->Option (LL))
def La (s9:(List (ByteArray×Bool))×(LL)×(List σ)) (s19:(LL)) (v27:(LI)):((List (ByteArray×Bool))×(List σ)×Int)->Option (((List (ByteArray×Bool))×(List σ)×Int) ⊕ (((List (ByteArray×Bool))×(LL)×(List σ)) ⊕ ((List (ByteArray×Bool))×(LL)))):=fun s31=>
 bif decide (s31.2.2<(v27.length:Int)) then
  Option.bind (
   gd (decide (0<=s31.2.2/\s31.2.2<(v27.length:Int))) <|
   Option.bind (af (s9.2.2.getD (((s9.2.2.length:Int)-(1:Int)).toNat) default) (v27.getD s31.2.2.toNat default)) fun v37=>
   Option.bind (ky v37) fun v38=>
   bif !((yR s31.1 v38).getD false) then
    gd (aS (s31.2.1.length+1) 16) <|
    some ((wJ s31.1 v38 true),(s31.2.1++[v37]))
   else
    some (s31.1,s31.2.1)
  ) fun s35=>
  gd (L8 .i64 (s31.2.2+(1:Int))) <|
  some (.inl (s35.1,s35.2,(s31.2.2+(1:Int))))
 else
  some (.inr (.inl (s31.1,s19,s31.2.1)))
def LG:((List (ByteArray×Bool))×(LL)×(List σ))->Option (((List (ByteArray×Bool))×(LL)×(List σ)) ⊕ ((List (ByteArray×Bool))×(LL))):=fun s9=>
 bif decide ((0:Int)<(s9.2.2.length:Int)) then
  gd (L8 .i64 ((s9.2.2.length:Int)-(1:Int))) <|
  gd (decide (0<=((s9.2.2.length:Int)-(1:Int))/\((s9.2.2.length:Int)-(1:Int))<(s9.2.2.length:Int))) <|
  gd (decide (0<=(0:Int)/\(0:Int)<=((s9.2.2.length:Int)-(1:Int))/\((s9.2.2.length:Int)-(1:Int))<=(s9.2.2.length:Int))) <|
  Option.bind (
   Option.bind (dn (s9.2.2.getD (((s9.2.2.length:Int)-(1:Int)).toNat) default)) fun v20=>
   bif v20 then
    Option.bind (oc (s9.2.2.getD (((s9.2.2.length:Int)-(1:Int)).toNat) default)) fun v22=>
    gd (aS (s9.2.1.length+1) 24) <|
    some (s9.2.1++[v22])
   else
    some s9.2.1
  ) fun s19=>
  Option.bind (mv (s9.2.2.getD (((s9.2.2.length:Int)-(1:Int)).toNat) default)) fun v27=>
  loopO (La af ky s9 s19 v27) (s9.1,((s9.2.2.drop (0:Int).toNat).take (((s9.2.2.length:Int)-(1:Int)).toNat-(0:Int).toNat)),(0:Int))
 else
  some (.inr (s9.1,s9.2.1))
def Lb (start:σ):Option ((LL)×Int):=
 Option.bind (ky start) fun v1=>
 Option.bind (
  loopO (LG mv af ky dn oc) ((wJ ([]:List (ByteArray×Bool)) v1 true),([]:LL),([start]:List σ))
 ) fun s2=>
 Option.bind (srt s2.2) fun v46=>
 some (v46,(s2.1.length:Int))
variable {mv af ky dn oc srt} {M:Mac σ} {s0:σ} {N:Nat}
structure Mrt (mv:σ->Option (List Int)) (af:σ->Int->Option σ) (ky:σ->Option ByteArray) (dn:σ->Option Bool) (oc:σ->Option (List Int)) (M:Mac σ) (s0:σ):Prop where
 mv:∀ s,Rea M s0 s->Mg (mv s) (· = M.mv s)
 af:∀ s m,Rea M s0 s->m∈M.mv s->Mg (af s m) (· = M.af s m)
 ky:∀ s,Rea M s0 s->Mg (ky s) (· = M.ky s)
 dn:∀ s,Rea M s0 s->Mg (dn s) (· = M.dn s)
 oc:∀ s,Rea M s0 s->M.dn s=true->Mg (oc s) (· = M.oc s)
 len:∀ s,Rea M s0 s->(M.mv s).length<=1048576
theorem LH {n m:Nat} (hn:n<=1099511627776) (hm:Nat.ble m 32=true):aS n m=true:=by
 have h1:=nlb hm;have h2:n*m<=1099511627776*32:=Nat.mul_le_mul hn h1;exact decide_eq_true ⟨by omega,by omega⟩
theorem GY (K:Mok M s0 N) (R:Mrt mv af ky dn oc M s0) (hN:N<1099511627776) {V stk:List σ} {s:σ} {outs outs':LL} (h:Srch M s0 V stk outs' (some (s,0))) :
  Mg (loopO (La af ky (kys M V,outs,stk++[s]) outs' (M.mv s)) (kys M V,stk,(0:Int))) fun z=>∃ V' stk',z = .inl (kys M V',outs',stk')/\Srch M s0 V' stk' outs' none/\V.length<=V'.length/\2*V.length+stk'.length<=2*V'.length+stk.length:=by
 have hsV:=(h.cur_ s 0 rfl).1;have hs:=h.rea s hsV;have hcur:(stk++[s]).getD ((((stk++[s]).length:Int)-1).toNat) default=s:=by
  rw [lla,List.length_singleton,show (((stk.length+1:Nat):Int)-1).toNat=stk.length by omega,gdq,gar (Nat.le_refl _)];simp
 have hlen:=R.len s hs;refine Mg.loop (fun z=>∃ V',z.1=kys M V'/\(0<=z.2.2/\z.2.2<=((M.mv s).length:Int))/\Srch M s0 V' z.2.1 outs' (some (s,z.2.2.toNat))/\V.length<=V'.length/\2*V.length+z.2.1.length<=2*V'.length+stk.length) (fun z=>(((M.mv s).length:Int)-z.2.2).toNat) ⟨V,rfl,⟨Int.le_refl _,by simp⟩,h,Nat.le_refl _,Nat.le_refl _⟩ fun z ⟨V',h1,h2,h3,h4,h5⟩ => ?_;unfold La;simp only [hcur];refine .bifD (fun hlt=>?_) fun hge => .pure ⟨V',z.2.1,by rw [h1],h3.fin (by omega),h4,h5⟩;have hj:z.2.2.toNat<(M.mv s).length:=by omega
 have hm:(M.mv s)[z.2.2.toNat]? = some ((M.mv s).getD z.2.2.toNat default):=by simp [geq hj]
 have hmm:=List.mem_of_getElem? hm;have hi1:(z.2.2+1).toNat=z.2.2.toNat+1:=by omega
 have hV':=K.cnt V' h3.nd h3.rea;have hl:=h3.len;refine Mg.bind (P:=fun w=>∃ V2,w.1=kys M V2/\Srch M s0 V2 w.2 outs' (some (s,z.2.2.toNat+1))/\V.length<=V2.length/\2*V.length+w.2.length<=2*V2.length+stk.length) ?_ fun w ⟨V2,w1,w2,w3,w4⟩ => .gdI (by omega) (.pure ⟨⟨V2,w1,⟨by simp only [];omega,by simp only [];omega⟩,by simp only [hi1];exact w2,w3,w4⟩,by simp only [];omega⟩);refine .gdD ⟨h2.1,hlt⟩ ((R.af s _ hs hmm).bind fun v37 e37=>?_);subst e37;refine (R.ky _ (.step hs hmm)).bind fun v38 e38=>?_;subst e38;refine .bif (fun hb => .gd (LH (by omega) rfl) (.pure ?_)) fun hb => .pure ?_
 ·have hn : ¬ ∃ v∈V',M.ky v=M.ky (M.af s ((M.mv s).getD z.2.2.toNat default)):=fun hh=>by
   rw [h1,(Cb V' _).2 hh] at hb
   cases hb
  refine ⟨V'++[M.af s ((M.mv s).getD z.2.2.toNat default)],?_,h3.new hm fun hv=>hn ⟨_,hv,rfl⟩,?_,?_⟩
  ·simp only [h1];exact I5 hn
  ·simp;omega
  ·simp;omega
 ·have hy:∃ v∈V',M.ky v=M.ky (M.af s ((M.mv s).getD z.2.2.toNat default)):=by
   rw [<- Cb,<- h1];simpa using hb
  obtain ⟨v,hv,e⟩:=hy;have := K.key v _ (h3.rea v hv) (.step hs hmm) e;refine ⟨V',h1,h3.old hm (this ▸ hv),h4,h5⟩
theorem I6 (K:Mok M s0 N) (R:Mrt mv af ky dn oc M s0) (hN:N<1099511627776) {Q:LL->LL->Prop} (hs:∀ l:LL,l.length<=N->(∀ o∈l,KV M s0 o)->Mg (srt l) (Q l)) :
  Mg (Lb mv af ky dn oc srt s0) fun q=>∃ l,Q l q.1/\(∀ o,o∈l↔KV M s0 o)/\∃ V:List σ,V.Nodup/\(∀ v,v∈V↔Rea M s0 v)/\q.2=(V.length:Int):=by
 unfold Lb;refine (R.ky s0 .base).bind fun v1 e1=>?_;subst e1;refine Mg.bind (P:=fun w=>∃ V,w.1=kys M V/\Srch M s0 V [] w.2 none) ?_ fun w ⟨V,w1,w2⟩ => ?_
 ·refine Mg.loop (fun z=>∃ V,z.1=kys M V/\Srch M s0 V z.2.2 z.2.1 none) (fun z=>2*(N-z.1.length)+z.2.2.length) ⟨[s0],rfl,.start⟩ fun z ⟨V,h1,h2⟩ => ?_;have hV:=K.cnt V h2.nd h2.rea;have hl:=h2.len;obtain ⟨kk,outs,stk⟩:=z;simp only at h1 h2 hl;subst h1;unfold LG;simp only [];refine .bifD (fun hlt=>?_) fun hge=>?_
  ·obtain ⟨stk',s,rfl⟩:∃ stk' s,stk=stk'++[s]:=⟨_,_,(List.dropLast_concat_getLast (by rintro rfl;simp at hlt)).symm⟩;have hcur:(stk'++[s]).getD ((((stk'++[s]).length:Int)-1).toNat) default=s:=by
    rw [lla,List.length_singleton,show (((stk'.length+1:Nat):Int)-1).toNat=stk'.length by omega,gdq,gar (Nat.le_refl _)];simp
   have hcut:((stk'++[s]).drop (0:Int).toNat).take ((((stk'++[s]).length:Int)-1).toNat-(0:Int).toNat)=stk':=by
    rw [lla,List.length_singleton,show (((stk'.length+1:Nat):Int)-1).toNat-(0:Int).toNat=stk'.length by omega];simp
   have hre:=h2.rea s (h2.sub s (List.mem_append_right _ (List.mem_singleton.2 rfl)));rw [lla,List.length_singleton] at hl;refine .gdI (by simp;omega) (.gdD ⟨by simp,by omega⟩ (.gdD ⟨Int.le_refl _,by simp,by omega⟩ ?_));rw [hcur,hcut];refine Mg.bind (P:=fun o=>o=if M.dn s then outs++[M.oc s] else outs) ?_ fun o ho=>?_
   ·refine (R.dn s hre).bind fun b hb=>?_;subst hb;refine .bif (fun hb=>(R.oc s hre hb).bind fun o ho => .gd (LH (by omega) rfl) (.pure ?_)) fun hb => .pure ?_
    ·rw [if_pos hb,ho]
    ·rw [if_neg (by rw [hb];decide)]
   ·have h3:=h2.pop ho;refine (R.mv s hre).bind fun v27 e27=>?_;subst e27;refine (GY K R hN (outs:=outs) h3).mono fun z ⟨V',stk2,e,g1,g2,g3⟩ => ?_;subst e;have hV2:=K.cnt V' g1.nd g1.rea;refine ⟨⟨V',rfl,g1⟩,?_⟩;simp only [kys,llm,lla,List.length_singleton];omega
  ·refine .pure ⟨V,rfl,?_⟩;have : stk=[]:=List.eq_nil_of_length_eq_zero (by omega);subst this;exact h2
 ·have hV:=K.cnt V w2.nd w2.rea;have hl:=w2.len;refine (hs w.2 (by omega) fun o ho=>(w2.ends.1 o).1 ho).bind fun q hq => .pure ⟨w.2,hq,w2.ends.1,V,w2.nd,w2.ends.2,?_⟩;rw [w1];simp [kys]
end
theorem GZ {σ:Type} (f:σ->Nat) (m:Nat):∀ (V:List σ),V.Nodup->(∀ v∈V,f v<m)->(∀ u∈V,∀ v∈V,f u=f v->u=v)->V.length<=m:=fun V hn hl hi=>by
 have h1:(V.map f).Nodup:=by
  rw [List.nodup_iff_pairwise_ne] at hn ⊢;rw [List.pairwise_map];exact hn.imp_of_mem fun {a b} ha hb hne e=>hne (hi a ha b hb e)
 have := List.Nodup.length_le_of_subset h1 (l₂:=List.range m) fun x hx=>by
  obtain ⟨v,hv,rfl⟩:=List.mem_map.1 hx;exact List.mem_range.2 (hl v hv)
 simpa using this
def qg:List (Nat×Nat)->Nat
 | []=>0
 | (d,b)::l=>d+b*qg l
def Dm:List (Nat×Nat)->Nat
 | []=>1
 | (_,b)::l=>b*Dm l
theorem Cc:∀ (l:List (Nat×Nat)),(∀ x∈l,x.1<x.2)->qg l<Dm l
 | [],_=>Nat.one_pos
 | (d,b)::l,h=>by
  have h1:d<b:=h _ List.mem_cons_self;have h2:=Cc l fun x hx=>h x (List.mem_cons_of_mem _ hx);show d+b*qg l<b*Dm l;have h3:b*(qg l+1)<=b*Dm l:=Nat.mul_le_mul_left _ h2;rw [Nat.mul_add,Nat.mul_one] at h3;omega
theorem zH:∀ (l k:List (Nat×Nat)),l.map (·.2)=k.map (·.2)->(∀ x∈l,x.1<x.2)->(∀ x∈k,x.1<x.2)->qg l=qg k->l=k
 | [],[],_,_,_,_=>rfl
 | [],_::_,h,_,_,_=>by cases h
 | _::_,[],h,_,_,_=>by cases h
 | (d,b)::l,(d',b')::k,h,hl,hk,e=>by
  injection h with hb ht;simp only at hb;subst hb;have h1:d<b:=hl _ List.mem_cons_self;have h2:d'<b:=hk _ List.mem_cons_self;have e:d+b*qg l=d'+b*qg k:=e;have hd:d=d':=by
   have := congrArg (· % b) e;simp only [Nat.add_mul_mod_self_left,Nat.mod_eq_of_lt h1,Nat.mod_eq_of_lt h2] at this;exact this
  subst hd;have hc:qg l=qg k:=Nat.eq_of_mul_eq_mul_left (by omega) (by omega:b*qg l=b*qg k);rw [zH l k ht (fun x hx=>hl x (List.mem_cons_of_mem _ hx)) (fun x hx=>hk x (List.mem_cons_of_mem _ hx)) hc]
def rdX (x:Ma):Bool:=x.Op==1||x.Op==5
def wrX (x:Ma):Bool:=x.Op==2||x.Op==3||x.Op==5
theorem EU (x:Ma):Mg (bN x) (· = rdX x):=by
 unfold bN rdX;exact Mg.bind (P:=(· = (x.Op==1||x.Op==5))) (.bif (fun h => .pure (by rw [h];rfl)) fun h => .pure (by rw [h];rfl)) fun v hv => .pure hv
theorem sG (x:Ma):Mg (aO x) (· = wrX x):=by
 unfold aO wrX;exact Mg.bind (P:=(· = (x.Op==2||x.Op==3))) (.bif (fun h => .pure (by rw [h];rfl)) fun h => .pure (by rw [h];rfl)) fun v hv=>Mg.bind (P:=(· = (x.Op==2||x.Op==3||x.Op==5))) (.bif (fun h => .pure (by rw [<- hv,h];rfl)) fun h => .pure (by rw [<- hv,h];rfl)) fun v hv => .pure hv
def Vs (p:List (List Ma)):Prop:=p.length<=3/\∀ n,(p.getD n default).length<=7
theorem Vs.of {p:List (List Ma)} (h:bu (p.map fun r=>r.map jV)=true):Vs p/\∀ t k:Nat,t<p.length->k<(p.getD t default).length->iP (jV ((p.getD t default).getD k default))=true:=by
 simp only [bu,nG,bae,dte,List.all_eq_true,rowOk] at h;have hl:p.length<=3:=by simpa using h.1.1.1.1
 have hr:=h.1.1.1.2;refine ⟨⟨hl,fun n=>?_⟩,fun t k ht hk=>?_⟩
 ·by_cases hn:n<p.length
  ·have e:p.getD n default=p[n]:=by simp [hn]
   rw [e];have := (hr (p[n].map jV) (List.mem_map.2 ⟨p[n],List.getElem_mem hn,rfl⟩)).1;simpa using this
  ·rw [gdq,gen (by omega)];exact Nat.zero_le _
 ·have e:p.getD t default=p[t]:=by simp [ht]
  rw [e] at hk ⊢;have h1:=(hr (p[t].map jV) (List.mem_map.2 ⟨p[t],List.getElem_mem ht,rfl⟩)).2;have e2:p[t].getD k default=p[t][k]:=by simp [hk]
  rw [e2];exact h1 _ (List.mem_map.2 ⟨_,List.getElem_mem hk,rfl⟩)
def InR (x:Ma):Prop:=0<=x.Loc/\x.Loc<=2/\0<=x.Reg/\x.Reg<=2/\0<=x.Val/\x.Val<=3
theorem EW {x:Ma} (h:iP (jV x)=true):InR x:=by
 obtain ⟨o,l,r,v⟩:=x;unfold InR;simp only;unfold iP jV at h;simp only [inB] at h
 split at h
 ·simp only [bae,dte,beq_iff_eq] at h;omega
 ·split at h
  ·simp only [bae,dte,beq_iff_eq] at h;omega
  ·split at h
   ·simp only [bae,dte,beq_iff_eq] at h;omega
   ·split at h
    ·simp only [bae,dte] at h;omega
    ·cases h
structure PV (p:List (List Ma)):Prop where
 vs:Vs p
 pos:0<p.length
 ins:∀ t k:Nat,t<p.length->k<(p.getD t default).length->InR ((p.getD t default).getD k default)
theorem PV.of {p:List (List Ma)} (h:bu (p.map fun r=>r.map jV)=true):PV p:=by
 have h1:=Vs.of h;refine ⟨h1.1,?_,fun t k ht hk=>EW (h1.2 t k ht hk)⟩;simp only [bu,bae,dte,llm] at h;exact h.1.2
theorem aC {n m:Nat} (hn:n<=4000000) (hm:Nat.ble m 1000=true):aS n m=true:=by
 have h1:=nlb hm;have h2:n*m<=4000000*1000:=Nat.mul_le_mul hn h1;exact decide_eq_true ⟨by omega,by omega⟩
theorem m7 (a:Z3b) (q i v:Int) (hq:0<=q/\q<=2) (hi:0<=i/\i<=2):Z3b.get (Z3b.set a q v) i=if i=q then v else Z3b.get a i:=by
 obtain ⟨x,y,z⟩:=a;have h1:q=0\/q=1\/q=2:=by omega
 have h2:i=0\/i=1\/i=2:=by omega
 rcases h1 with rfl | rfl | rfl <;> rcases h2 with rfl | rfl | rfl <;> rfl
theorem zI (a:Z33) (q i:Int) (v:Z3b) (hq:0<=q/\q<=2) (hi:0<=i/\i<=2):Z33.get (Z33.set a q v) i=if i=q then v else Z33.get a i:=by
 obtain ⟨x,y,z⟩:=a;have h1:q=0\/q=1\/q=2:=by omega
 have h2:i=0\/i=1\/i=2:=by omega
 rcases h1 with rfl | rfl | rfl <;> rcases h2 with rfl | rfl | rfl <;> rfl
theorem Mg.sumR {S W:Type} {a:Option (S ⊕ W)} {f:S->Option W} {w:W} (h:Mg a (· = .inr w)):Mg (sumK a f) (· = w):=by
 obtain ⟨v,rfl,rfl⟩:=h;exact ⟨w,rfl,rfl⟩
def Gt (u:Md) (t:Int) (x:Ma):Int:=if x.Op=3 then Z3b.get (Z33.get u.reg t) x.Reg else x.Val
def EY (u:Md) (t:Int) (x:Ma):Md:=
 ⟨u.p,Z3b.set u.pc t (Z3b.get u.pc t+1),if rdX x=true then Z33.set u.reg t (Z3b.set (Z33.get u.reg t) x.Reg (Z3b.get u.mem x.Loc)) else u.reg,if wrX x=true then Z3b.set u.mem x.Loc (Gt u t x) else u.mem⟩
def ltL (x y:LI):Prop:=cmpL x y<0
theorem A9 {x y:LI}:leL x y=true↔ltL x y\/x=y:=by
 unfold leL ltL;rw [dte];rcases mY x y with h | h | h
 ·exact ⟨fun _ => .inl h,fun _=>by have := pE x y;omega⟩
 ·exact ⟨fun _ => .inr h,fun _=>by rw [h,kX];decide⟩
 ·refine ⟨fun g=>absurd h g,fun g=>?_⟩;rcases g with g | g
  ·have := pE x y;omega
  ·rw [g,kX] at h;exact absurd h (by decide)
theorem Ce {x y:LI} (h:ltL x y):x≠y:=by
 rintro rfl;unfold ltL at h;rw [kX] at h;exact absurd h (by decide)
structure Sor (l q:List (List Int)):Prop where
 lt:q.Pairwise ltL
 mem:∀ o,o∈q↔o∈l
 len:q.length<=l.length
theorem Cf {l c:LL} {n:Nat} (hs:l.Pairwise fun x y=>leL x y=true) (h:c.Pairwise ltL) (hm:∀ o,o∈c↔o∈l.take n) (h0:0<n) (hn:n<l.length) (hne:l.getD n default≠l.getD (n-1) default) :
  (c++[l.getD n default]).Pairwise ltL/\∀ o,o∈c++[l.getD n default]↔o∈l.take (n+1):=by
 have e1:l.getD n default=l[n]:=by simp [hn]
 have e2:l.getD (n-1) default=l[n-1]:=by simp [List.getD,show n-1<l.length by omega]
 rw [e1] at hne ⊢;rw [e2] at hne;have hp:=List.pairwise_iff_getElem.1 hs;refine ⟨List.pairwise_append.2 ⟨h,by simp,fun y hy x hx=>?_⟩,fun o=>?_⟩
 ·rw [List.mem_singleton.1 hx];obtain ⟨j,hj,rfl⟩:=List.getElem_of_mem ((hm y).1 hy);have hjn:j<n:=Nat.lt_of_lt_of_le (show j<min n l.length by simpa using hj) (Nat.min_le_left _ _);rw [List.getElem_take];rcases A9.1 (hp j n (by omega) hn hjn) with g | g
  ·exact g
  ·exfalso;apply hne
   by_cases hj1:j=n-1
   ·subst hj1;exact g.symm
   ·exact B0 _ _ (g ▸ hp j (n-1) (by omega) (by omega) (by omega)) (hp (n-1) n (by omega) hn (by omega))
 ·rw [List.mem_append,hm,List.take_add_one,List.mem_append,geq hn];simp
theorem Cg {l:LL} {n:Nat} (h0:0<n) (hn:n<l.length) (he:l.getD n default=l.getD (n-1) default) (o:LI):o∈l.take (n+1)↔o∈l.take n:=by
 have e1:l.getD n default=l[n]:=by simp [hn]
 have e2:l.getD (n-1) default=l[n-1]:=by simp [List.getD,show n-1<l.length by omega]
 rw [e1,e2] at he;rw [List.take_add_one,List.mem_append,geq hn];refine ⟨fun h=>h.elim id fun h=>?_,.inl⟩;have : o=l[n-1]:=by simpa [he] using h
 rw [this];exact List.mem_iff_getElem.2 ⟨n-1,by simp;omega,by simp⟩
theorem EZ (a b:LI) (ha:a.length<=1048576):Mg (cz a b) (· = decide (a=b)):=by
 unfold cz;refine .bif (fun h => .pure ?_) fun h=>?_
 ·have h:a.length≠b.length:=by
   intro e;rw [e] at h;simp at h
  rw [decide_eq_false (fun e=>h (by rw [e]))]
 ·have h:a.length=b.length:=by
   have : (a.length:Int)=(b.length:Int):=by simpa using h
   omega
  refine Mg.sum (PS:=fun _=>a=b) (PW:=fun v=>v=decide (a=b)) ?_ fun _ he => .pure (by rw [decide_eq_true he]);refine Mg.loop (fun i=>0<=i/\i<=(a.length:Int)/\∀ j:Nat,(j:Int)<i->a[j]? = b[j]?) (fun i=>((a.length:Int)-i).toNat) ⟨Int.le_refl _,by omega,fun j hj=>absurd hj (by omega)⟩ fun i ⟨h1,h2,h3⟩ => ?_;unfold gJ;refine .bifD (fun hlt => .gdD ⟨h1,hlt⟩ (.gdD ⟨h1,by omega⟩ ?_)) fun hge => .pure ?_
  ·have hi:i.toNat<a.length:=by omega
   have hib:i.toNat<b.length:=by omega
   have ea:a.getD i.toNat default=a[i.toNat]:=by simp [hi]
   have eb:b.getD i.toNat default=b[i.toNat]:=by simp [hib]
   rw [ea,eb];refine .bif (fun hb => .pure ?_) fun hb => .gdI (by omega) (.pure ⟨⟨by omega,by omega,fun j hj=>?_⟩,by omega⟩)
   ·simp only [bne_iff_ne] at hb;have : a≠b:=fun e=>hb (by simp [e]);simp only [];rw [decide_eq_false this]
   ·by_cases ej:j=i.toNat
    ·subst ej;rw [geq hi,geq hib];have : a[i.toNat]=b[i.toNat]:=by simpa using hb
     rw [this]
    ·exact h3 j (by omega)
  ·simp only [];apply List.ext_getElem?;intro j;rcases Nat.lt_or_ge j a.length with g | g
   ·exact h3 j (by omega)
   ·rw [gen g,gen (by omega)]
theorem E0 (a b:LI) (ha:a.length<=1048576):Mg (bH a b) (· = decide (a=b)):=by
 unfold bH;exact (EZ a b ha).bind fun v hv => .pure hv
theorem Ba {l:LL} (hs:l.Pairwise fun x y=>leL x y=true) (hl:l.length<=1099511627776) (hr:∀ r∈l,r.length<=1048576):Mg (ay l) (Sor l):=by
 have hrD:∀ n,(l.getD n default).length<=1048576:=fun n=>by
  by_cases hn:n<l.length
  ·have : l.getD n default=l[n]:=by simp [hn]
   rw [this];exact hr _ (List.getElem_mem hn)
  ·rw [gdq,gen (by omega)];exact Nat.zero_le _
 unfold ay;refine .bifD (fun h => .pure ⟨?_,fun _=>Iff.rfl,Nat.le_refl _⟩) fun h=>?_
 ·match l,h with
  | [],_=>exact .nil
  | [x],_=>simp
  | _::_::_,h=>simp at h;omega
 have h2:2<=l.length:=by omega
 refine Mg.sum (PS:=fun q=>Sor l q) (PW:=fun q=>Sor l q) ?_ fun q hq => .pure hq;refine Mg.loop (fun s=>s.1=l/\1<=s.2/\s.2<=(l.length:Int)/\(l.take s.2.toNat).Pairwise ltL) (fun s=>((l.length:Int)-s.2).toNat) ⟨rfl,Int.le_refl _,by simp only [];omega,?_⟩ fun s ⟨e,h1,h3,h4⟩ => ?_
 ·match l,h2 with
  | x::_,_=>simp
 obtain ⟨c,k⟩:=s;simp only at e h1 h3 h4;subst e;unfold aH;simp only [];refine .bifD (fun hlt=>?_) fun hge => .pure ?_
 rotate_left
 ·have : k.toNat=c.length:=by omega
  rw [this,List.take_length] at h4;exact ⟨h4,fun _=>Iff.rfl,Nat.le_refl _⟩
 have hk1:(k-1).toNat=k.toNat-1:=by omega
 refine Mg.sum (PS:=fun _=>c.getD k.toNat default≠c.getD (k.toNat-1) default) ?_ fun _ hne => .gdI (by omega) (.pure ⟨⟨rfl,by simp only [];omega,by simp only [];omega,?_⟩,by simp only [];omega⟩)
 rotate_left
 ·have := (Cf hs h4 (fun _=>Iff.rfl) (by omega) (by omega) hne).1;simp only [];rw [show (k+1).toNat=k.toNat+1 by omega,List.take_add_one,geq (by omega)];rw [show c.getD k.toNat default=c[k.toNat]'(by omega) by simp [show k.toNat<c.length by omega]] at this;simpa using this
 refine .gdD ⟨by omega,hlt⟩ (.gdI (by omega) (.gdD ⟨by omega,by omega⟩ ((E0 _ _ (hrD _)).bind fun v hv=>?_)));subst hv;rw [hk1];refine .bifD (fun he=>?_) fun hne => .pure hne;refine .gdD ⟨by omega,by omega,Int.le_refl _⟩ ?_;refine Mg.bind (P:=fun z=>(k<=z.2/\z.2<=(c.length:Int))/\z.1.length=c.length/\(z.1.take z.2.toNat).Pairwise ltL/\∀ o,o∈z.1.take z.2.toNat↔o∈c) ?_ fun z ⟨⟨z1,z2⟩,z3,z4,z5⟩ => .gdD ⟨by omega,by omega,Int.le_refl _⟩ (.gdD ⟨Int.le_refl _,by omega,by omega⟩ (.pure ?_))
 rotate_left
 ·have e1:(((cpy z.1 (0+z.2.toNat) (List.replicate ((z.1.length:Int).toNat-z.2.toNat) (default:LI)) ((z.1.length:Int).toNat-z.2.toNat)).drop (0:Int).toNat).take (z.2.toNat-(0:Int).toNat))=z.1.take z.2.toNat:=by
   simp only [cpy,Nat.zero_add,show (0:Int).toNat=0 from rfl,List.drop_zero,Nat.sub_zero];rw [if_pos (by omega),List.append_assoc,List.take_append_of_le_length (by rw [List.length_take];omega),List.take_take,Nat.min_self]
  simp only [];rw [e1];exact ⟨z4,z5,by simp;omega⟩
 refine Mg.loop (fun s=>(1<=s.2.1/\k+s.2.1<=(c.length:Int))/\(k<=s.2.2/\s.2.2<=k+s.2.1-1)/\s.1.length=c.length/\(∀ j:Nat,k+s.2.1-1<=(j:Int)->s.1[j]? = c[j]?)/\(s.1.take s.2.2.toNat).Pairwise ltL/\∀ o,o∈s.1.take s.2.2.toNat↔o∈c.take (k+s.2.1).toNat) (fun s=>((c.length:Int)-k-s.2.1).toNat) ⟨⟨Int.le_refl _,by simp only [];omega⟩,⟨Int.le_refl _,by simp only [];omega⟩,rfl,fun _ _=>rfl,h4,fun o=>?_⟩ fun s ⟨⟨a1,a2⟩,⟨a3,a4⟩,a5,a6,a7,a8⟩ => ?_
 ·simp only [];rw [show (k+1).toNat=k.toNat+1 by omega];exact (Cg (by omega) (by omega) he o).symm
 obtain ⟨d,k2,kk⟩:=s;simp only at a1 a2 a3 a4 a5 a6 a7 a8;unfold aD;simp only [];have hz:((((c.length:Int).toNat-k.toNat:Nat)):Int)=(c.length:Int)-k:=by omega
 rw [hz];refine .bifD (fun hlt2=>?_) fun hge => .pure ⟨⟨a3,by simp only [];omega⟩,a5,a7,fun o=>?_⟩
 rotate_left
 ·rw [a8,show (k+k2).toNat=c.length by omega,List.take_length]
 have g1:d.getD (0+k.toNat+k2.toNat) default=c.getD (k+k2).toNat default:=by
  rw [gdq,gdq,a6 _ (by omega),show 0+k.toNat+k2.toNat=(k+k2).toNat by omega]
 have g2:d.getD (0+k.toNat+(k2-1).toNat) default=c.getD ((k+k2).toNat-1) default:=by
  rw [gdq,gdq,a6 _ (by omega),show 0+k.toNat+(k2-1).toNat=(k+k2).toNat-1 by omega]
 have hn1:(k+(k2+1)).toNat=(k+k2).toNat+1:=by omega
 refine Mg.bind (P:=fun z=>(k<=z.2/\z.2<=k+k2)/\z.1.length=c.length/\(∀ j:Nat,k+k2<=(j:Int)->z.1[j]? = c[j]?)/\(z.1.take z.2.toNat).Pairwise ltL/\∀ o,o∈z.1.take z.2.toNat↔o∈c.take ((k+k2).toNat+1)) ?_ fun z ⟨⟨z1,z2⟩,z3,z4,z5,z6⟩ => .gdI (by omega) (.pure ⟨⟨⟨by simp only [];omega,by simp only [];omega⟩,⟨z1,by simp only [];omega⟩,z3,fun j hj=>z4 j (by simp only [] at hj;omega),z5,by simp only [hn1];exact z6⟩,by simp only [];omega⟩);refine .gdD ⟨⟨by omega,by omega⟩,by omega⟩ (.gdI (by omega) (.gdD ⟨⟨by omega,by omega⟩,by omega⟩ ?_));rw [g1,g2];refine (E0 _ _ (hrD _)).bind fun v hv=>?_;subst hv;rw [<- decide_not];refine .bifD (fun hne=>?_) fun he2 => .pure ⟨⟨a3,by simp only [];omega⟩,a5,fun j hj=>a6 j (by omega),a7,fun o=>?_⟩
 ·have hkl:kk.toNat<d.length:=by omega
  refine .gdD ⟨by omega,by omega⟩ (.gdI (by omega) (.pure ⟨⟨by simp only [];omega,by simp only [];omega⟩,by simp [a5],fun j hj=>?_,?_⟩))
  ·simp only [];rw [List.getElem?_set_ne (by omega)];exact a6 j (by omega)
  ·have e:(d.set kk.toNat (c.getD (k+k2).toNat default)).take (kk+1).toNat=d.take kk.toNat++[c.getD (k+k2).toNat default]:=by
    rw [show (kk+1).toNat=kk.toNat+1 by omega,List.take_add_one,List.getElem?_set_self hkl,List.take_set_of_le (Nat.le_refl _)]
    rfl
   simp only [];rw [e];exact Cf hs a7 a8 (by omega) (by omega) hne
 ·simp only [];rw [a8];exact (Cg (by omega) (by omega) (Decidable.not_not.1 he2) o).symm
theorem xx {l:LL} (hl:l.length<=1099511627776) (hr:∀ r∈l,r.length<=1048576):Mg (aW l) (Sor l):=by
 unfold aW;refine Mg.bind (P:=(· = zG l)) ?_ fun v hv=>?_
 ·unfold dO;exact .gdD (by omega) (.pure rfl)
 subst hv;have hp:=kY l;refine (Ba (vC l) (by rw [hp.length_eq];exact hl) (fun r h=>hr r (hp.mem_iff.1 h))).bind fun v ⟨v1,v2,v3⟩ => .pure ⟨v1,fun o=>(v2 o).trans hp.mem_iff,by rw [<- hp.length_eq];exact v3⟩
structure Iv (p:List (List Ma)) (u:Md):Prop where
 up:u.p=p
 pc:∀ t:Nat,t<3->0<=Z3b.get u.pc t/\Z3b.get u.pc t<=((p.getD t default).length:Int)
 rv:∀ t g:Nat,t<3->g<3->0<=Z3b.get (Z33.get u.reg t) g/\Z3b.get (Z33.get u.reg t) g<=3
 mv:∀ l:Nat,l<3->0<=Z3b.get u.mem l/\Z3b.get u.mem l<=3
def Bb (u:Md) (t:Nat):Bool:=decide (Z3b.get u.pc t<((u.p.getD t default).length:Int))
def DT (u:Md) (n:Nat):LI:=((List.range n).filter (Bb u)).map Int.ofNat
def yx (u:Md):LI:=DT u u.p.length
def E5 (u:Md) (t:Int):Ma:=(u.p.getD t.toNat default).getD (Z3b.get u.pc t).toNat default
def tV (u:Md) (n:Nat):LI:=(List.range n).flatMap fun t:Nat=>(List.range 3).map fun g:Nat=>Z3b.get (Z33.get u.reg t) g
def KW (u:Md):LI:=(List.range 3).map fun l:Nat=>Z3b.get u.mem l
def zJ (u:Md):LI:=tV u u.p.length++KW u
def keyL (u:Md):LI:=[u.pc.x0,u.pc.x1,u.pc.x2,u.reg.x0.x0,u.reg.x0.x1,u.reg.x0.x2,u.reg.x1.x0,u.reg.x1.x1,u.reg.x1.x2,u.reg.x2.x0,u.reg.x2.x1,u.reg.x2.x2,u.mem.x0,u.mem.x1,u.mem.x2]
def JV:Mac Me where
 mv s:=yx s.values
 af s t:=⟨EY s.values t (E5 s.values t)⟩
 ky s:=strOfNums (keyL s.values)
 dn s:=(yx s.values).isEmpty
 oc s:=zJ s.values
section
variable {p:List (List Ma)} {u:Md}
theorem m8 {n:Nat} {m:Int}:m∈DT u n↔∃ t:Nat,t<n/\m=t/\Bb u t=true:=by
 unfold DT;rw [List.mem_map]
 constructor
 ·rintro ⟨t,ht,rfl⟩;rw [List.mem_filter,List.mem_range] at ht;exact ⟨t,ht.1,rfl,ht.2⟩
 ·rintro ⟨t,h1,rfl,h2⟩;exact ⟨t,List.mem_filter.2 ⟨List.mem_range.2 h1,h2⟩,rfl⟩
theorem vD (n:Nat):DT u (n+1)=if Bb u n=true then DT u n++[(n:Int)] else DT u n:=by
 unfold DT;rw [List.range_succ,List.filter_append,List.map_append]
 split
 ·rename_i h;rw [List.filter_cons_of_pos h]
  rfl
 ·rename_i h;rw [List.filter_cons_of_neg h];simp
theorem Ci (n:Nat):(DT u n).length<=n:=by
 unfold DT;rw [llm];exact Nat.le_trans (List.length_filter_le _ _) (by simp)
theorem I7 (hp:PV p) (h:Iv p u) {t:Nat} (ht:t<p.length):Mg (bM u t) fun v=>v.2=Bb u t/\(v.2=true->v.1=E5 u t):=by
 have hl:=hp.vs.1;have hr:=hp.vs.2 t;have h1:=h.pc t (by omega);unfold bM Bb E5;rw [h.up];simp only [tnn];refine .gdD ⟨by omega,by omega⟩ (.gdI (by omega) (.gdD ⟨by omega,by omega⟩ (.bifD (fun hle => .pure ⟨?_,nofun⟩) fun hle => .gdD ⟨h1.1,by omega⟩ (.pure ⟨?_,fun _=>rfl⟩))))
 ·rw [decide_eq_false (by omega)]
 ·rw [decide_eq_true (by omega)]
theorem Ki (hp:PV p) (h:Iv p u):Mg (cN ⟨u⟩) (· = yx u):=by
 have hl:=hp.vs.1;unfold cN;refine Mg.bind (P:=(· = yx u)) ?_ fun v hv => .pure hv;refine Mg.loop (fun s=>(0<=s.2/\s.2<=(p.length:Int))/\s.1=DT u s.2.toNat) (fun s=>((p.length:Int)-s.2).toNat) ⟨⟨Int.le_refl _,by simp only [];omega⟩,rfl⟩ fun s ⟨⟨h1,h2⟩,h3⟩ => ?_;unfold il;simp only [h.up];refine .bifD (fun hlt=>?_) fun hge => .pure ?_
 ·obtain ⟨l,i⟩:=s;simp only at h1 h2 h3 hlt;obtain ⟨n,rfl⟩:∃ n:Nat,i=n:=⟨i.toNat,by omega⟩;simp only [tnn] at h3;subst h3;have hln:=Ci (u:=u) n;refine Mg.bind (P:=(· = DT u (n+1))) ?_ fun v hv => .gdI (by omega) (.pure ⟨⟨⟨by simp only [];omega,by simp only [];omega⟩,hv⟩,by simp only [];omega⟩);refine (I7 hp h (by omega)).bind fun v ⟨e1,_⟩ => .bif (fun hb => .gd (aC (by simp only [];omega) rfl) (.pure ?_)) fun hb => .pure ?_
  ·rw [vD,if_pos (by rw [<- e1,hb])]
  ·rw [vD,if_neg (by rw [<- e1,hb];decide)]
 ·rw [h3];unfold yx;rw [h.up,show s.2.toNat=p.length by omega]
theorem Lc (hp:PV p) (h:Iv p u):Mg (dP ⟨u⟩) (· = (yx u).isEmpty):=by
 have hl:=hp.vs.1;unfold dP;refine Mg.bind (P:=(· = (yx u).isEmpty)) ?_ fun v hv => .pure hv;unfold fH;refine Mg.sum (PS:=fun _=>yx u=[]) (PW:=(· = (yx u).isEmpty)) ?_ fun _ hn => .pure (by rw [hn];rfl);refine Mg.loop (fun i=>(0<=i/\i<=(p.length:Int))/\DT u i.toNat=[]) (fun i=>((p.length:Int)-i).toNat) ⟨⟨Int.le_refl _,by omega⟩,rfl⟩ fun i ⟨⟨h1,h2⟩,h3⟩ => ?_;unfold iF;simp only [h.up];refine .bifD (fun hlt=>?_) fun hge => .pure ?_
 ·obtain ⟨n,rfl⟩:∃ n:Nat,i=n:=⟨i.toNat,by omega⟩;simp only [tnn] at h3;refine (I7 hp h (by omega)).bind fun v ⟨e1,_⟩ => .bif (fun hb => .pure ?_) fun hb => .gdI (by omega) (.pure ⟨⟨⟨by omega,by omega⟩,?_⟩,by omega⟩)
  ·have hm:(n:Int)∈yx u:=m8.2 ⟨n,by rw [h.up];omega,rfl,by rw [<- e1,hb]⟩
   cases e:yx u with
   | nil=>rw [e] at hm;cases hm
   | cons a l=>rfl
  ·rw [show ((n:Int)+1).toNat=n+1 by omega,vD,if_neg (by rw [<- e1,hb];decide),h3]
 ·simp only [];unfold yx;rw [h.up,<- show i.toNat=p.length by omega,h3]
theorem sH (n:Nat):tV u (n+1)=tV u n++(List.range 3).map fun g:Nat=>Z3b.get (Z33.get u.reg n) g:=by
 unfold tV;rw [show List.range (n+1)=List.range n++[n] from List.range_succ,List.flatMap_append];simp
theorem mo (n:Nat):(tV u n).length=3*n:=by
 induction n with
 | zero=>rfl
 | succ n ih=>rw [sH,lla,ih];simp;omega
theorem G3 (hp:PV p) (h:Iv p u):Mg (bB u) (· = zJ u):=by
 have hl:=hp.vs.1;unfold bB;refine Mg.bind (P:=(· = tV u p.length)) ?_ fun v hv=>?_
 ·refine Mg.loop (fun s=>(0<=s.2/\s.2<=(p.length:Int))/\s.1=tV u s.2.toNat) (fun s=>((p.length:Int)-s.2).toNat) ⟨⟨Int.le_refl _,by simp only [];omega⟩,rfl⟩ fun s ⟨⟨h1,h2⟩,h3⟩ => ?_;unfold dQ;simp only [h.up];refine .bifD (fun hlt=>?_) fun hge => .pure ?_
  ·obtain ⟨l,i⟩:=s;simp only at h1 h2 h3 hlt;obtain ⟨n,rfl⟩:∃ n:Nat,i=n:=⟨i.toNat,by omega⟩;simp only [tnn] at h3;subst h3;have hln:=mo (u:=u) n;refine Mg.bind (P:=(· = tV u (n+1))) ?_ fun v hv => .gdI (by omega) (.pure ⟨⟨⟨by simp only [];omega,by simp only [];omega⟩,hv⟩,by simp only [];omega⟩);refine .gdD ⟨by omega,by omega⟩ (Mg.loop (fun s=>(0<=s.2/\s.2<=3)/\s.1=tV u n++(List.range s.2.toNat).map fun g:Nat=>Z3b.get (Z33.get u.reg n) g) (fun s=>((3:Int)-s.2).toNat) ⟨⟨Int.le_refl _,(by decide:(0:Int)<=3)⟩,by simp⟩ fun s ⟨⟨a1,a2⟩,a3⟩ => ?_);unfold dC;simp only [];refine .bifD (fun hlt=>?_) fun hge => .pure ?_
   ·obtain ⟨l,j⟩:=s;simp only at a1 a2 a3 hlt;obtain ⟨g,rfl⟩:∃ g:Nat,j=g:=⟨j.toNat,by omega⟩;simp only [tnn] at a3;subst a3;have hv:=h.rv n g (by omega) (by omega);refine .gdD ⟨by omega,hlt⟩ (.gdI (by first | omega | (simp only [];omega)) (.gd (aC (by simp;omega) rfl) (.gdI (by omega) (.pure ⟨⟨⟨by simp only [];omega,by simp only [];omega⟩,?_⟩,by simp only [];omega⟩))));simp only [];rw [show ((g:Int)+1).toNat=g+1 by omega,List.range_succ,List.map_append,<- List.append_assoc]
    rfl
   ·rw [a3,sH,show s.2.toNat=3 by omega]
  ·rw [h3,show s.2.toNat=p.length by omega]
 ·subst hv;refine Mg.bind (P:=(· = zJ u)) ?_ fun v hv => .pure hv;have hln:=mo (u:=u) p.length;refine Mg.loop (fun s=>(0<=s.2/\s.2<=3)/\s.1=tV u p.length++(List.range s.2.toNat).map fun g:Nat=>Z3b.get u.mem g) (fun s=>((3:Int)-s.2).toNat) ⟨⟨Int.le_refl _,(by decide:(0:Int)<=3)⟩,by simp⟩ fun s ⟨⟨a1,a2⟩,a3⟩ => ?_;unfold dD;refine .bifD (fun hlt=>?_) fun hge => .pure ?_
  ·obtain ⟨l,j⟩:=s;simp only at a1 a2 a3 hlt;obtain ⟨g,rfl⟩:∃ g:Nat,j=g:=⟨j.toNat,by omega⟩;simp only [tnn] at a3;subst a3;have hv:=h.mv g (by omega);refine .gdD ⟨by omega,hlt⟩ (.gdI (by first | omega | (simp only [];omega)) (.gd (aC (by simp;omega) rfl) (.gdI (by omega) (.pure ⟨⟨⟨by simp only [];omega,by simp only [];omega⟩,?_⟩,by simp only [];omega⟩))));simp only [];rw [show ((g:Int)+1).toNat=g+1 by omega,List.range_succ,List.map_append,<- List.append_assoc]
   rfl
  ·rw [a3,show s.2.toNat=3 by omega];unfold zJ KW;rw [h.up]
theorem G5 (u:Md):Mg (dB ⟨u⟩) (· = strOfNums (keyL u)):=by
 unfold dB iQ;refine Mg.bind (P:=(· = strOfNums (keyL u))) (.gd rfl ?_) fun v hv => .pure hv;refine Mg.bind (P:=fun l=>l=[u.pc.x0,u.pc.x1,u.pc.x2,u.reg.x0.x0,u.reg.x0.x1,u.reg.x0.x2,u.reg.x1.x0,u.reg.x1.x1,u.reg.x1.x2,u.reg.x2.x0,u.reg.x2.x1,u.reg.x2.x2]) ?_ fun v hv=>?_
 ·refine Mg.of (v:=[u.pc.x0,u.pc.x1,u.pc.x2,u.reg.x0.x0,u.reg.x0.x1,u.reg.x0.x2,u.reg.x1.x0,u.reg.x1.x1,u.reg.x1.x2,u.reg.x2.x0,u.reg.x2.x1,u.reg.x2.x2]) ?_ rfl
  exact qR (step:=fG u) (fun i=>match i with
   | 0=>([u.pc.x0,u.pc.x1,u.pc.x2],0)
   | 1=>([u.pc.x0,u.pc.x1,u.pc.x2,u.reg.x0.x0,u.reg.x0.x1,u.reg.x0.x2],1)
   | 2=>([u.pc.x0,u.pc.x1,u.pc.x2,u.reg.x0.x0,u.reg.x0.x1,u.reg.x0.x2,u.reg.x1.x0,u.reg.x1.x1,u.reg.x1.x2],2)
   | _=>([u.pc.x0,u.pc.x1,u.pc.x2,u.reg.x0.x0,u.reg.x0.x1,u.reg.x0.x2,u.reg.x1.x0,u.reg.x1.x1,u.reg.x1.x2,u.reg.x2.x0,u.reg.x2.x1,u.reg.x2.x2],3)) 3 (fun i hi=>match i,hi with
   | 0,_=>rfl
   | 1,_=>rfl
   | 2,_=>rfl) rfl
 ·subst hv;exact .gd rfl (.pure rfl)
theorem yz:∀ {l k:LI},(∀ x∈l,0<=x/\x<=255)->(∀ x∈k,0<=x/\x<=255)->strOfNums l=strOfNums k->l=k:=fun {l k} hl hk h=>by
 have h1:(l.map fun n=>UInt8.ofNat n.toNat)=k.map fun n=>UInt8.ofNat n.toNat:=by
  rw [<- strOfNums_data,<- strOfNums_data,h]
 have h2:(l.map fun n=>UInt8.ofNat n.toNat).map (fun b=>(b.toNat:Int))=(k.map fun n=>UInt8.ofNat n.toNat).map (fun b=>(b.toNat:Int)):=by rw [h1]
 have back:∀ l:LI,(∀ x∈l,0<=x/\x<=255)->(l.map fun n=>UInt8.ofNat n.toNat).map (fun b=>(b.toNat:Int))=l:=fun l hl=>by
  rw [List.map_map]
  conv=>rhs;rw [<- List.map_id l]
  refine List.map_congr_left fun x hx=>?_;have := hl x hx;simp only [Function.comp,UInt8.toNat_ofNat',id];omega
 rwa [back l hl,back k hk] at h2
theorem Iv.keyL (hp:PV p) (h:Iv p u):∃ d:List Nat,Go.Proofs.YtlmjnhnpahicmaaGreat.keyL u=d.map Int.ofNat/\d.length=15/\∀ x∈d.zip [8,8,8,4,4,4,4,4,4,4,4,4,4,4,4],x.1<x.2:=by
 have e:∀ x:Int,0<=x->x=Int.ofNat x.toNat:=fun x hx=>(Int.toNat_of_nonneg hx).symm;have hv:=hp.vs.2;have p0:=h.pc 0 (by decide);have p1:=h.pc 1 (by decide);have p2:=h.pc 2 (by decide);have v0:=hv 0;have v1:=hv 1;have v2:=hv 2;have r00:=h.rv 0 0 (by decide) (by decide);have r01:=h.rv 0 1 (by decide) (by decide);have r02:=h.rv 0 2 (by decide) (by decide);have r10:=h.rv 1 0 (by decide) (by decide);have r11:=h.rv 1 1 (by decide) (by decide);have r12:=h.rv 1 2 (by decide) (by decide);have r20:=h.rv 2 0 (by decide) (by decide);have r21:=h.rv 2 1 (by decide) (by decide);have r22:=h.rv 2 2 (by decide) (by decide);have m0:=h.mv 0 (by decide);have m1:=h.mv 1 (by decide);have m2:=h.mv 2 (by decide);change 0<=u.pc.x0/\u.pc.x0<=_ at p0;change 0<=u.pc.x1/\u.pc.x1<=_ at p1;change 0<=u.pc.x2/\u.pc.x2<=_ at p2;change 0<=u.reg.x0.x0/\u.reg.x0.x0<=_ at r00;change 0<=u.reg.x0.x1/\u.reg.x0.x1<=_ at r01;change 0<=u.reg.x0.x2/\u.reg.x0.x2<=_ at r02;change 0<=u.reg.x1.x0/\u.reg.x1.x0<=_ at r10;change 0<=u.reg.x1.x1/\u.reg.x1.x1<=_ at r11;change 0<=u.reg.x1.x2/\u.reg.x1.x2<=_ at r12;change 0<=u.reg.x2.x0/\u.reg.x2.x0<=_ at r20;change 0<=u.reg.x2.x1/\u.reg.x2.x1<=_ at r21;change 0<=u.reg.x2.x2/\u.reg.x2.x2<=_ at r22;change 0<=u.mem.x0/\u.mem.x0<=_ at m0;change 0<=u.mem.x1/\u.mem.x1<=_ at m1;change 0<=u.mem.x2/\u.mem.x2<=_ at m2;refine ⟨(Go.Proofs.YtlmjnhnpahicmaaGreat.keyL u).map Int.toNat,?_,rfl,?_⟩
 ·unfold Go.Proofs.YtlmjnhnpahicmaaGreat.keyL;simp only [List.map_cons,List.map_nil];rw [<- e _ p0.1,<- e _ p1.1,<- e _ p2.1,<- e _ r00.1,<- e _ r01.1,<- e _ r02.1,<- e _ r10.1,<- e _ r11.1,<- e _ r12.1,<- e _ r20.1,<- e _ r21.1,<- e _ r22.1,<- e _ m0.1,<- e _ m1.1,<- e _ m2.1]
 ·unfold Go.Proofs.YtlmjnhnpahicmaaGreat.keyL;simp only [List.map_cons,List.map_nil,List.zip_cons_cons,List.zip_nil_left,List.mem_cons,List.not_mem_nil,or_false,forall_eq_or_imp,forall_eq];refine ⟨?_,?_,?_,?_,?_,?_,?_,?_,?_,?_,?_,?_,?_,?_,?_⟩ <;> omega
theorem Cj {u v:Md} (hp:u.p=v.p) (h:keyL u=keyL v):u=v:=by
 obtain ⟨p,⟨a0,a1,a2⟩,⟨⟨b0,b1,b2⟩,⟨c0,c1,c2⟩,⟨d0,d1,d2⟩⟩,⟨e0,e1,e2⟩⟩:=u;obtain ⟨p',⟨a0',a1',a2'⟩,⟨⟨b0',b1',b2'⟩,⟨c0',c1',c2'⟩,⟨d0',d1',d2'⟩⟩,⟨e0',e1',e2'⟩⟩:=v;simp only [keyL,List.cons.injEq,and_true] at h;obtain ⟨rfl,rfl,rfl,rfl,rfl,rfl,rfl,rfl,rfl,rfl,rfl,rfl,rfl,rfl,rfl⟩:=h;simp only at hp;subst hp
 rfl
end
section
variable {p:List (List Ma)} {u:Md}
theorem Iv.ins (hp:PV p) (h:Iv p u) {t:Nat} (ht:t<p.length) (hc:Bb u t=true):InR (E5 u t):=by
 have hl:=hp.vs.1;have h1:=h.pc t (by omega);unfold Bb at hc;rw [h.up] at hc;have hc:=of_decide_eq_true hc;unfold E5;rw [h.up,tnn];exact hp.ins t _ ht (by omega)
theorem Kj (hp:PV p) (h:Iv p u) {t:Nat} (ht:t<p.length) (hc:Bb u t=true):Mg (cO ⟨u⟩ t) (· = ⟨EY u t (E5 u t)⟩):=by
 have hl:=hp.vs.1;have hr7:=hp.vs.2 t;have h1:=h.pc t (by omega);have hx:=h.ins hp ht hc;unfold cO;refine (I7 hp h ht).bind fun v ⟨e1,e2⟩ => ?_;have e3:=e2 (e1.trans hc);rw [<- e3] at hx ⊢;generalize v.1=x at hx ⊢;obtain ⟨x1,x2,x3,x4,x5,x6⟩:=hx;refine .gdD ⟨by omega,by omega⟩ (.gdY (by simp only [];omega) ?_);refine Mg.bind (P:=(· = Gt u t x)) ?_ fun v4 hv4=>?_
 ·unfold gz Gt;refine .bif (fun ho => .gdD ⟨by omega,by omega⟩ (.gdD ⟨x3,by simp only [];omega⟩ (.pure ?_))) fun ho => .gdY (by simp only [];omega) (.pure ?_)
  ·rw [if_pos (by simpa using ho)]
  ·rw [if_neg (by simpa using ho)]
 subst hv4;refine Mg.bind (P:=fun w=>(⟨⟨w.1,w.2.1,w.2.2.1⟩,⟨w.2.2.2.1,w.2.2.2.2.1,w.2.2.2.2.2.1⟩,⟨w.2.2.2.2.2.2.1,w.2.2.2.2.2.2.2.1,w.2.2.2.2.2.2.2.2⟩⟩:Z33)=if rdX x=true then Z33.set u.reg t (Z3b.set (Z33.get u.reg t) x.Reg (Z3b.get u.mem x.Loc)) else u.reg) ?_ fun w5 hw5=>?_
 ·refine (EU _).bind fun b hb=>?_;have hb':b=rdX x:=hb;refine .bif (fun hc => .gdD ⟨x1,by omega⟩ (.gdD ⟨x3,by omega⟩ (.pure ?_))) fun hc => .pure ?_
  ·rw [if_pos (by rw [<- hb'];exact hc)]
  ·rw [if_neg (by rw [<- hb',hc];decide)]
 refine Mg.bind (P:=fun w=>(⟨w.1,w.2.1,w.2.2⟩:Z3b)=if wrX x=true then Z3b.set u.mem x.Loc (Gt u t x) else u.mem) ?_ fun w10 hw10 => .pure ?_
 ·refine (sG _).bind fun b hb=>?_;have hb':b=wrX x:=hb;refine .bif (fun hc => .gdD ⟨x1,by omega⟩ (.pure ?_)) fun hc => .pure ?_
  ·rw [if_pos (by rw [<- hb'];exact hc)]
  ·rw [if_neg (by rw [<- hb',hc];decide)]
 ·unfold EY;rw [hw5,hw10]
theorem Iv.after (h:Iv p u) {t:Nat} (ht:t<3) (hc:Bb u t=true) {x:Ma} (hx:InR x):Iv p (EY u t x):=by
 obtain ⟨x1,x2,x3,x4,x5,x6⟩:=hx;obtain ⟨l,hlx⟩:∃ l:Nat,x.Loc=l:=⟨x.Loc.toNat,by omega⟩;obtain ⟨g,hgx⟩:∃ g:Nat,x.Reg=g:=⟨x.Reg.toNat,by omega⟩;unfold Bb at hc;rw [h.up] at hc;have hc:=of_decide_eq_true hc;have hvv:0<=Gt u t x/\Gt u t x<=3:=by
  unfold Gt
  split
  ·rw [hgx];exact h.rv t g ht (by omega)
  ·omega
 unfold EY;refine ⟨h.up,fun i hi=>?_,fun t' g' ht' hg' => ?_,fun l' hl' => ?_⟩
 ·simp only [];rw [m7 _ _ _ _ (by omega) (by omega)]
  by_cases e:i=t
  ·subst e;have := h.pc i hi;rw [if_pos rfl];omega
  ·rw [if_neg (by omega)];exact h.pc i hi
 ·simp only []
  split
  ·rw [zI _ _ _ _ (by omega) (by omega)]
   by_cases e:t'=t
   ·subst e;rw [if_pos rfl,hgx,m7 _ _ _ _ (by omega) (by omega)]
    by_cases e2:g'=g
    ·subst e2;rw [if_pos rfl,hlx];exact h.mv l (by omega)
    ·rw [if_neg (by omega)];exact h.rv t' g' ht' hg'
   ·rw [if_neg (by omega)];exact h.rv t' g' ht' hg'
  ·exact h.rv t' g' ht' hg'
 ·simp only []
  split
  ·rw [hlx,m7 _ _ _ _ (by omega) (by omega)]
   split
   ·exact hvv
   ·exact h.mv l' hl'
  ·exact h.mv l' hl'
def v0 (p:List (List Ma)):Md:=⟨p,⟨0,0,0⟩,⟨⟨0,0,0⟩,⟨0,0,0⟩,⟨0,0,0⟩⟩,⟨0,0,0⟩⟩
theorem z3 (i:Int):Z3b.get ⟨0,0,0⟩ i=0:=by
 simp only [Z3b.get]
 split <;> (try split) <;> rfl
theorem z33 (i:Int):Z33.get ⟨⟨0,0,0⟩,⟨0,0,0⟩,⟨0,0,0⟩⟩ i=⟨0,0,0⟩:=by
 simp only [Z33.get]
 split <;> (try split) <;> rfl
theorem Iv.start (p:List (List Ma)):Iv p (v0 p):=by
 refine ⟨rfl,fun t _=>?_,fun t g _ _=>?_,fun l _=>?_⟩
 ·unfold v0;simp only [z3];omega
 ·unfold v0;simp only [z33,z3];decide
 ·unfold v0;simp only [z3];decide
theorem oI (hp:PV p) {s0 s:Me} (h0:Iv p s0.values) (h:Rea JV s0 s):Iv p s.values:=by
 induction h with
 | base=>exact h0
 | step _ hm ih=>
  obtain ⟨t,h1,rfl,h2⟩:=m8.1 hm;rw [ih.up] at h1;have hl:=hp.vs.1;exact ih.after (by omega) h2 (ih.ins hp h1 h2)
def bas:List Nat:=[8,8,8,4,4,4,4,4,4,4,4,4,4,4,4]
def dig (u:Md):List (Nat×Nat):=((keyL u).map Int.toNat).zip bas
theorem Bc (u:Md):(dig u).map (·.2)=bas:=rfl
theorem E8 (u:Md):(dig u).map (·.1)=(keyL u).map Int.toNat:=rfl
theorem Cm:∀ l:List (Nat×Nat),Dm l=(l.map (·.2)).foldr (· * ·) 1
 | []=>rfl
 | (_,b)::l=>congrArg (b * ·) (Cm l)
theorem G6 (u:Md):Dm (dig u)=8589934592:=by
 rw [Cm,Bc]
 decide
theorem digits (hp:PV p) (h:Iv p u):∀ x∈dig u,x.1<x.2:=by
 obtain ⟨d,h1,_,h2⟩:=h.keyL hp;unfold dig;rw [h1,List.map_map];have : d.map (Int.toNat ∘ Int.ofNat)=d:=by
  conv=>rhs;rw [<- List.map_id d]
  exact List.map_congr_left fun _ _=>rfl
 rw [this];exact h2
theorem I8 (hp:PV p) {u v:Md} (hu:Iv p u) (hv:Iv p v) (h:qg (dig u)=qg (dig v)):(keyL u).map Int.toNat=(keyL v).map Int.toNat:=by
 rw [<- E8,<- E8,zH (dig u) (dig v) ((Bc u).trans (Bc v).symm) (digits hp hu) (digits hp hv) h]
theorem Cn (hp:PV p) (h:Iv p u):∀ x∈keyL u,0<=x/\x<=255:=by
 obtain ⟨d,h1,h3,h2⟩:=h.keyL hp;rw [h1];intro x hx;obtain ⟨n,hn,rfl⟩:=List.mem_map.1 hx;obtain ⟨j,hj,rfl⟩:=List.getElem_of_mem hn;have hz:j<(d.zip [8,8,8,4,4,4,4,4,4,4,4,4,4,4,4]).length:=by simp;omega
 have h4:=h2 _ (List.getElem_mem hz);rw [List.getElem_zip] at h4;have h5:∀ b∈[8,8,8,4,4,4,4,4,4,4,4,4,4,4,4],b<=8:=by decide
 have h6:=h5 _ (List.getElem_mem (l:=[8,8,8,4,4,4,4,4,4,4,4,4,4,4,4]) (n:=j) (by simp;omega));simp only at h4
 constructor
 ·exact Int.natCast_nonneg _
 ·show ((d[j]:Nat):Int)<=255;omega
theorem G7 (hp:PV p) {u v:Md} (hu:Iv p u) (hv:Iv p v) (h:(keyL u).map Int.toNat=(keyL v).map Int.toNat):keyL u=keyL v:=by
 have back:∀ l:LI,(∀ x∈l,0<=x/\x<=255)->(l.map Int.toNat).map Int.ofNat=l:=fun l hl=>by
  rw [List.map_map]
  conv=>rhs;rw [<- List.map_id l]
  refine List.map_congr_left fun x hx=>?_;exact Int.toNat_of_nonneg (hl x hx).1
 rw [<- back _ (Cn hp hu),<- back _ (Cn hp hv),h]
theorem I9 (hp:PV p) {s0:Me} (h0:Iv p s0.values):Mok JV s0 8589934592 where
 key:=fun s t hs ht h=>by
  have h1:=oI hp h0 hs;have h2:=oI hp h0 ht;have := Cj (h1.up.trans h2.up.symm) (yz (Cn hp h1) (Cn hp h2) h)
  cases s;cases t
  simp only at this;rw [this]
 cnt:=fun V hn hV=>by
  have hI:∀ v∈V,Iv p v.values:=fun v hv=>oI hp h0 (hV v hv);refine GZ (fun v=>qg (dig v.values)) _ V hn (fun v hv=>?_) fun s hs t ht h=>?_
  ·have := Cc _ (digits hp (hI v hv))
   rwa [G6] at this
  ·have h3:=I8 hp (hI s hs) (hI t ht) h;have := Cj ((hI s hs).up.trans (hI t ht).up.symm) (G7 hp (hI s hs) (hI t ht) h3)
   cases s;cases t
   simp only at this;rw [this]
theorem Ja (hp:PV p) {s0:Me} (h0:Iv p s0.values):Mrt cN cO dB dP (fun s=>bB s.values) JV s0 where
 mv:=fun s hs=>Ki hp (oI hp h0 hs)
 af:=fun s m hs hm=>by
  have h1:=oI hp h0 hs;obtain ⟨t,h2,rfl,h3⟩:=m8.1 hm;rw [h1.up] at h2;exact Kj hp h1 h2 h3
 ky:=fun s hs=>G5 s.values
 dn:=fun s hs=>Lc hp (oI hp h0 hs)
 oc:=fun s hs _=>G3 hp (oI hp h0 hs)
 len:=fun s hs=>by
  have h1:=Ci (u:=s.values) s.values.p.length;have h2:=(oI hp h0 hs).up;have h3:=hp.vs.1;rw [h2] at h1;show (yx s.values).length<=_;unfold yx;rw [h2];omega
theorem G8 (u:Md):(zJ u).length=3*u.p.length+3:=by
 unfold zJ KW;rw [lla,mo]
 rfl
def Jb (p:List (List Ma)):LI->Prop:=KV JV ⟨v0 p⟩
theorem E9 (hp:PV p):Mg (cA ⟨v0 p⟩) fun q=>q.1.Pairwise ltL/\∀ o,o∈q.1↔Jb p o:=by
 have h0:Iv p (⟨v0 p⟩:Me).values:=Iv.start p;have e:cA ⟨v0 p⟩=Lb cN cO dB dP (fun s=>bB s.values) aW ⟨v0 p⟩:=rfl;rw [e];have hQ:∀ l:LL,l.length<=8589934592->(∀ o∈l,Jb p o)->Mg (aW l) (Sor l):=fun l hl ho=>xx (by omega) fun r hr=>by
  obtain ⟨s,h1,_,rfl⟩:=ho r hr;have h2:=(oI hp h0 h1).up;have h3:=hp.vs.1;show (zJ s.values).length<=_;rw [G8,h2];omega
 refine (I6 (I9 hp h0) (Ja hp h0) (by decide) hQ).mono fun q ⟨l,h1,h2,_⟩=>⟨h1.lt,fun o=>(h1.mem o).trans (h2 o)⟩
theorem Dn (hp:PV p) (hv:au p=some true):Mg (eF p) fun q=>q.Pairwise ltL/\∀ o,o∈q↔Jb p o:=by
 unfold eF;rw [hv];refine Mg.bind (P:=(· = true)) (.pure rfl) fun b hb => .bif (fun h=>absurd h (by rw [hb];decide)) fun _=>?_;exact Mg.bind (P:=fun s:Me=>s=⟨v0 p⟩) (.pure rfl) fun v hv=>Mg.bind (P:=fun q:LL×Int=>q.1.Pairwise ltL/\∀ o,o∈q.1↔Jb p o) (hv ▸ E9 hp) fun q hq => .pure hq
theorem Dq (hv:au p=some false):eF p=some []:=by
 unfold eF;rw [hv]
 rfl
end
end
end Go.Proofs.YtlmjnhnpahicmaaGreat
