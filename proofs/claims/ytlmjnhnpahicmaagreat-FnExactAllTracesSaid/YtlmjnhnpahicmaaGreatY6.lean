/- Texts joined. No conditions. -/
import Derived.Test.YtlmjnhnpahicmaaGreatY5
namespace Go.Proofs.YtlmjnhnpahicmaaGreat
noncomputable section
open Go.RowKit
set_option maxRecDepth 100000
def vK (p:List (List Jh)):Option ZSq:= some (⟨(⟨p,(⟨(0:Int),(0:Int),(0:Int)⟩:Z3b),(⟨(⟨(0:Int),(0:Int),(0:Int)⟩:Z3b),(⟨(0:Int),(0:Int),(0:Int)⟩:Z3b),(⟨(0:Int),(0:Int),(0:Int)⟩:Z3b)⟩:Z33),(⟨(0:Int),(0:Int),(0:Int)⟩:Z3b)⟩:Jk)⟩:ZSq)
def iJ (v:Jk):((LI)×Int)->Option (((LI)×Int) ⊕ (LI)):=fun s6=>bif decide (s6.2<(3:Int)) then gd (decide (0<=s6.2/\s6.2<3)) <|gd (aQ (s6.1.length+([(⟨(Z33.get v.reg s6.2).x0,(Z33.get v.reg s6.2).x1,(Z33.get v.reg s6.2).x2⟩:Z3b).x0,(⟨(Z33.get v.reg s6.2).x0,(Z33.get v.reg s6.2).x1,(Z33.get v.reg s6.2).x2⟩:Z3b).x1,(⟨(Z33.get v.reg s6.2).x0,(Z33.get v.reg s6.2).x1,(Z33.get v.reg s6.2).x2⟩:Z3b).x2]:LI).length) 1) <|gd (Jf .i64 (s6.2+(1:Int))) <|some (.inl ((s6.1++([(⟨(Z33.get v.reg s6.2).x0,(Z33.get v.reg s6.2).x1,(Z33.get v.reg s6.2).x2⟩:Z3b).x0,(⟨(Z33.get v.reg s6.2).x0,(Z33.get v.reg s6.2).x1,(Z33.get v.reg s6.2).x2⟩:Z3b).x1,(⟨(Z33.get v.reg s6.2).x0,(Z33.get v.reg s6.2).x1,(Z33.get v.reg s6.2).x2⟩:Z3b).x2]:LI)),(s6.2+(1:Int)))) else some (.inr s6.1)
def oq (v:Jk):Option ByteArray:= gd (aQ (([]:LI).length+([v.pc.x0,v.pc.x1,v.pc.x2]:LI).length) 1) <|Option.bind (loopO (iJ v) ((([]:LI)++([v.pc.x0,v.pc.x1,v.pc.x2]:LI)),(0:Int))) fun s2=>gd (aQ (s2.length+([v.mem.x0,v.mem.x1,v.mem.x2]:LI).length) 1) <|some (strOfNums (s2++([v.mem.x0,v.mem.x1,v.mem.x2]:LI)))
def cf (v:Jk) (t:Int):Option (Jh×Bool):= gd (decide (0<=t/\t<3)) <|gd (Jf .i64 (Z3b.get v.pc t)) <|gd (decide (0<=t/\t<(v.p.length:Int))) <|bif decide (((v.p.getD t.toNat default).length:Int)<=(Z3b.get v.pc t)) then some ((⟨(0:Int),(0:Int),(0:Int),(0:Int)⟩:Jh),false) else gd (decide (0<=(Z3b.get v.pc t)/\(Z3b.get v.pc t)<((v.p.getD t.toNat default).length:Int))) <|some ((⟨((v.p.getD t.toNat default).getD (Z3b.get v.pc t).toNat default).Op,((v.p.getD t.toNat default).getD (Z3b.get v.pc t).toNat default).Loc,((v.p.getD t.toNat default).getD (Z3b.get v.pc t).toNat default).Reg,((v.p.getD t.toNat default).getD (Z3b.get v.pc t).toNat default).Val⟩:Jh),true)
def fS (v:Jk):Int->Option (Int ⊕ (Unit ⊕ Bool)):=fun s4=>bif decide (s4<(v.p.length:Int)) then Option.bind (cf v s4) fun v7=>bif v7.2 then some (.inr (.inr false)) else gd (Jf .i64 (s4+(1:Int))) <|some (.inl (s4+(1:Int))) else some (.inr (.inl ()))
def iK (v:Jk):Option Bool:= sumK (loopO (fS v) (0:Int)) fun s1=>some true
def gB (s:ZSq):Option Bool:= Option.bind (iK s.values) fun v1=>some v1
def bv (v:Jk) (s7:(LI)×Int):((LI)×Int)->Option (((LI)×Int) ⊕ (LI)):=fun s20=>bif decide (s20.2<(3:Int)) then gd (decide (0<=s20.2/\s20.2<3)) <|gd (Jf .i64 (Z3b.get (Z33.get v.reg s7.2) s20.2)) <|gd (aQ (s20.1.length+1) 8) <|gd (Jf .i64 (s20.2+(1:Int))) <|some (.inl ((s20.1++[(Z3b.get (Z33.get v.reg s7.2) s20.2)]),(s20.2+(1:Int)))) else some (.inr s20.1)
def bA (v:Jk):((LI)×Int)->Option (((LI)×Int) ⊕ (LI)):=fun s7=>bif decide (s7.2<(v.p.length:Int)) then Option.bind (gd (decide (0<=s7.2/\s7.2<3)) <|loopO (bv v s7) (s7.1,(0:Int))) fun s13=>gd (Jf .i64 (s7.2+(1:Int))) <|some (.inl (s13,(s7.2+(1:Int)))) else some (.inr s7.1)
def bw (v:Jk):((LI)×Int)->Option (((LI)×Int) ⊕ (LI)):=fun s43=>bif decide (s43.2<(3:Int)) then gd (decide (0<=s43.2/\s43.2<3)) <|gd (Jf .i64 (Z3b.get v.mem s43.2)) <|gd (aQ (s43.1.length+1) 8) <|gd (Jf .i64 (s43.2+(1:Int))) <|some (.inl ((s43.1++[(Z3b.get v.mem s43.2)]),(s43.2+(1:Int)))) else some (.inr s43.1)
def aS (v:Jk):Option (LI):= Option.bind (loopO (bA v) (([]:LI),(0:Int))) fun s1=>Option.bind (loopO (bw v) (s1,(0:Int))) fun s37=>some s37
def jy (s:ZSq):((LI)×Int)->Option (((LI)×Int) ⊕ (LI)):=fun s7=>bif decide (s7.2<(s.values.p.length:Int)) then Option.bind (Option.bind (cf s.values s7.2) fun v14=>bif v14.2 then gd (aQ (s7.1.length+1) 8) <|some (s7.1++[s7.2]) else some s7.1) fun s13=>gd (Jf .i64 (s7.2+(1:Int))) <|some (.inl (s13,(s7.2+(1:Int)))) else some (.inr s7.1)
def iR (s:ZSq):Option (LI):= Option.bind (loopO (jy s) (([]:LI),(0:Int))) fun s1=>some s1
def iZ (v:Jk) (t:Int) (x:Jh):Option Int:= bif (x.Op==(3:Int)) then gd (decide (0<=t/\t<3)) <|gd (decide (0<=x.Reg/\x.Reg<3)) <|some (Z3b.get (Z33.get v.reg t) x.Reg) else gd (Jf .u8 x.Val) <|some x.Val
def bB (x:Jh):Option Bool:= Option.bind (bif (x.Op==(1:Int)) then some true else some (x.Op==(5:Int))) fun s1=>some s1
def aT (x:Jh):Option Bool:= Option.bind (bif (x.Op==(2:Int)) then some true else some (x.Op==(3:Int))) fun s1=>Option.bind (bif s1 then some true else some (x.Op==(5:Int))) fun s3=>some s3
def iS (s:ZSq) (t:Int):Option ZSq:= Option.bind (cf s.values t) fun v1=>gd (decide (0<=t/\t<3)) <|gd (Jf .u8 ((Z3b.get s.values.pc t)+(1:Int))) <|Option.bind (iZ s.values t (⟨v1.1.Op,v1.1.Loc,v1.1.Reg,v1.1.Val⟩:Jh)) fun v4=>Option.bind (Option.bind (bB (⟨v1.1.Op,v1.1.Loc,v1.1.Reg,v1.1.Val⟩:Jh)) fun v6=>bif v6 then gd (decide (0<=v1.1.Loc/\v1.1.Loc<3)) <|gd (decide (0<=v1.1.Reg/\v1.1.Reg<3)) <|some (((Z33.set s.values.reg t (Z3b.set (Z33.get s.values.reg t) v1.1.Reg (Z3b.get s.values.mem v1.1.Loc))).x0).x0,((Z33.set s.values.reg t (Z3b.set (Z33.get s.values.reg t) v1.1.Reg (Z3b.get s.values.mem v1.1.Loc))).x0).x1,((Z33.set s.values.reg t (Z3b.set (Z33.get s.values.reg t) v1.1.Reg (Z3b.get s.values.mem v1.1.Loc))).x0).x2,((Z33.set s.values.reg t (Z3b.set (Z33.get s.values.reg t) v1.1.Reg (Z3b.get s.values.mem v1.1.Loc))).x1).x0,((Z33.set s.values.reg t (Z3b.set (Z33.get s.values.reg t) v1.1.Reg (Z3b.get s.values.mem v1.1.Loc))).x1).x1,((Z33.set s.values.reg t (Z3b.set (Z33.get s.values.reg t) v1.1.Reg (Z3b.get s.values.mem v1.1.Loc))).x1).x2,((Z33.set s.values.reg t (Z3b.set (Z33.get s.values.reg t) v1.1.Reg (Z3b.get s.values.mem v1.1.Loc))).x2).x0,((Z33.set s.values.reg t (Z3b.set (Z33.get s.values.reg t) v1.1.Reg (Z3b.get s.values.mem v1.1.Loc))).x2).x1,((Z33.set s.values.reg t (Z3b.set (Z33.get s.values.reg t) v1.1.Reg (Z3b.get s.values.mem v1.1.Loc))).x2).x2) else some (s.values.reg.x0.x0,s.values.reg.x0.x1,s.values.reg.x0.x2,s.values.reg.x1.x0,s.values.reg.x1.x1,s.values.reg.x1.x2,s.values.reg.x2.x0,s.values.reg.x2.x1,s.values.reg.x2.x2)) fun s5=>Option.bind (Option.bind (aT (⟨v1.1.Op,v1.1.Loc,v1.1.Reg,v1.1.Val⟩:Jh)) fun v11=>bif v11 then gd (decide (0<=v1.1.Loc/\v1.1.Loc<3)) <|some ((Z3b.set s.values.mem v1.1.Loc v4).x0,(Z3b.set s.values.mem v1.1.Loc v4).x1,(Z3b.set s.values.mem v1.1.Loc v4).x2) else some (s.values.mem.x0,s.values.mem.x1,s.values.mem.x2)) fun s10=>some (⟨(⟨s.values.p,(⟨(Z3b.set s.values.pc t ((Z3b.get s.values.pc t)+(1:Int))).x0,(Z3b.set s.values.pc t ((Z3b.get s.values.pc t)+(1:Int))).x1,(Z3b.set s.values.pc t ((Z3b.get s.values.pc t)+(1:Int))).x2⟩:Z3b),(⟨(⟨s5.1,s5.2.1,s5.2.2.1⟩:Z3b),(⟨s5.2.2.2.1,s5.2.2.2.2.1,s5.2.2.2.2.2.1⟩:Z3b),(⟨s5.2.2.2.2.2.2.1,s5.2.2.2.2.2.2.2.1,s5.2.2.2.2.2.2.2.2⟩:Z3b)⟩:Z33),(⟨s10.1,s10.2.1,s10.2.2⟩:Z3b)⟩:Jk)⟩:ZSq)
def fg (s1_:LI) (s2_:LI):Int->Option (Int ⊕ (Unit ⊕ Bool)):=fun s5=>bif decide (s5<(s1_.length:Int)) then gd (decide (0<=s5/\s5<(s1_.length:Int))) <|gd (decide (0<=s5/\s5<(s2_.length:Int))) <|bif ((s1_.getD s5.toNat default) != (s2_.getD s5.toNat default)) then some (.inr (.inr false)) else gd (Jf .i64 (s5+(1:Int))) <|some (.inl (s5+(1:Int))) else some (.inr (.inl ()))
def bN (s1_:LI) (s2_:LI):Option Bool:= bif ((s1_.length:Int) != (s2_.length:Int)) then some false else sumK (loopO (fg s1_ s2_) (0:Int)) fun s2=>some true
def bf (a:LI) (b:LI):Option Bool:= Option.bind (bN a b) fun v1=>some v1
def aA (s8:(LL)×Int):((LL)×Int×Int)->Option (((LL)×Int×Int) ⊕ ((LL)×Int)):=fun s25=>bif decide (s25.2.1<((((s8.1.length:Int).toNat-s8.2.toNat):Nat):Int)) then Option.bind (gd (decide ((0<=s25.2.1/\s25.2.1<((((s8.1.length:Int).toNat-s8.2.toNat):Nat):Int))/\((0+s8.2.toNat)+s25.2.1.toNat)<s25.1.length)) <|gd (Jf .i64 (s25.2.1-(1:Int))) <|gd (decide ((0<=(s25.2.1-(1:Int))/\(s25.2.1-(1:Int))<((((s8.1.length:Int).toNat-s8.2.toNat):Nat):Int))/\((0+s8.2.toNat)+(s25.2.1-(1:Int)).toNat)<s25.1.length)) <|Option.bind (bf (s25.1.getD ((0+s8.2.toNat)+s25.2.1.toNat) default) (s25.1.getD ((0+s8.2.toNat)+(s25.2.1-(1:Int)).toNat) default)) fun v33=>bif !v33 then gd (decide (0<=s25.2.2/\s25.2.2<(s25.1.length:Int))) <|gd (Jf .i64 (s25.2.2+(1:Int))) <|some ((s25.1.set s25.2.2.toNat (s25.1.getD ((0+s8.2.toNat)+s25.2.1.toNat) default)),(s25.2.2+(1:Int))) else some (s25.1,s25.2.2)) fun s29=>gd (Jf .i64 (s25.2.1+(1:Int))) <|some (.inl (s29.1,(s25.2.1+(1:Int)),s29.2)) else some (.inr (s25.1,s25.2.2))
def aC:((LL)×Int)->Option (((LL)×Int) ⊕ ((LL) ⊕ (LL))):=fun s8=>bif decide (s8.2<(s8.1.length:Int)) then sumK (gd (decide (0<=s8.2/\s8.2<(s8.1.length:Int))) <|gd (Jf .i64 (s8.2-(1:Int))) <|gd (decide (0<=(s8.2-(1:Int))/\(s8.2-(1:Int))<(s8.1.length:Int))) <|Option.bind (bf (s8.1.getD s8.2.toNat default) (s8.1.getD ((s8.2-(1:Int)).toNat) default)) fun v18=>bif v18 then gd (decide (0<=s8.2/\s8.2<=(s8.1.length:Int)/\(s8.1.length:Int)<=(s8.1.length:Int))) <|Option.bind (loopO (aA s8) (s8.1,(1:Int),s8.2)) fun s21=>gd (decide (0<=s21.2/\s21.2<=(s21.1.length:Int)/\(s21.1.length:Int)<=(s21.1.length:Int))) <|gd (decide (0<=(0:Int)/\(0:Int)<=s21.2/\s21.2<=(s21.1.length:Int))) <|some (.inr (.inr (.inr (((cpy s21.1 (0+s21.2.toNat) (List.replicate ((s21.1.length:Int).toNat-s21.2.toNat) (default:LI)) ((s21.1.length:Int).toNat-s21.2.toNat)).drop (0:Int).toNat).take (s21.2.toNat-(0:Int).toNat))))) else some (.inl ())) fun s14=>gd (Jf .i64 (s8.2+(1:Int))) <|some (.inl (s8.1,(s8.2+(1:Int)))) else some (.inr (.inl s8.1))
def aj (s:LL):Option (LL):= bif decide ((s.length:Int)<(2:Int)) then some s else sumK (loopO aC (s,(1:Int))) fun s2=>some s2
def cg (list:LL):Option (LL):= Option.bind (cZ list) fun v1=>Option.bind (aj v1) fun v2=>some v2
def fo (s:LI) (v:Int):Int->Option (Int ⊕ (Unit ⊕ Int)):=fun s4=>bif decide (s4<(s.length:Int)) then gd (decide (0<=s4/\s4<(s.length:Int))) <|bif (v==(s.getD s4.toNat default)) then some (.inr (.inr s4)) else gd (Jf .i64 (s4+(1:Int))) <|some (.inl (s4+(1:Int))) else some (.inr (.inl ()))
def gZ (s:LI) (v:Int):Option Int:= sumK (loopO (fo s v) (0:Int)) fun s1=>some (-1:Int)
def cH (s:LI) (v:Int):Option Bool:= Option.bind (gZ s v) fun v1=>some (decide ((0:Int)<=v1))
def ai (moves:LI):(Int×ZSq)->Option ((Int×ZSq) ⊕ (ZSq ⊕ ((Option ZSq)×Bool))):=fun s4=>bif decide (s4.1<(moves.length:Int)) then gd (decide (0<=s4.1/\s4.1<(moves.length:Int))) <|Option.bind (iR s4.2) fun v8=>Option.bind (cH v8 (moves.getD s4.1.toNat default)) fun v9=>bif !v9 then some (.inr (.inr (none,false))) else Option.bind (iS s4.2 (moves.getD s4.1.toNat default)) fun v11=>gd (Jf .i64 (s4.1+(1:Int))) <|some (.inl ((s4.1+(1:Int)),v11)) else some (.inr (.inl s4.2))
def dC (s:ZSq) (moves:LI):Option ((Option ZSq)×Bool):= sumK (loopO (ai moves) ((0:Int),s)) fun s1=>some ((some s1),true)
def cJ (s:ZSq) (moves:LI):Option ((LI)×Bool):= Option.bind (dC s moves) fun v1=>Option.bind (bif !v1.2 then some true else gd (v1.1.isSome) <|Option.bind (gB (v1.1.getD default)) fun v5=>some (!v5)) fun s2=>bif s2 then some (([]:LI),false) else gd (v1.1.isSome) <|Option.bind (aS ((v1.1.getD default).values)) fun v8=>some (v8,true)
def aN (p:List (List Jh)) (schedule:LI):Option ((LI)×Bool):= Option.bind (az p) fun v1=>bif !v1 then some (([]:LI),false) else Option.bind (vK p) fun v3=>Option.bind (cJ v3 schedule) fun v4=>some (v4.1,v4.2)
def iT:((List Jj)×Int)->Option (((List Jj)×Int) ⊕ (List Jj)):=fun s7=>bif decide (s7.2<(3:Int)) then gd (aQ (s7.1.length+1) 32) <|gd (Jf .i64 (s7.2+(1:Int))) <|some (.inl ((s7.1++[(⟨(-1:Int),s7.2,s7.2,false,true⟩:Jj)]),(s7.2+(1:Int)))) else some (.inr s7.1)
def il (p:List (List Jh)) (s24:(List Jj)×Int):((List Jj)×Int)->Option (((List Jj)×Int) ⊕ (List Jj)):=fun s37=>bif decide (s37.2<((p.getD s24.2.toNat default).length:Int)) then Option.bind (gd (decide (0<=s37.2/\s37.2<((p.getD s24.2.toNat default).length:Int))) <|bif ((((p.getD s24.2.toNat default).getD s37.2.toNat default).Op) != (4:Int)) then Option.bind (bB (⟨((p.getD s24.2.toNat default).getD s37.2.toNat default).Op,((p.getD s24.2.toNat default).getD s37.2.toNat default).Loc,((p.getD s24.2.toNat default).getD s37.2.toNat default).Reg,((p.getD s24.2.toNat default).getD s37.2.toNat default).Val⟩:Jh)) fun v46=>Option.bind (aT (⟨((p.getD s24.2.toNat default).getD s37.2.toNat default).Op,((p.getD s24.2.toNat default).getD s37.2.toNat default).Loc,((p.getD s24.2.toNat default).getD s37.2.toNat default).Reg,((p.getD s24.2.toNat default).getD s37.2.toNat default).Val⟩:Jh)) fun v47=>gd (aQ (s37.1.length+1) 32) <|some (s37.1++[(⟨s24.2,s37.2,((p.getD s24.2.toNat default).getD s37.2.toNat default).Loc,v46,v47⟩:Jj)]) else some s37.1) fun s43=>gd (Jf .i64 (s37.2+(1:Int))) <|some (.inl (s43,(s37.2+(1:Int)))) else some (.inr s37.1)
def iq (p:List (List Jh)):((List Jj)×Int)->Option (((List Jj)×Int) ⊕ (List Jj)):=fun s24=>bif decide (s24.2<(p.length:Int)) then Option.bind (gd (decide (0<=s24.2/\s24.2<(p.length:Int))) <|loopO (il p s24) (s24.1,(0:Int))) fun s30=>gd (Jf .i64 (s24.2+(1:Int))) <|some (.inl (s30,(s24.2+(1:Int)))) else some (.inr s24.1)
def jf (p:List (List Jh)):Option (List Jj):= Option.bind (loopO iT (([]:List Jj),(0:Int))) fun s1=>Option.bind (loopO (iq p) (s1,(0:Int))) fun s18=>some s18
def dD (list:List Jj) (loc:Int):((LI)×Int)->Option (((LI)×Int) ⊕ (LI)):=fun s7=>bif decide (s7.2<(list.length:Int)) then Option.bind (gd (decide (0<=s7.2/\s7.2<(list.length:Int))) <|Option.bind (bif (list.getD s7.2.toNat default).Writes then some (((list.getD s7.2.toNat default).Loc)==loc) else some false) fun s15=>bif s15 then gd (aQ (s7.1.length+1) 8) <|some (s7.1++[s7.2]) else some s7.1) fun s13=>gd (Jf .i64 (s7.2+(1:Int))) <|some (.inl (s13,(s7.2+(1:Int)))) else some (.inr s7.1)
def bV (list:List Jj) (loc:Int):Option (LI):= Option.bind (loopO (dD list loc) (([]:LI),(0:Int))) fun s1=>some s1
def da (k_:Int) (a1:Int):Option Bool:= some (k_==a1)
def aY (s:LI) (f0:Int):Int->Option (Int ⊕ (Unit ⊕ Int)):=fun s4=>bif decide (s4<(s.length:Int)) then gd (decide (0<=s4/\s4<(s.length:Int))) <|Option.bind (da (s.getD s4.toNat default) f0) fun v8=>bif v8 then some (.inr (.inr s4)) else gd (Jf .i64 (s4+(1:Int))) <|some (.inl (s4+(1:Int))) else some (.inr (.inl ()))
def aL (s:LI) (f0:Int):Option Int:= sumK (loopO (aY s f0) (0:Int)) fun s1=>some (-1:Int)
def aF (del0:Int):((LI)×Int×Int)->Option (((LI)×Int×Int) ⊕ ((LI)×Int)):=fun s10=>bif decide (s10.2.1<(s10.1.length:Int)) then Option.bind (gd (decide (0<=s10.2.1/\s10.2.1<(s10.1.length:Int))) <|Option.bind (da (s10.1.getD s10.2.1.toNat default) del0) fun v18=>bif !v18 then gd (decide (0<=s10.2.2/\s10.2.2<(s10.1.length:Int))) <|gd (Jf .i64 (s10.2.2+(1:Int))) <|some ((s10.1.set s10.2.2.toNat (s10.1.getD s10.2.1.toNat default)),(s10.2.2+(1:Int))) else some (s10.1,s10.2.2)) fun s16=>gd (Jf .i64 (s10.2.1+(1:Int))) <|some (.inl (s16.1,(s10.2.1+(1:Int)),s16.2)) else some (.inr (s10.1,s10.2.2))
def aB (s:LI) (del0:Int):Option (LI):= Option.bind (aL s del0) fun v1=>bif (v1==(-1:Int)) then some s else Option.bind (gd (Jf .i64 (v1+(1:Int))) <|loopO (aF del0) (s,(v1+(1:Int)),v1)) fun s3=>gd (decide ((0:Int)<=(0:Int)/\(0:Int)<(s3.1.length:Int))) <|gd (decide (0<=s3.2/\s3.2<=(s3.1.length:Int)/\(s3.1.length:Int)<=(s3.1.length:Int))) <|gd (decide (0<=(0:Int)/\(0:Int)<=s3.2/\s3.2<=(s3.1.length:Int))) <|some (((cpy s3.1 (0+s3.2.toNat) (List.replicate ((s3.1.length:Int).toNat-s3.2.toNat) (default:Int)) ((s3.1.length:Int).toNat-s3.2.toNat)).drop (0:Int).toNat).take (s3.2.toNat-(0:Int).toNat))
def aG (s:LI):Option (LI):= GI (s.isEmpty) (some ([]:LI)) (gd (aQ (([]:LI).length+s.length) 8) <|some (([]:LI)++s))
def iw (writes:LI) (s8:(LL)×Int) (v25:(LL)):((LL)×Int)->Option (((LL)×Int) ⊕ (LL)):=fun s31=>bif decide (s31.2<(v25.length:Int)) then gd (decide (0<=s31.2/\s31.2<(v25.length:Int))) <|gd (aQ (([(writes.getD s8.2.toNat default)]:LI).length+(v25.getD s31.2.toNat default).length) 8) <|gd (aQ (s31.1.length+1) 24) <|gd (Jf .i64 (s31.2+(1:Int))) <|some (.inl ((s31.1++[(([(writes.getD s8.2.toNat default)]:LI)++(v25.getD s31.2.toNat default))]),(s31.2+(1:Int)))) else some (.inr s31.1)
def fD (rcf:(LI)->Option (LL)) (writes:LI):((LL)×Int)->Option (((LL)×Int) ⊕ (LL)):=fun s8=>bif decide (s8.2<(writes.length:Int)) then Option.bind (gd (decide (0<=s8.2/\s8.2<(writes.length:Int))) <|Option.bind (aG writes) fun v16=>gd (Jf .i64 (s8.2+(1:Int))) <|Option.bind (ju v16 s8.2 (s8.2+(1:Int))) fun v21=>Option.bind (rcf v21) fun v25=>loopO (iw writes s8 v25) (s8.1,(0:Int))) fun s14=>gd (Jf .i64 (s8.2+(1:Int))) <|some (.inl (s14,(s8.2+(1:Int)))) else some (.inr s8.1)
def db (rcf:(LI)->Option (LL)) (writes:LI):Option (LL):= bif ((writes.length:Int)==(0:Int)) then some ([([]:LI)]:LL) else Option.bind (loopO (fD rcf writes) (([]:LL),(0:Int))) fun s2=>some s2
def df:Nat->(LI)->Option (LL)
 | 0=>fun _=>none
 | n+1=>db (df n)
def kZ (writes:LI):Option (LL):=DK fun nf=>df nf writes
def bO (choices:LL) (s4:Int×(LL)) (s15:(LL)×Int):((LL)×Int)->Option (((LL)×Int) ⊕ (LL)):=fun s28=>bif decide (s28.2<((choices.getD s4.1.toNat default).length:Int)) then gd (decide (0<=s28.2/\s28.2<((choices.getD s4.1.toNat default).length:Int))) <|Option.bind (aG (s4.2.getD s15.2.toNat default)) fun v35=>gd (aQ (v35.length+1) 8) <|gd (aQ (s28.1.length+1) 24) <|gd (Jf .i64 (s28.2+(1:Int))) <|some (.inl ((s28.1++[(v35++[((choices.getD s4.1.toNat default).getD s28.2.toNat default)])]),(s28.2+(1:Int)))) else some (.inr s28.1)
def bP (choices:LL) (s4:Int×(LL)):((LL)×Int)->Option (((LL)×Int) ⊕ (LL)):=fun s15=>bif decide (s15.2<(s4.2.length:Int)) then Option.bind (gd (decide (0<=s15.2/\s15.2<(s4.2.length:Int))) <|loopO (bO choices s4 s15) (s15.1,(0:Int))) fun s21=>gd (Jf .i64 (s15.2+(1:Int))) <|some (.inl (s21,(s15.2+(1:Int)))) else some (.inr s15.1)
def iL (choices:LL):(Int×(LL))->Option ((Int×(LL)) ⊕ (LL)):=fun s4=>bif decide (s4.1<(choices.length:Int)) then Option.bind (gd (decide (0<=s4.1/\s4.1<(choices.length:Int))) <|Option.bind (loopO (bP choices s4) (([]:LL),(0:Int))) fun s9=>some s9) fun s7=>gd (Jf .i64 (s4.1+(1:Int))) <|some (.inl ((s4.1+(1:Int)),s7)) else some (.inr s4.2)
def dS (choices:LL):Option (LL):= Option.bind (loopO (iL choices) ((0:Int),([([]:LI)]:LL))) fun s1=>some s1
def gD (s:LL):Option (LL):= GI (s.isEmpty) (some ([]:LL)) (gd (aQ (([]:LL).length+s.length) 24) <|some (([]:LL)++s))
def dF (choices:List (LL)) (s4:Int×(List (LL))) (s15:(List (LL))×Int):((List (LL))×Int)->Option (((List (LL))×Int) ⊕ (List (LL))):=fun s28=>bif decide (s28.2<((choices.getD s4.1.toNat default).length:Int)) then gd (decide (0<=s28.2/\s28.2<((choices.getD s4.1.toNat default).length:Int))) <|Option.bind (gD (s4.2.getD s15.2.toNat default)) fun v35=>gd (aQ (v35.length+1) 24) <|gd (aQ (s28.1.length+1) 24) <|gd (Jf .i64 (s28.2+(1:Int))) <|some (.inl ((s28.1++[(v35++[((choices.getD s4.1.toNat default).getD s28.2.toNat default)])]),(s28.2+(1:Int)))) else some (.inr s28.1)
def dG (choices:List (LL)) (s4:Int×(List (LL))):((List (LL))×Int)->Option (((List (LL))×Int) ⊕ (List (LL))):=fun s15=>bif decide (s15.2<(s4.2.length:Int)) then Option.bind (gd (decide (0<=s15.2/\s15.2<(s4.2.length:Int))) <|loopO (dF choices s4 s15) (s15.1,(0:Int))) fun s21=>gd (Jf .i64 (s15.2+(1:Int))) <|some (.inl (s21,(s15.2+(1:Int)))) else some (.inr s15.1)
def jT (choices:List (LL)):(Int×(List (LL)))->Option ((Int×(List (LL))) ⊕ (List (LL))):=fun s4=>bif decide (s4.1<(choices.length:Int)) then Option.bind (gd (decide (0<=s4.1/\s4.1<(choices.length:Int))) <|Option.bind (loopO (dG choices s4) (([]:List (LL)),(0:Int))) fun s9=>some s9) fun s7=>gd (Jf .i64 (s4.1+(1:Int))) <|some (.inl ((s4.1+(1:Int)),s7)) else some (.inr s4.2)
def d9 (choices:List (LL)):Option (List (LL)):= Option.bind (loopO (jT choices) ((0:Int),([([]:LL)]:List (LL)))) fun s1=>some s1
def fK (x:Ji):((LL)×Int)->Option (((LL)×Int) ⊕ (LL)):=fun s7=>bif decide (s7.2<(x.Order.length:Int)) then gd (decide (0<=s7.2/\s7.2<(x.Order.length:Int))) <|Option.bind (aG (x.Order.getD s7.2.toNat default)) fun v12=>gd (decide (0<=s7.2/\s7.2<(s7.1.length:Int))) <|gd (Jf .i64 (s7.2+(1:Int))) <|some (.inl ((s7.1.set s7.2.toNat v12),(s7.2+(1:Int)))) else some (.inr s7.1)
def dK (x:Ji):Option Ji:= Option.bind (aG x.From) fun v1=>gd (decide (0<=(x.Order.length:Int)/\(x.Order.length:Int)<=(x.Order.length:Int)/\(x.Order.length:Int)*((24:Nat):Int)<=140737488355328/\(x.Order.length:Int)<=140737488355328)) <|Option.bind (loopO (fK x) ((List.replicate (x.Order.length:Int).toNat ([]:LI)),(0:Int))) fun s3=>some (⟨v1,s3⟩:Ji)
def dU (v1:(List Jj)):((LL)×Int)->Option (((LL)×Int) ⊕ (LL)):=fun s8=>bif decide (s8.2<(v1.length:Int)) then gd (decide (0<=s8.2/\s8.2<(v1.length:Int))) <|Option.bind (bif (⟨(v1.getD s8.2.toNat default).Thread,(v1.getD s8.2.toNat default).Index,(v1.getD s8.2.toNat default).Loc,(v1.getD s8.2.toNat default).Reads,(v1.getD s8.2.toNat default).Writes⟩:Jj).Reads then Option.bind (bV v1 ((⟨(v1.getD s8.2.toNat default).Thread,(v1.getD s8.2.toNat default).Index,(v1.getD s8.2.toNat default).Loc,(v1.getD s8.2.toNat default).Reads,(v1.getD s8.2.toNat default).Writes⟩:Jj).Loc)) fun v17=>Option.bind (aB v17 s8.2) fun v21=>some v21 else some ([(-1:Int)]:LI)) fun s15=>gd (aQ (s8.1.length+1) 24) <|gd (Jf .i64 (s8.2+(1:Int))) <|some (.inl ((s8.1++[s15]),(s8.2+(1:Int)))) else some (.inr s8.1)
def dH (s36:(List (LL))×Int) (v46:(LL)):((LL)×Int)->Option (((LL)×Int) ⊕ (LL)):=fun s52=>bif decide (s52.2<(v46.length:Int)) then gd (decide (0<=s52.2/\s52.2<(v46.length:Int))) <|gd (aQ (([s36.2]:LI).length+(v46.getD s52.2.toNat default).length) 8) <|gd (aQ (s52.1.length+1) 24) <|gd (Jf .i64 (s52.2+(1:Int))) <|some (.inl ((s52.1++[(([s36.2]:LI)++(v46.getD s52.2.toNat default))]),(s52.2+(1:Int)))) else some (.inr s52.1)
def dI (v1:(List Jj)):((List (LL))×Int)->Option (((List (LL))×Int) ⊕ (List (LL))):=fun s36=>bif decide (s36.2<(3:Int)) then Option.bind (Option.bind (Option.bind (bV v1 s36.2) fun v44=>gd (decide (0<=(1:Int)/\(1:Int)<=(v44.length:Int)/\(v44.length:Int)<=(v44.length:Int))) <|Option.bind (kZ ((v44.drop (1:Int).toNat).take ((v44.length:Int).toNat-(1:Int).toNat))) fun v46=>loopO (dH s36 v46) (([]:LL),(0:Int))) fun s43=>gd (aQ (s36.1.length+1) 24) <|some (s36.1++[s43])) fun s42=>gd (Jf .i64 (s36.2+(1:Int))) <|some (.inl (s42,(s36.2+(1:Int)))) else some (.inr s36.1)
def bI (v72:(LL)) (s78:(List Ji)×Int) (v86:(List (LL))):((List Ji)×Int)->Option (((List Ji)×Int) ⊕ (List Ji)):=fun s92=>bif decide (s92.2<(v86.length:Int)) then gd (decide (0<=s92.2/\s92.2<(v86.length:Int))) <|Option.bind (dK (⟨(v72.getD s78.2.toNat default),(v86.getD s92.2.toNat default)⟩:Ji)) fun v99=>gd (aQ (s92.1.length+1) 48) <|gd (Jf .i64 (s92.2+(1:Int))) <|some (.inl ((s92.1++[v99]),(s92.2+(1:Int)))) else some (.inr s92.1)
def bJ (s30:(List (LL))) (v72:(LL)):((List Ji)×Int)->Option (((List Ji)×Int) ⊕ (List Ji)):=fun s78=>bif decide (s78.2<(v72.length:Int)) then Option.bind (gd (decide (0<=s78.2/\s78.2<(v72.length:Int))) <|Option.bind (d9 s30) fun v86=>loopO (bI v72 s78 v86) (s78.1,(0:Int))) fun s84=>gd (Jf .i64 (s78.2+(1:Int))) <|some (.inl (s84,(s78.2+(1:Int)))) else some (.inr s78.1)
def dh (p:List (List Jh)):Option (List Ji):= Option.bind (jf p) fun v1=>Option.bind (loopO (dU v1) (([]:LL),(0:Int))) fun s2=>Option.bind (loopO (dI v1) (([]:List (LL)),(0:Int))) fun s30=>Option.bind (Option.bind (dS s2) fun v72=>loopO (bJ s30 v72) (([]:List Ji),(0:Int))) fun s71=>some s71
def gF (p:List (List Jh)) (s13:(LL)×Int×Int):((LL)×Int×Int)->Option (((LL)×Int×Int) ⊕ ((LL)×Int)):=fun s32=>bif decide (s32.2.1<((p.getD s13.2.1.toNat default).length:Int)) then Option.bind (gd (decide (0<=s32.2.1/\s32.2.1<((p.getD s13.2.1.toNat default).length:Int))) <|bif ((((p.getD s13.2.1.toNat default).getD s32.2.1.toNat default).Op)==(4:Int)) then gd (decide (0<=s13.2.1/\s13.2.1<(s32.1.length:Int))) <|gd (aQ ((s32.1.getD s13.2.1.toNat []).length+1) 8) <|some ((s32.1.set s13.2.1.toNat ((s32.1.getD s13.2.1.toNat [])++[(-1:Int)])),s32.2.2) else gd (decide (0<=s13.2.1/\s13.2.1<(s32.1.length:Int))) <|gd (aQ ((s32.1.getD s13.2.1.toNat []).length+1) 8) <|gd (Jf .i64 (s32.2.2+(1:Int))) <|some ((s32.1.set s13.2.1.toNat ((s32.1.getD s13.2.1.toNat [])++[s32.2.2])),(s32.2.2+(1:Int)))) fun s39=>gd (Jf .i64 (s32.2.1+(1:Int))) <|some (.inl (s39.1,(s32.2.1+(1:Int)),s39.2)) else some (.inr (s32.1,s32.2.2))
def gG (p:List (List Jh)):((LL)×Int×Int)->Option (((LL)×Int×Int) ⊕ (LL)):=fun s13=>bif decide (s13.2.1<(p.length:Int)) then Option.bind (gd (decide (0<=s13.2.1/\s13.2.1<(p.length:Int))) <|loopO (gF p s13) (s13.1,(0:Int),s13.2.2)) fun s20=>gd (Jf .i64 (s13.2.1+(1:Int))) <|some (.inl (s20.1,(s13.2.1+(1:Int)),s20.2)) else some (.inr s13.1)
def iC (p:List (List Jh)):Option (LL):= gd (decide (0<=(p.length:Int)/\(p.length:Int)<=(p.length:Int)/\(p.length:Int)*((24:Nat):Int)<=140737488355328/\(p.length:Int)<=140737488355328)) <|Option.bind (loopO (gG p) ((List.replicate (p.length:Int).toNat ([]:LI)),(0:Int),(3:Int))) fun s2=>some s2
def ic (s:ZTv) (pc:Z3i) (loc:Int) (s4:Int×Int):(Int×Int)->Option ((Int×Int) ⊕ Int):=fun s13=>bif decide (s13.1<((((s.p.getD s4.1.toNat default).drop (0:Int).toNat).take ((Z3i.get pc s4.1).toNat-(0:Int).toNat)).length:Int)) then Option.bind (gd (decide (0<=s13.1/\s13.1<((((s.p.getD s4.1.toNat default).drop (0:Int).toNat).take ((Z3i.get pc s4.1).toNat-(0:Int).toNat)).length:Int))) <|Option.bind (aT (⟨((((s.p.getD s4.1.toNat default).drop (0:Int).toNat).take ((Z3i.get pc s4.1).toNat-(0:Int).toNat)).getD s13.1.toNat default).Op,((((s.p.getD s4.1.toNat default).drop (0:Int).toNat).take ((Z3i.get pc s4.1).toNat-(0:Int).toNat)).getD s13.1.toNat default).Loc,((((s.p.getD s4.1.toNat default).drop (0:Int).toNat).take ((Z3i.get pc s4.1).toNat-(0:Int).toNat)).getD s13.1.toNat default).Reg,((((s.p.getD s4.1.toNat default).drop (0:Int).toNat).take ((Z3i.get pc s4.1).toNat-(0:Int).toNat)).getD s13.1.toNat default).Val⟩:Jh)) fun v18=>Option.bind (bif v18 then some ((((((s.p.getD s4.1.toNat default).drop (0:Int).toNat).take ((Z3i.get pc s4.1).toNat-(0:Int).toNat)).getD s13.1.toNat default).Loc)==loc) else some false) fun s19=>bif s19 then gd (Jf .i64 (s13.2+(1:Int))) <|some (s13.2+(1:Int)) else some s13.2) fun s16=>gd (Jf .i64 (s13.1+(1:Int))) <|some (.inl ((s13.1+(1:Int)),s16)) else some (.inr s13.2)
def iM (s:ZTv) (pc:Z3i) (loc:Int):(Int×Int)->Option ((Int×Int) ⊕ Int):=fun s4=>bif decide (s4.1<(s.p.length:Int)) then Option.bind (gd (decide (0<=s4.1/\s4.1<(s.p.length:Int))) <|gd (decide (0<=s4.1/\s4.1<3)) <|gd (decide (0<=(0:Int)/\(0:Int)<=(Z3i.get pc s4.1)/\(Z3i.get pc s4.1)<=((s.p.getD s4.1.toNat default).length:Int))) <|loopO (ic s pc loc s4) ((0:Int),s4.2)) fun s7=>gd (Jf .i64 (s4.1+(1:Int))) <|some (.inl ((s4.1+(1:Int)),s7)) else some (.inr s4.2)
def dV (s:ZTv) (pc:Z3i) (loc:Int):Option Int:= Option.bind (loopO (iM s pc loc) ((0:Int),(0:Int))) fun s1=>some s1
def eT (s:ZTv) (pc:Z3i) (t:Int):Option Bool:= gd (decide (0<=t/\t<3)) <|gd (decide (0<=t/\t<(s.p.length:Int))) <|bif ((Z3i.get pc t)==((s.p.getD t.toNat default).length:Int)) then some false else gd (decide (0<=(Z3i.get pc t)/\(Z3i.get pc t)<((s.p.getD t.toNat default).length:Int))) <|gd (decide (0<=t/\t<(s.number.length:Int))) <|gd (decide (0<=(Z3i.get pc t)/\(Z3i.get pc t)<((s.number.getD t.toNat default).length:Int))) <|bif ((((s.p.getD t.toNat default).getD (Z3i.get pc t).toNat default).Op)==(4:Int)) then some true else gd (decide (0<=((s.p.getD t.toNat default).getD (Z3i.get pc t).toNat default).Loc/\((s.p.getD t.toNat default).getD (Z3i.get pc t).toNat default).Loc<(s.x.Order.length:Int))) <|Option.bind (dV s pc (((s.p.getD t.toNat default).getD (Z3i.get pc t).toNat default).Loc)) fun v9=>Option.bind (Option.bind (bB (⟨((s.p.getD t.toNat default).getD (Z3i.get pc t).toNat default).Op,((s.p.getD t.toNat default).getD (Z3i.get pc t).toNat default).Loc,((s.p.getD t.toNat default).getD (Z3i.get pc t).toNat default).Reg,((s.p.getD t.toNat default).getD (Z3i.get pc t).toNat default).Val⟩:Jh)) fun v11=>bif !v11 then Option.bind (aT (⟨((s.p.getD t.toNat default).getD (Z3i.get pc t).toNat default).Op,((s.p.getD t.toNat default).getD (Z3i.get pc t).toNat default).Loc,((s.p.getD t.toNat default).getD (Z3i.get pc t).toNat default).Reg,((s.p.getD t.toNat default).getD (Z3i.get pc t).toNat default).Val⟩:Jh)) fun v13=>bif !v13 then some true else gd (Jf .i64 (v9+(1:Int))) <|gd (decide (0<=(v9+(1:Int))/\(v9+(1:Int))<((s.x.Order.getD (((s.p.getD t.toNat default).getD (Z3i.get pc t).toNat default).Loc).toNat default).length:Int))) <|some (((s.x.Order.getD (((s.p.getD t.toNat default).getD (Z3i.get pc t).toNat default).Loc).toNat default).getD (v9+(1:Int)).toNat default)==((s.number.getD t.toNat default).getD (Z3i.get pc t).toNat default)) else gd (decide (0<=((s.number.getD t.toNat default).getD (Z3i.get pc t).toNat default)/\((s.number.getD t.toNat default).getD (Z3i.get pc t).toNat default)<(s.x.From.length:Int))) <|gd (decide (0<=v9/\v9<((s.x.Order.getD (((s.p.getD t.toNat default).getD (Z3i.get pc t).toNat default).Loc).toNat default).length:Int))) <|bif ((s.x.From.getD ((s.number.getD t.toNat default).getD (Z3i.get pc t).toNat default).toNat default)==((s.x.Order.getD (((s.p.getD t.toNat default).getD (Z3i.get pc t).toNat default).Loc).toNat default).getD v9.toNat default)) then Option.bind (aT (⟨((s.p.getD t.toNat default).getD (Z3i.get pc t).toNat default).Op,((s.p.getD t.toNat default).getD (Z3i.get pc t).toNat default).Loc,((s.p.getD t.toNat default).getD (Z3i.get pc t).toNat default).Reg,((s.p.getD t.toNat default).getD (Z3i.get pc t).toNat default).Val⟩:Jh)) fun v20=>bif !v20 then some true else gd (Jf .i64 (v9+(1:Int))) <|gd (decide (0<=(v9+(1:Int))/\(v9+(1:Int))<((s.x.Order.getD (((s.p.getD t.toNat default).getD (Z3i.get pc t).toNat default).Loc).toNat default).length:Int))) <|some (((s.x.Order.getD (((s.p.getD t.toNat default).getD (Z3i.get pc t).toNat default).Loc).toNat default).getD (v9+(1:Int)).toNat default)==((s.number.getD t.toNat default).getD (Z3i.get pc t).toNat default)) else some false) fun s10=>some s10
def eu (s:ZTr) (pc:Z3i):(Int×Bool)->Option ((Int×Bool) ⊕ Bool):=fun s5=>bif decide (s5.1<(s.p.length:Int)) then Option.bind (bif s5.2 then gd (decide (0<=s5.1/\s5.1<3)) <|gd (decide (0<=s5.1/\s5.1<(s.p.length:Int))) <|some ((Z3i.get pc s5.1)==((s.p.getD s5.1.toNat default).length:Int)) else some false) fun s8=>gd (Jf .i64 (s5.1+(1:Int))) <|some (.inl ((s5.1+(1:Int)),s8)) else some (.inr s5.2)
def bi (rcf:ZTr->Z3i->Option (ZTr×Bool)) (s:ZTr) (pc:Z3i):((List (List Jh))×(LI)×(LL)×(LL)×(LI)×(List ((Int×Int×Int)×Bool))×Int)->Option (((List (List Jh))×(LI)×(LL)×(LL)×(LI)×(List ((Int×Int×Int)×Bool))×Int) ⊕ (((List (List Jh))×(LI)×(LL)×(LL)×(LI)×(List ((Int×Int×Int)×Bool))) ⊕ (ZTr×Bool))):=fun s18=>bif decide (s18.2.2.2.2.2.2<(s.p.length:Int)) then sumK (Option.bind (eT (⟨s18.1,(⟨s18.2.1,s18.2.2.1⟩:Ji),s18.2.2.2.1⟩:ZTv) pc s18.2.2.2.2.2.2) fun v23=>bif !v23 then some (.inl (s18.1,s18.2.1,s18.2.2.1,s18.2.2.2.1,s18.2.2.2.2.1,s18.2.2.2.2.2.1)) else gd (decide (0<=s18.2.2.2.2.2.2/\s18.2.2.2.2.2.2<3)) <|gd (Jf .i64 ((Z3i.get pc s18.2.2.2.2.2.2)+(1:Int))) <|gd (aQ (s18.2.2.2.2.1.length+1) 8) <|Option.bind (rcf (⟨s18.1,(⟨s18.2.1,s18.2.2.1⟩:Ji),s18.2.2.2.1,(s18.2.2.2.2.1++[s18.2.2.2.2.2.2]),s18.2.2.2.2.2.1⟩:ZTr) (Z3i.set pc s18.2.2.2.2.2.2 ((Z3i.get pc s18.2.2.2.2.2.2)+(1:Int)))) fun v28=>bif v28.2 then some (.inr (.inr (.inr ((⟨v28.1.p,(⟨v28.1.x.From,v28.1.x.Order⟩:Ji),v28.1.number,v28.1.schedule,v28.1.failed⟩:ZTr),true)))) else gd (Jf .i64 ((v28.1.schedule.length:Int)-(1:Int))) <|gd (decide (0<=(0:Int)/\(0:Int)<=((v28.1.schedule.length:Int)-(1:Int))/\((v28.1.schedule.length:Int)-(1:Int))<=(v28.1.schedule.length:Int))) <|some (.inl (v28.1.p,v28.1.x.From,v28.1.x.Order,v28.1.number,((v28.1.schedule.drop (0:Int).toNat).take (((v28.1.schedule.length:Int)-(1:Int)).toNat-(0:Int).toNat)),v28.1.failed))) fun s22=>gd (Jf .i64 (s18.2.2.2.2.2.2+(1:Int))) <|some (.inl (s22.1,s22.2.1,s22.2.2.1,s22.2.2.2.1,s22.2.2.2.2.1,s22.2.2.2.2.2,(s18.2.2.2.2.2.2+(1:Int)))) else some (.inr (.inl (s18.1,s18.2.1,s18.2.2.1,s18.2.2.2.1,s18.2.2.2.2.1,s18.2.2.2.2.2.1)))
def aH (rcf:ZTr->Z3i->Option (ZTr×Bool)) (s:ZTr) (pc:Z3i):Option (ZTr×Bool):= bif ((zw s.failed (pc.x0,pc.x1,pc.x2)).getD false) then some ((⟨s.p,(⟨s.x.From,s.x.Order⟩:Ji),s.number,s.schedule,s.failed⟩:ZTr),false) else Option.bind (loopO (eu s pc) ((0:Int),true)) fun s2=>bif s2 then some ((⟨s.p,(⟨s.x.From,s.x.Order⟩:Ji),s.number,s.schedule,s.failed⟩:ZTr),true) else sumK (loopO (bi rcf s pc) (s.p,s.x.From,s.x.Order,s.number,s.schedule,s.failed,(0:Int))) fun s14=>some ((⟨s14.1,(⟨s14.2.1,s14.2.2.1⟩:Ji),s14.2.2.2.1,s14.2.2.2.2.1,(BC s14.2.2.2.2.2 (pc.x0,pc.x1,pc.x2) true)⟩:ZTr),false)
def ak:Nat->ZTr->Z3i->Option (ZTr×Bool)
 | 0=>fun _ _=>none
 | n+1=>aH (ak n)
def dW (s:ZTr) (pc:Z3i):Option (ZTr×Bool):=DK fun nf=>ak nf s pc
def av (p:List (List Jh)) (x:Ji):Option ((LI)×Bool):= Option.bind (iC p) fun v1=>Option.bind (dW (⟨p,(⟨x.From,x.Order⟩:Ji),v1,([]:LI),([]:List ((Int×Int×Int)×Bool))⟩:ZTr) (⟨(0:Int),(0:Int),(0:Int)⟩:Z3i)) fun v2=>bif !v2.2 then some (([]:LI),false) else some (v2.1.schedule,true)
def eZ (p:List (List Jh)) (v4:(List Ji)):((LL)×Int)->Option (((LL)×Int) ⊕ (LL)):=fun s10=>bif decide (s10.2<(v4.length:Int)) then Option.bind (gd (decide (0<=s10.2/\s10.2<(v4.length:Int))) <|Option.bind (av p (⟨(v4.getD s10.2.toNat default).From,(v4.getD s10.2.toNat default).Order⟩:Ji)) fun v18=>bif v18.2 then gd (aQ (s10.1.length+1) 24) <|some (s10.1++[v18.1]) else some s10.1) fun s16=>gd (Jf .i64 (s10.2+(1:Int))) <|some (.inl (s16,(s10.2+(1:Int)))) else some (.inr s10.1)
def dL (p:List (List Jh)):Option (LL):= Option.bind (az p) fun v1=>bif !v1 then some ([]:LL) else Option.bind (Option.bind (dh p) fun v4=>loopO (eZ p v4) (([]:LL),(0:Int))) fun s3=>Option.bind (cg s3) fun v28=>some v28
def fq (x:Jh):Option Bool:= Option.bind (bif (x.Op==(1:Int)) then some true else some (x.Op==(5:Int))) fun s1=>some s1
def ez (x:Jh):Option Bool:= Option.bind (bif (x.Op==(2:Int)) then some true else some (x.Op==(3:Int))) fun s1=>Option.bind (bif s1 then some true else some (x.Op==(5:Int))) fun s3=>some s3
def gH:((List Jj)×Int)->Option (((List Jj)×Int) ⊕ (List Jj)):=fun s5=>bif decide (s5.2<=(2:Int)) then gd (aQ (s5.1.length+1) 32) <|gd (Jf .i64 (s5.2+(1:Int))) <|some (.inl ((s5.1++[(⟨(-1:Int),s5.2,s5.2,false,true⟩:Jj)]),(s5.2+(1:Int)))) else some (.inr s5.1)
def fL (p:List (List Jh)) (s16:(List Jj)×Int):((List Jj)×Int)->Option (((List Jj)×Int) ⊕ (List Jj)):=fun s24=>gd (decide (0<=s16.2/\s16.2<(p.length:Int))) <|bif decide (s24.2<((p.getD s16.2.toNat default).length:Int)) then Option.bind (gd (decide (0<=s24.2/\s24.2<((p.getD s16.2.toNat default).length:Int))) <|bif ((((p.getD s16.2.toNat default).getD s24.2.toNat default).Op) != (4:Int)) then Option.bind (fq (⟨((p.getD s16.2.toNat default).getD s24.2.toNat default).Op,((p.getD s16.2.toNat default).getD s24.2.toNat default).Loc,((p.getD s16.2.toNat default).getD s24.2.toNat default).Reg,((p.getD s16.2.toNat default).getD s24.2.toNat default).Val⟩:Jh)) fun v32=>Option.bind (ez (⟨((p.getD s16.2.toNat default).getD s24.2.toNat default).Op,((p.getD s16.2.toNat default).getD s24.2.toNat default).Loc,((p.getD s16.2.toNat default).getD s24.2.toNat default).Reg,((p.getD s16.2.toNat default).getD s24.2.toNat default).Val⟩:Jh)) fun v33=>gd (aQ (s24.1.length+1) 32) <|some (s24.1++[(⟨s16.2,s24.2,((p.getD s16.2.toNat default).getD s24.2.toNat default).Loc,v32,v33⟩:Jj)]) else some s24.1) fun s29=>gd (Jf .i64 (s24.2+(1:Int))) <|some (.inl (s29,(s24.2+(1:Int)))) else some (.inr s24.1)
def fM (p:List (List Jh)):((List Jj)×Int)->Option (((List Jj)×Int) ⊕ (List Jj)):=fun s16=>bif decide (s16.2<(p.length:Int)) then Option.bind (loopO (fL p s16) (s16.1,(0:Int))) fun s20=>gd (Jf .i64 (s16.2+(1:Int))) <|some (.inl (s20,(s16.2+(1:Int)))) else some (.inr s16.1)
def di (p:List (List Jh)):Option (List Jj):= Option.bind (loopO gH (([]:List Jj),(0:Int))) fun s1=>Option.bind (loopO (fM p) (s1,(0:Int))) fun s12=>some s12
def fO (events:List Jj) (loc:Int):((LI)×Int)->Option (((LI)×Int) ⊕ (LI)):=fun s5=>bif decide (s5.2<(events.length:Int)) then Option.bind (gd (decide (0<=s5.2/\s5.2<(events.length:Int))) <|Option.bind (bif (events.getD s5.2.toNat default).Writes then some (((events.getD s5.2.toNat default).Loc)==loc) else some false) fun s11=>bif s11 then gd (aQ (s5.1.length+1) 8) <|some (s5.1++[s5.2]) else some s5.1) fun s9=>gd (Jf .i64 (s5.2+(1:Int))) <|some (.inl (s9,(s5.2+(1:Int)))) else some (.inr s5.1)
def bW (events:List Jj) (loc:Int):Option (LI):= Option.bind (loopO (fO events loc) (([]:LI),(0:Int))) fun s1=>some s1
def cm (i:Int) (v3:(LL)) (s4:(LI)) (s12:(LL)×Int):((LL)×Int)->Option (((LL)×Int) ⊕ (LL)):=fun s20=>Option.bind (bif decide (s20.2<(v3.length:Int)) then gd (decide (0<=s12.2/\s12.2<(s4.length:Int))) <|some ((s4.getD s12.2.toNat default) != i) else some false) fun s23=>bif s23 then gd (decide (0<=s12.2/\s12.2<(s4.length:Int))) <|gd (decide (0<=s20.2/\s20.2<(v3.length:Int))) <|gd (aQ (([(s4.getD s12.2.toNat default)]:LI).length+(v3.getD s20.2.toNat default).length) 8) <|gd (aQ (s20.1.length+1) 24) <|gd (Jf .i64 (s20.2+(1:Int))) <|some (.inl ((s20.1++[(([(s4.getD s12.2.toNat default)]:LI)++(v3.getD s20.2.toNat default))]),(s20.2+(1:Int)))) else some (.inr s20.1)
def cn (i:Int) (v3:(LL)) (s4:(LI)):((LL)×Int)->Option (((LL)×Int) ⊕ (LL)):=fun s12=>bif decide (s12.2<(s4.length:Int)) then Option.bind (loopO (cm i v3 s4 s12) (s12.1,(0:Int))) fun s16=>gd (Jf .i64 (s12.2+(1:Int))) <|some (.inl (s16,(s12.2+(1:Int)))) else some (.inr s12.1)
def bX (rcf:(List Jj)->Int->Option (LL)) (events:List Jj) (i:Int):Option (LL):= bif (i==(events.length:Int)) then some ([([]:LI)]:LL) else gd (Jf .i64 (i+(1:Int))) <|Option.bind (rcf events (i+(1:Int))) fun v3=>Option.bind (gd (decide (0<=i/\i<(events.length:Int))) <|bif (events.getD i.toNat default).Reads then Option.bind (bW events ((events.getD i.toNat default).Loc)) fun v7=>some v7 else some ([(-1:Int)]:LI)) fun s4=>Option.bind (loopO (cn i v3 s4) (([]:LL),(0:Int))) fun s8=>some s8
def dM:Nat->(List Jj)->Int->Option (LL)
 | 0=>fun _ _=>none
 | n+1=>bX (dM n)
def ku (events:List Jj) (i:Int):Option (LL):=DK fun nf=>dM nf events i
def gI (list:LI) (s6:(LL)×Int) (v16:(LL)):((LL)×Int)->Option (((LL)×Int) ⊕ (LL)):=fun s20=>bif decide (s20.2<(v16.length:Int)) then gd (decide (0<=s6.2/\s6.2<(list.length:Int))) <|gd (decide (0<=s20.2/\s20.2<(v16.length:Int))) <|gd (aQ (([(list.getD s6.2.toNat default)]:LI).length+(v16.getD s20.2.toNat default).length) 8) <|gd (aQ (s20.1.length+1) 24) <|gd (Jf .i64 (s20.2+(1:Int))) <|some (.inl ((s20.1++[(([(list.getD s6.2.toNat default)]:LI)++(v16.getD s20.2.toNat default))]),(s20.2+(1:Int)))) else some (.inr s20.1)
def eU (rcf:(LI)->Option (LL)) (list:LI):((LL)×Int)->Option (((LL)×Int) ⊕ (LL)):=fun s6=>bif decide (s6.2<(list.length:Int)) then Option.bind (gd (decide (0<=(0:Int)/\(0:Int)<=s6.2/\s6.2<=(list.length:Int))) <|gd (aQ (([]:LI).length+((list.drop (0:Int).toNat).take (s6.2.toNat-(0:Int).toNat)).length) 8) <|gd (Jf .i64 (s6.2+(1:Int))) <|gd (decide (0<=(s6.2+(1:Int))/\(s6.2+(1:Int))<=(list.length:Int)/\(list.length:Int)<=(list.length:Int))) <|gd (aQ ((([]:LI)++((list.drop (0:Int).toNat).take (s6.2.toNat-(0:Int).toNat))).length+((list.drop (s6.2+(1:Int)).toNat).take ((list.length:Int).toNat-(s6.2+(1:Int)).toNat)).length) 8) <|Option.bind (rcf ((([]:LI)++((list.drop (0:Int).toNat).take (s6.2.toNat-(0:Int).toNat)))++((list.drop (s6.2+(1:Int)).toNat).take ((list.length:Int).toNat-(s6.2+(1:Int)).toNat)))) fun v16=>loopO (gI list s6 v16) (s6.1,(0:Int))) fun s10=>gd (Jf .i64 (s6.2+(1:Int))) <|some (.inl (s10,(s6.2+(1:Int)))) else some (.inr s6.1)
def bY (rcf:(LI)->Option (LL)) (list:LI):Option (LL):= bif ((list.length:Int)==(0:Int)) then some ([([]:LI)]:LL) else Option.bind (loopO (eU rcf list) (([]:LL),(0:Int))) fun s2=>some s2
def bZ:Nat->(LI)->Option (LL)
 | 0=>fun _=>none
 | n+1=>bY (bZ n)
def kv (list:LI):Option (LL):=DK fun nf=>bZ nf list
def bK (v3:(List (LL))) (v4:(LI)) (v6:(LL)) (s11:(List (LL))×Int):((List (LL))×Int)->Option (((List (LL))×Int) ⊕ (List (LL))):=fun s22=>bif decide (s22.2<(v3.length:Int)) then gd (decide (0<=s22.2/\s22.2<(v3.length:Int))) <|gd (aQ (([(([(v4.getD (0:Int).toNat default)]:LI)++(v6.getD s11.2.toNat default))]:LL).length+(v3.getD s22.2.toNat default).length) 24) <|gd (aQ (s22.1.length+1) 24) <|gd (Jf .i64 (s22.2+(1:Int))) <|some (.inl ((s22.1++[(([(([(v4.getD (0:Int).toNat default)]:LI)++(v6.getD s11.2.toNat default))]:LL)++(v3.getD s22.2.toNat default))]),(s22.2+(1:Int)))) else some (.inr s22.1)
def bL (v3:(List (LL))) (v4:(LI)) (v6:(LL)):((List (LL))×Int)->Option (((List (LL))×Int) ⊕ (List (LL))):=fun s11=>bif decide (s11.2<(v6.length:Int)) then Option.bind (gd (decide (0<=(0:Int)/\(0:Int)<(v4.length:Int))) <|gd (decide (0<=s11.2/\s11.2<(v6.length:Int))) <|gd (aQ (([(v4.getD (0:Int).toNat default)]:LI).length+(v6.getD s11.2.toNat default).length) 8) <|loopO (bK v3 v4 v6 s11) (s11.1,(0:Int))) fun s15=>gd (Jf .i64 (s11.2+(1:Int))) <|some (.inl (s15,(s11.2+(1:Int)))) else some (.inr s11.1)
def bH (rcf:(List Jj)->Int->Option (List (LL))) (events:List Jj) (loc:Int):Option (List (LL)):= bif decide ((2:Int)<loc) then some ([([]:LL)]:List (LL)) else gd (Jf .i64 (loc+(1:Int))) <|Option.bind (rcf events (loc+(1:Int))) fun v3=>Option.bind (bW events loc) fun v4=>gd (decide (0<=(1:Int)/\(1:Int)<=(v4.length:Int)/\(v4.length:Int)<=(v4.length:Int))) <|Option.bind (kv ((v4.drop (1:Int).toNat).take ((v4.length:Int).toNat-(1:Int).toNat))) fun v6=>Option.bind (loopO (bL v3 v4 v6) (([]:List (LL)),(0:Int))) fun s7=>some s7
def dw:Nat->(List Jj)->Int->Option (List (LL))
 | 0=>fun _ _=>none
 | n+1=>bH (dw n)
def jA (events:List Jj) (loc:Int):Option (List (LL)):=DK fun nf=>dw nf events loc
def iU (x:Ji):((LL)×Int)->Option (((LL)×Int) ⊕ (LL)):=fun s8=>bif decide (s8.2<(x.Order.length:Int)) then gd (decide (0<=s8.2/\s8.2<(x.Order.length:Int))) <|gd (aQ (([]:LI).length+(x.Order.getD s8.2.toNat default).length) 8) <|gd (aQ (s8.1.length+1) 24) <|gd (Jf .i64 (s8.2+(1:Int))) <|some (.inl ((s8.1++[(([]:LI)++(x.Order.getD s8.2.toNat default))]),(s8.2+(1:Int)))) else some (.inr s8.1)
def gJ (x:Ji):Option Ji:= gd (aQ (([]:LI).length+x.From.length) 8) <|Option.bind (loopO (iU x) (([]:LL),(0:Int))) fun s2=>some (⟨(([]:LI)++x.From),s2⟩:Ji)
def dN (v2:(LL)) (v3:(List (LL))) (s8:(List Ji)×Int):((List Ji)×Int)->Option (((List Ji)×Int) ⊕ (List Ji)):=fun s16=>bif decide (s16.2<(v3.length:Int)) then gd (decide (0<=s8.2/\s8.2<(v2.length:Int))) <|gd (decide (0<=s16.2/\s16.2<(v3.length:Int))) <|Option.bind (gJ (⟨(v2.getD s8.2.toNat default),(v3.getD s16.2.toNat default)⟩:Ji)) fun v22=>gd (aQ (s16.1.length+1) 48) <|gd (Jf .i64 (s16.2+(1:Int))) <|some (.inl ((s16.1++[v22]),(s16.2+(1:Int)))) else some (.inr s16.1)
def eB (v2:(LL)) (v3:(List (LL))):((List Ji)×Int)->Option (((List Ji)×Int) ⊕ (List Ji)):=fun s8=>bif decide (s8.2<(v2.length:Int)) then Option.bind (loopO (dN v2 v3 s8) (s8.1,(0:Int))) fun s12=>gd (Jf .i64 (s8.2+(1:Int))) <|some (.inl (s12,(s8.2+(1:Int)))) else some (.inr s8.1)
def jV (p:List (List Jh)):Option (List Ji):= Option.bind (di p) fun v1=>Option.bind (ku v1 (0:Int)) fun v2=>Option.bind (jA v1 (0:Int)) fun v3=>Option.bind (loopO (eB v2 v3) (([]:List Ji),(0:Int))) fun s4=>some s4
def gK (p:List (List Jh)):Option (List Ji):= Option.bind (aR p) fun v1=>bif !v1 then some ([]:List Ji) else Option.bind (jV p) fun v3=>some v3
def kG (list:LI) (n:Int):Int->Option (Int ⊕ (Unit ⊕ Int)):=fun s4=>bif decide (s4<(list.length:Int)) then gd (decide (0<=s4/\s4<(list.length:Int))) <|bif ((list.getD s4.toNat default)==n) then some (.inr (.inr s4)) else gd (Jf .i64 (s4+(1:Int))) <|some (.inl (s4+(1:Int))) else some (.inr (.inl ()))
def fu (list:LI) (n:Int):Option Int:= sumK (loopO (kG list n) (0:Int)) fun s1=>some (-1:Int)
def eC (x:Ji) (loc:Int) (i:Int) (k_:Int):Option Bool:= gd (decide (0<=loc/\loc<(x.Order.length:Int))) <|Option.bind (fu (x.Order.getD loc.toNat default) i) fun v2=>Option.bind (fu (x.Order.getD loc.toNat default) k_) fun v3=>some (decide (v2<v3))
def pY (list:List Jh) (to:Int):Int->Option (Int ⊕ (Unit ⊕ Bool)):=fun s5=>bif decide (s5<to) then gd (decide (0<=s5/\s5<(list.length:Int))) <|bif (((list.getD s5.toNat default).Op)==(4:Int)) then some (.inr (.inr true)) else gd (Jf .i64 (s5+(1:Int))) <|some (.inl (s5+(1:Int))) else some (.inr (.inl ()))
def m7 (list:List Jh) (from_:Int) (to:Int):Option Bool:= sumK (gd (Jf .i64 (from_+(1:Int))) <|loopO (pY list to) (from_+(1:Int))) fun s1=>some false
def jg (p:List (List Jh)) (x:Ji) (events:List Jj) (name:ByteArray) (i:Int) (k_:Int):Option Bool:= gd (decide (0<=i/\i<(events.length:Int))) <|gd (decide (0<=k_/\k_<(events.length:Int))) <|Option.bind (bif (((events.getD i.toNat default).Thread)==((events.getD k_.toNat default).Thread)) then some (decide ((0:Int)<=((events.getD i.toNat default).Thread))) else some false) fun s3=>sumK (bif decide (name=(⟨#[112,111]⟩:ByteArray)) then Option.bind (bif s3 then some (decide (((events.getD i.toNat default).Index)<((events.getD k_.toNat default).Index))) else some false) fun s7=>some (.inr s7) else bif decide (name=(⟨#[108,111,99]⟩:ByteArray)) then some (.inr (((events.getD i.toNat default).Loc)==((events.getD k_.toNat default).Loc))) else bif decide (name=(⟨#[101,120,116]⟩:ByteArray)) then some (.inr (!s3)) else bif decide (name=(⟨#[114,102]⟩:ByteArray)) then Option.bind (bif (events.getD k_.toNat default).Reads then gd (decide (0<=k_/\k_<(x.From.length:Int))) <|some ((x.From.getD k_.toNat default)==i) else some false) fun s12=>some (.inr s12) else bif decide (name=(⟨#[99,111]⟩:ByteArray)) then Option.bind (bif (events.getD i.toNat default).Writes then some ((events.getD k_.toNat default).Writes) else some false) fun s16=>Option.bind (bif s16 then some (((events.getD i.toNat default).Loc)==((events.getD k_.toNat default).Loc)) else some false) fun s18=>Option.bind (bif s18 then Option.bind (eC x ((events.getD i.toNat default).Loc) i k_) fun v22=>some v22 else some false) fun s20=>some (.inr s20) else bif decide (name=(⟨#[102,114]⟩:ByteArray)) then Option.bind (bif (events.getD i.toNat default).Reads then bif (events.getD k_.toNat default).Writes then bif (((events.getD i.toNat default).Loc)==((events.getD k_.toNat default).Loc)) then bif (i != k_) then gd (decide (0<=i/\i<(x.From.length:Int))) <|Option.bind (eC x ((events.getD i.toNat default).Loc) (x.From.getD i.toNat default) k_) fun v30=>some v30 else some false else some false else some false else some false) fun s24=>some (.inr s24) else bif decide (name=(⟨#[102,101,110,99,101]⟩:ByteArray)) then Option.bind (bif s3 then bif decide (((events.getD i.toNat default).Index)<((events.getD k_.toNat default).Index)) then gd (decide (0<=(events.getD i.toNat default).Thread/\(events.getD i.toNat default).Thread<(p.length:Int))) <|Option.bind (m7 (p.getD ((events.getD i.toNat default).Thread).toNat default) ((events.getD i.toNat default).Index) ((events.getD k_.toNat default).Index)) fun v36=>some v36 else some false else some false) fun s32=>some (.inr s32) else bif decide (name=(⟨#[119,114]⟩:ByteArray)) then Option.bind (bif (events.getD i.toNat default).Writes then some (!((events.getD i.toNat default).Reads)) else some false) fun s38=>Option.bind (bif s38 then some ((events.getD k_.toNat default).Reads) else some false) fun s40=>Option.bind (bif s40 then some (!((events.getD k_.toNat default).Writes)) else some false) fun s42=>some (.inr s42) else bif decide (name=(⟨#[119,119]⟩:ByteArray)) then Option.bind (bif (events.getD i.toNat default).Writes then some (!((events.getD i.toNat default).Reads)) else some false) fun s45=>Option.bind (bif s45 then some ((events.getD k_.toNat default).Writes) else some false) fun s47=>Option.bind (bif s47 then some (!((events.getD k_.toNat default).Reads)) else some false) fun s49=>some (.inr s49) else some (.inl ())) fun s5=>Option.bind (bif decide (name=(⟨#[105,100]⟩:ByteArray)) then some (i==k_) else some false) fun s51=>some s51
def lD (p:List (List Jh)) (x:Ji) (name:ByteArray) (v1:(List Jj)) (s6:(LI)×Int):(Int×Int)->Option ((Int×Int) ⊕ Int):=fun s14=>bif decide (s14.1<(v1.length:Int)) then Option.bind (Option.bind (jg p x v1 name s6.2 s14.1) fun v18=>bif v18 then gd (decide (0<=s14.1)) <|some (bOr .i64 s14.2 (FM .i64 (1:Int) s14.1)) else some s14.2) fun s17=>gd (Jf .i64 (s14.1+(1:Int))) <|some (.inl ((s14.1+(1:Int)),s17)) else some (.inr s14.2)
def jC (p:List (List Jh)) (x:Ji) (name:ByteArray) (v1:(List Jj)):((LI)×Int)->Option (((LI)×Int) ⊕ (LI)):=fun s6=>bif decide (s6.2<(v1.length:Int)) then Option.bind (Option.bind (loopO (lD p x name v1 s6) ((0:Int),(0:Int))) fun s11=>gd (aQ (s6.1.length+1) 8) <|some (s6.1++[s11])) fun s10=>gd (Jf .i64 (s6.2+(1:Int))) <|some (.inl (s10,(s6.2+(1:Int)))) else some (.inr s6.1)
def eF (p:List (List Jh)) (x:Ji) (name:ByteArray):Option (LI):= Option.bind (di p) fun v1=>Option.bind (loopO (jC p x name v1) (([]:LI),(0:Int))) fun s2=>some s2
def iy (a:LI) (b:LI):((LI)×Int)->Option (((LI)×Int) ⊕ (LI)):=fun s5=>bif decide (s5.2<(a.length:Int)) then gd (decide (0<=s5.2/\s5.2<(a.length:Int))) <|gd (decide (0<=s5.2/\s5.2<(b.length:Int))) <|gd (aQ (s5.1.length+1) 8) <|gd (Jf .i64 (s5.2+(1:Int))) <|some (.inl ((s5.1++[(bOr .i64 (a.getD s5.2.toNat default) (b.getD s5.2.toNat default))]),(s5.2+(1:Int)))) else some (.inr s5.1)
def dO (a:LI) (b:LI):Option (LI):= Option.bind (loopO (iy a b) (([]:LI),(0:Int))) fun s1=>some s1
def fE (p:List (List Jh)) (x:Ji):Option (LI):= Option.bind (eF p x (⟨#[112,111]⟩:ByteArray)) fun v1=>Option.bind (eF p x (⟨#[114,102]⟩:ByteArray)) fun v2=>Option.bind (dO v1 v2) fun v3=>Option.bind (eF p x (⟨#[99,111]⟩:ByteArray)) fun v4=>Option.bind (dO v3 v4) fun v5=>Option.bind (eF p x (⟨#[102,114]⟩:ByteArray)) fun v6=>Option.bind (dO v5 v6) fun v7=>some v7
def lc (n:Int):Option Int:= gd (decide (0<=n)) <|gd (Jf .i64 ((FM .i64 (1:Int) n)-(1:Int))) <|some ((FM .i64 (1:Int) n)-(1:Int))
def jX (events:List Jj) (t:Int) (index:Int):Int->Option (Int ⊕ (Unit ⊕ Int)):=fun s4=>bif decide (s4<(events.length:Int)) then gd (decide (0<=s4/\s4<(events.length:Int))) <|Option.bind (bif (((events.getD s4.toNat default).Thread)==t) then some (((events.getD s4.toNat default).Index)==index) else some false) fun s8=>bif s8 then some (.inr (.inr s4)) else gd (Jf .i64 (s4+(1:Int))) <|some (.inl (s4+(1:Int))) else some (.inr (.inl ()))
def gL (events:List Jj) (t:Int) (index:Int):Option Int:= sumK (loopO (jX events t index) (0:Int)) fun s1=>some (-1:Int)
def ma (r_:LI) (i:Int) (k_:Int):Option Bool:= gd (decide (0<=i/\i<(r_.length:Int))) <|gd (decide (0<=k_)) <|some ((GY .i64 (GH .i64 (r_.getD i.toNat default) k_) (1:Int))==(1:Int))
def jY (before:LI) (done:Int) (k_:Int):Int->Option (Int ⊕ (Unit ⊕ Bool)):=fun s4=>bif decide (s4<(before.length:Int)) then Option.bind (ma before s4 k_) fun v7=>Option.bind (bif v7 then gd (decide (0<=s4)) <|some ((GY .i64 (GH .i64 done s4) (1:Int))==(0:Int)) else some false) fun s8=>bif s8 then some (.inr (.inr false)) else gd (Jf .i64 (s4+(1:Int))) <|some (.inl (s4+(1:Int))) else some (.inr (.inl ()))
def gM (before:LI) (done:Int) (k_:Int):Option Bool:= sumK (loopO (jY before done k_) (0:Int)) fun s1=>some true
def gP (p:List (List Jh)) (before:LI) (v1:(List Jj)):((LI)×(LI)×Int×Bool×Int)->Option (((LI)×(LI)×Int×Bool×Int) ⊕ (((LI)×(LI)×Bool×Int) ⊕ ((LI)×(LI)))):=fun s18=>Option.bind (bif decide (s18.2.2.1<(p.length:Int)) then some (!s18.2.2.2.1) else some false) fun s22=>bif s22 then Option.bind (gd (decide (0<=s18.2.2.1/\s18.2.2.1<(s18.1.length:Int))) <|gd (decide (0<=s18.2.2.1/\s18.2.2.1<(p.length:Int))) <|bif ((s18.1.getD s18.2.2.1.toNat default)==((p.getD s18.2.2.1.toNat default).length:Int)) then some (s18.1,s18.2.1,s18.2.2.2.1,s18.2.2.2.2) else Option.bind (gL v1 s18.2.2.1 (s18.1.getD s18.2.2.1.toNat default)) fun v29=>Option.bind (bif decide ((0:Int)<=v29) then Option.bind (gM before s18.2.2.2.2 v29) fun v32=>some (!v32) else some false) fun s30=>bif s30 then some (s18.1,s18.2.1,s18.2.2.2.1,s18.2.2.2.2) else Option.bind (bif decide ((0:Int)<=v29) then gd (decide (0<=v29)) <|some (bOr .i64 s18.2.2.2.2 (FM .i64 (1:Int) v29)) else some s18.2.2.2.2) fun s34=>gd (Jf .i64 ((s18.1.getD s18.2.2.1.toNat default)+(1:Int))) <|gd (aQ (s18.2.1.length+1) 8) <|some ((s18.1.set s18.2.2.1.toNat ((s18.1.getD s18.2.2.1.toNat default)+(1:Int))),(s18.2.1++[s18.2.2.1]),true,s34)) fun s25=>gd (Jf .i64 (s18.2.2.1+(1:Int))) <|some (.inl (s25.1,s25.2.1,(s18.2.2.1+(1:Int)),s25.2.2.1,s25.2.2.2)) else some (.inr (.inl (s18.1,s18.2.1,s18.2.2.2.1,s18.2.2.2.2)))
def gQ (p:List (List Jh)) (before:LI) (v1:(List Jj)):((LI)×(LI)×Bool×Int)->Option (((LI)×(LI)×Bool×Int) ⊕ ((LI)×(LI))):=fun s9=>bif s9.2.2.1 then loopO (gP p before v1) (s9.1,s9.2.1,(0:Int),false,s9.2.2.2) else some (.inr (s9.1,s9.2.1))
def jZ (p:List (List Jh)) (s4:(LI)×(LI)):Int->Option (Int ⊕ (Unit ⊕ ((LI)×Bool))):=fun s47=>bif decide (s47<(p.length:Int)) then gd (decide (0<=s47/\s47<(s4.1.length:Int))) <|gd (decide (0<=s47/\s47<(p.length:Int))) <|bif decide ((s4.1.getD s47.toNat default)<((p.getD s47.toNat default).length:Int)) then some (.inr (.inr (([]:LI),false))) else gd (Jf .i64 (s47+(1:Int))) <|some (.inl (s47+(1:Int))) else some (.inr (.inl ()))
def cK (p:List (List Jh)) (before:LI):Option ((LI)×Bool):= Option.bind (di p) fun v1=>gd (decide (0<=(p.length:Int)/\(p.length:Int)<=(p.length:Int)/\(p.length:Int)*((8:Nat):Int)<=140737488355328/\(p.length:Int)<=140737488355328)) <|Option.bind (lc (3:Int)) fun v3=>Option.bind (loopO (gQ p before v1) ((List.replicate (p.length:Int).toNat (default:Int)),([]:LI),true,v3)) fun s4=>sumK (loopO (jZ p s4) (0:Int)) fun s44=>some (s4.2,true)
def lF (a:LI) (b:LI):Int->Option (Int ⊕ (Unit ⊕ Int)):=fun s4=>Option.bind (bif decide (s4<(a.length:Int)) then some (decide (s4<(b.length:Int))) else some false) fun s6=>bif s6 then gd (decide (0<=s4/\s4<(a.length:Int))) <|gd (decide (0<=s4/\s4<(b.length:Int))) <|bif decide ((a.getD s4.toNat default)<(b.getD s4.toNat default)) then some (.inr (.inr (-1:Int))) else bif decide ((b.getD s4.toNat default)<(a.getD s4.toNat default)) then some (.inr (.inr (1:Int))) else gd (Jf .i64 (s4+(1:Int))) <|some (.inl (s4+(1:Int))) else some (.inr (.inl ()))
def gT (a:LI) (b:LI):Option Int:= sumK (loopO (lF a b) (0:Int)) fun s1=>some (0:Int)
def mb (list:LL) (o_:LI):Int->Option (Int ⊕ Int):=fun s4=>Option.bind (bif decide (s4<(list.length:Int)) then gd (decide (0<=s4/\s4<(list.length:Int))) <|Option.bind (gT (list.getD s4.toNat default) o_) fun v9=>some (decide (v9<(0:Int))) else some false) fun s6=>bif s6 then gd (Jf .i64 (s4+(1:Int))) <|some (.inl (s4+(1:Int))) else some (.inr s4)
def j3 (list:LL) (o_:LI):Option (LL):= Option.bind (loopO (mb list o_) (0:Int)) fun s1=>Option.bind (bif decide (s1<(list.length:Int)) then gd (decide (0<=s1/\s1<(list.length:Int))) <|Option.bind (gT (list.getD s1.toNat default) o_) fun v15=>some (v15==(0:Int)) else some false) fun s12=>bif s12 then some list else gd (decide (0<=(0:Int)/\(0:Int)<=s1/\s1<=(list.length:Int))) <|gd (aQ (([]:LL).length+((list.drop (0:Int).toNat).take (s1.toNat-(0:Int).toNat)).length) 24) <|gd (aQ ((([]:LL)++((list.drop (0:Int).toNat).take (s1.toNat-(0:Int).toNat))).length+1) 24) <|gd (decide (0<=s1/\s1<=(list.length:Int)/\(list.length:Int)<=(list.length:Int))) <|gd (aQ (((([]:LL)++((list.drop (0:Int).toNat).take (s1.toNat-(0:Int).toNat)))++[o_]).length+((list.drop s1.toNat).take ((list.length:Int).toNat-s1.toNat)).length) 24) <|some (((([]:LL)++((list.drop (0:Int).toNat).take (s1.toNat-(0:Int).toNat)))++[o_])++((list.drop s1.toNat).take ((list.length:Int).toNat-s1.toNat)))
def lg (list:LL) (s:LI):Option (LL):= Option.bind (j3 list s) fun v1=>some v1
def fP (p:List (List Jh)) (v1:(List Ji)):(Int×(LL))->Option ((Int×(LL)) ⊕ (LL)):=fun s5=>bif decide (s5.1<(v1.length:Int)) then Option.bind (gd (decide (0<=s5.1/\s5.1<(v1.length:Int))) <|Option.bind (fE p (v1.getD s5.1.toNat default)) fun v10=>Option.bind (cK p v10) fun v11=>bif v11.2 then Option.bind (lg s5.2 v11.1) fun v13=>some v13 else some s5.2) fun s8=>gd (Jf .i64 (s5.1+(1:Int))) <|some (.inl ((s5.1+(1:Int)),s8)) else some (.inr s5.2)
def bD (p:List (List Jh)):Option (LL):= Option.bind (gK p) fun v1=>Option.bind (loopO (fP p v1) ((0:Int),([]:LL))) fun s2=>some s2
structure eX where
 From:LI
 Order:LL
instance:Inhabited eX:=⟨⟨default,default⟩⟩
def eX.c (x:eX):List AV:=[eL cI x.From,eL (cL cI) x.Order]
theorem eX.len (x:eX):(eX.c x).length=2:=rfl
theorem eX.isF (x:eX):(eX.c x).all (isF 9)=true:=rfl
structure Jn where
 at_:LI
 regs:LI
 mem:LI
 buf:LL
instance:Inhabited Jn:=⟨⟨default,default,default,default⟩⟩
def Jn.c (x:Jn):List AV:=[eL cI x.at_,eL cI x.regs,eL cI x.mem,eL (cL cI) x.buf]
theorem Jn.len (x:Jn):(Jn.c x).length=4:=rfl
theorem Jn.isF (x:Jn):(Jn.c x).all (isF 9)=true:=rfl
structure cu where
 p:List (List Jh)
 x:Ji
 events:List Jj
 values:LI
 busy:List Bool
instance:Inhabited cu:=⟨⟨default,default,default,default,default⟩⟩
def cu.c (x:cu):List AV:=[eL (cL Jh.c) x.p,eL cI x.x.From,eL (cL cI) x.x.Order,eL Jj.c x.events,eL cI x.values,eL cB x.busy]
theorem cu.len (x:cu):(cu.c x).length=6:=rfl
theorem cu.isF (x:cu):(cu.c x).all (isF 9)=true:=rfl
def dP (p:List (List Jh)) (buffers:Int):Option Jn:= gd (decide (0<=(p.length:Int)/\(p.length:Int)<=(p.length:Int)/\(p.length:Int)*((8:Nat):Int)<=140737488355328/\(p.length:Int)<=140737488355328)) <|gd (Jf .i64 ((p.length:Int)*(3:Int))) <|gd (decide (0<=((p.length:Int)*(3:Int))/\((p.length:Int)*(3:Int))<=((p.length:Int)*(3:Int))/\((p.length:Int)*(3:Int))*((8:Nat):Int)<=140737488355328/\((p.length:Int)*(3:Int))<=140737488355328)) <|gd (decide (0<=(3:Int)/\(3:Int)<=(3:Int)/\(3:Int)*((8:Nat):Int)<=140737488355328/\(3:Int)<=140737488355328)) <|gd (decide (0<=buffers/\buffers<=buffers/\buffers*((24:Nat):Int)<=140737488355328/\buffers<=140737488355328)) <|some (⟨(List.replicate (p.length:Int).toNat (default:Int)),(List.replicate ((p.length:Int)*(3:Int)).toNat (default:Int)),(List.replicate (3:Int).toNat (default:Int)),(List.replicate buffers.toNat ([]:LI))⟩:Jn)
def lG (s:Jn):Unit->Option (Unit ⊕ Unit):=fun s6=>bif decide ((0:Int)<(s.buf.length:Int)) then none else some (.inr ())
def li (s:Jn):Option Jn:= gd (aQ (([]:LI).length+s.at_.length) 8) <|gd (aQ (([]:LI).length+s.regs.length) 8) <|gd (aQ (([]:LI).length+s.mem.length) 8) <|Option.bind (loopO (lG s) ()) fun s4=>some (⟨(([]:LI)++s.at_),(([]:LI)++s.regs),(([]:LI)++s.mem),([]:LL)⟩:Jn)
def j4 (t:Int) (reg:Int):Option Int:= gd (Jf .i64 (t*(3:Int))) <|gd (Jf .i64 ((t*(3:Int))+reg)) <|some ((t*(3:Int))+reg)
def m8 (s:Jn) (t:Int) (x:Jh):Option Int:= bif (x.Op==(3:Int)) then Option.bind (j4 t x.Reg) fun v2=>gd (decide (0<=v2/\v2<(s.regs.length:Int))) <|some (s.regs.getD v2.toNat default) else some x.Val
def nD (p:List (List Jh)) (s:Jn) (t:Int):Option Jn:= Option.bind (li s) fun v1=>gd (decide (0<=t/\t<(p.length:Int))) <|gd (decide (0<=t/\t<(s.at_.length:Int))) <|gd (decide (0<=(s.at_.getD t.toNat default)/\(s.at_.getD t.toNat default)<((p.getD t.toNat default).length:Int))) <|gd (Jf .i64 ((s.at_.getD t.toNat default)+(1:Int))) <|gd (decide (0<=t/\t<(v1.at_.length:Int))) <|Option.bind (Option.bind (fq (⟨((p.getD t.toNat default).getD (s.at_.getD t.toNat default).toNat default).Op,((p.getD t.toNat default).getD (s.at_.getD t.toNat default).toNat default).Loc,((p.getD t.toNat default).getD (s.at_.getD t.toNat default).toNat default).Reg,((p.getD t.toNat default).getD (s.at_.getD t.toNat default).toNat default).Val⟩:Jh)) fun v8=>bif v8 then Option.bind (j4 t (((p.getD t.toNat default).getD (s.at_.getD t.toNat default).toNat default).Reg)) fun v10=>gd (decide (0<=((p.getD t.toNat default).getD (s.at_.getD t.toNat default).toNat default).Loc/\((p.getD t.toNat default).getD (s.at_.getD t.toNat default).toNat default).Loc<(s.mem.length:Int))) <|gd (decide (0<=v10/\v10<(v1.regs.length:Int))) <|some (v1.regs.set v10.toNat (s.mem.getD (((p.getD t.toNat default).getD (s.at_.getD t.toNat default).toNat default).Loc).toNat default)) else some v1.regs) fun s7=>Option.bind (Option.bind (ez (⟨((p.getD t.toNat default).getD (s.at_.getD t.toNat default).toNat default).Op,((p.getD t.toNat default).getD (s.at_.getD t.toNat default).toNat default).Loc,((p.getD t.toNat default).getD (s.at_.getD t.toNat default).toNat default).Reg,((p.getD t.toNat default).getD (s.at_.getD t.toNat default).toNat default).Val⟩:Jh)) fun v15=>bif v15 then Option.bind (m8 s t (⟨((p.getD t.toNat default).getD (s.at_.getD t.toNat default).toNat default).Op,((p.getD t.toNat default).getD (s.at_.getD t.toNat default).toNat default).Loc,((p.getD t.toNat default).getD (s.at_.getD t.toNat default).toNat default).Reg,((p.getD t.toNat default).getD (s.at_.getD t.toNat default).toNat default).Val⟩:Jh)) fun v17=>gd (decide (0<=((p.getD t.toNat default).getD (s.at_.getD t.toNat default).toNat default).Loc/\((p.getD t.toNat default).getD (s.at_.getD t.toNat default).toNat default).Loc<(v1.mem.length:Int))) <|some (v1.mem.set ((((p.getD t.toNat default).getD (s.at_.getD t.toNat default).toNat default).Loc).toNat) v17) else some v1.mem) fun s14=>some (⟨(v1.at_.set t.toNat ((s.at_.getD t.toNat default)+(1:Int))),s7,s14,([]:LL)⟩:Jn)
def lH (p:List (List Jh)) (s:Jn):Int->Option (Int ⊕ (Unit ⊕ Bool)):=fun s4=>bif decide (s4<(p.length:Int)) then gd (decide (0<=s4/\s4<(s.at_.length:Int))) <|gd (decide (0<=s4/\s4<(p.length:Int))) <|bif decide ((s.at_.getD s4.toNat default)<((p.getD s4.toNat default).length:Int)) then some (.inr (.inr false)) else gd (Jf .i64 (s4+(1:Int))) <|some (.inl (s4+(1:Int))) else some (.inr (.inl ()))
def jh (p:List (List Jh)) (s:Jn):Option Bool:= sumK (loopO (lH p s) (0:Int)) fun s1=>some true
def fF (s:Jn):Option (LI):= gd (aQ (([]:LI).length+s.regs.length) 8) <|gd (aQ ((([]:LI)++s.regs).length+s.mem.length) 8) <|some ((([]:LI)++s.regs)++s.mem)
def aD (p:List (List Jh)) (schedule:LI):((LI)×(LI)×(LI)×(LL)×Int)->Option (((LI)×(LI)×(LI)×(LL)×Int) ⊕ (((LI)×(LI)×(LI)×(LL)) ⊕ ((LI)×Bool))):=fun s7=>bif decide (s7.2.2.2.2<(schedule.length:Int)) then sumK (gd (decide (0<=s7.2.2.2.2/\s7.2.2.2.2<(schedule.length:Int))) <|sumK (Option.bind (bif decide ((schedule.getD s7.2.2.2.2.toNat default)<(0:Int)) then some true else bif decide ((p.length:Int)<=(schedule.getD s7.2.2.2.2.toNat default)) then some true else gd (decide (0<=(schedule.getD s7.2.2.2.2.toNat default)/\(schedule.getD s7.2.2.2.2.toNat default)<(s7.1.length:Int))) <|gd (decide (0<=(schedule.getD s7.2.2.2.2.toNat default)/\(schedule.getD s7.2.2.2.2.toNat default)<(p.length:Int))) <|some ((s7.1.getD (schedule.getD s7.2.2.2.2.toNat default).toNat default)==((p.getD (schedule.getD s7.2.2.2.2.toNat default).toNat default).length:Int))) fun s13=>bif s13 then some (.inr (.inr (.inr (.inr (([]:LI),false))))) else some (.inl ())) fun s12=>Option.bind (nD p (⟨s7.1,s7.2.1,s7.2.2.1,s7.2.2.2.1⟩:Jn) (schedule.getD s7.2.2.2.2.toNat default)) fun v19=>some (.inl (v19.at_,v19.regs,v19.mem,v19.buf))) fun s10=>gd (Jf .i64 (s7.2.2.2.2+(1:Int))) <|some (.inl (s10.1,s10.2.1,s10.2.2.1,s10.2.2.2,(s7.2.2.2.2+(1:Int)))) else some (.inr (.inl (s7.1,s7.2.1,s7.2.2.1,s7.2.2.2.1)))
def bC (p:List (List Jh)) (schedule:LI):Option ((LI)×Bool):= Option.bind (aR p) fun v1=>bif !v1 then some (([]:LI),false) else Option.bind (dP p (0:Int)) fun v3=>sumK (loopO (aD p schedule) (v3.at_,v3.regs,v3.mem,v3.buf,(0:Int))) fun s4=>Option.bind (jh p (⟨s4.1,s4.2.1,s4.2.2.1,s4.2.2.2⟩:Jn)) fun v21=>bif !v21 then some (([]:LI),false) else Option.bind (fF (⟨s4.1,s4.2.1,s4.2.2.1,s4.2.2.2⟩:Jn)) fun v23=>some (v23,true)
def Jo {α:Type} (x:Option α) (P:α->Prop):Prop:=∃ v,x=some v/\P v
section
variable {α β S E:Type} {P:α->Prop} {Q:β->Prop} {x y:Option α}
theorem Jo.pure {v:α} (h:P v):Jo (some v) P:=⟨v,rfl,h⟩
theorem Jo.mono {P':α->Prop} (h:Jo x P) (k:∀ v,P v->P' v):Jo x P':=by
 obtain ⟨v,e,p⟩:=h;exact ⟨v,e,k v p⟩
theorem Jo.bind {o:Option α} {f:α->Option β} (h:Jo o P) (k:∀ v,P v->Jo (f v) Q):Jo (o.bind f) Q:=by
 obtain ⟨v,rfl,p⟩:=h;exact k v p
theorem Jo.gd {b:Bool} (hb:b=true) (h:Jo x P):Jo (gd b x) P:=by rw [jq hb];exact h
theorem Jo.gdD {A:Prop} [Decidable A] (hb:A) (h:Jo x P):Jo (Go.Proofs.YtlmjnhnpahicmaaGreat.gd (decide A) x) P:=Jo.gd (decide_eq_true hb) h
theorem Jo.gdI {n:Int} (hb : -9223372036854775808<=n/\n<=9223372036854775807) (h:Jo x P):Jo (Go.Proofs.YtlmjnhnpahicmaaGreat.gd (Jf .i64 n) x) P:=Jo.gd (BM hb) h
theorem Jo.gdY {n:Int} (hb:0<=n/\n<=255) (h:Jo x P):Jo (Go.Proofs.YtlmjnhnpahicmaaGreat.gd (Jf .u8 n) x) P:=Jo.gd (GZ hb) h
theorem Ei {n m:Nat} (hn:n<=1048576) (hm:Nat.ble m 1000=true):aQ n m=true:=by
 have h1:=nlb hm;have h2:n*m<=1048576*1000:=Nat.mul_le_mul hn h1;exact decide_eq_true ⟨by omega,by omega⟩
theorem Jo.gdC {n m:Nat} (hn:n<=1048576) (hm:Nat.ble m 1000=true) (h:Jo x P):Jo (Go.Proofs.YtlmjnhnpahicmaaGreat.gd (aQ n m) x) P:=Jo.gd (Ei hn hm) h
theorem Jo.bif {b:Bool} (h1:b=true->Jo x P) (h2:b=false->Jo y P):Jo (bif b then x else y) P:=by
 cases b with
 | true=>exact h1 rfl
 | false=>exact h2 rfl
theorem Jo.bifD {A:Prop} [Decidable A] (h1:A->Jo x P) (h2 : ¬ A->Jo y P):Jo (_root_.cond (decide A) x y) P:=
 Jo.bif (fun h=>h1 (of_decide_eq_true h)) (fun h=>h2 (of_decide_eq_false h))
theorem Jo.sum {W:Type} {PS:S->Prop} {PW:W->Prop} {a:Option (S ⊕ W)} {f:S->Option W} (h:Jo a fun z=>match z with
  | .inl s=>PS s
  | .inr w=>PW w) (k:∀ s,PS s->Jo (f s) PW):Jo (sumK a f) PW:=by
 obtain ⟨v,rfl,p⟩:=h
 match v,p with
 | .inl s,p=>exact k s p
 | .inr w,p=>exact ⟨w,rfl,p⟩
theorem Jo.loop {step:S->Option (S ⊕ E)} {R:E->Prop} (J:S->Prop) (mu:S->Nat) {s0:S} (h0:J s0) (h:∀ s,J s->Jo (step s) fun z=>match z with
  | .inl s'=>J s'/\mu s'<mu s
  | .inr x=>R x):Jo (loopO step s0) R:=by
 have key:∀ (n:Nat) (s:S),mu s=n->J s->Jo (loopO step s) R:=by
  intro n
  induction n using Nat.strongRecOn with
  | _ n ih=>
   intro s hs hj;obtain ⟨z,e,hz⟩:=h s hj;rw [gm,e]
   match z,hz with
   | .inl s',hz=>exact ih (mu s') (by omega) s' rfl hz.1
   | .inr x,hz=>exact ⟨x,rfl,hz⟩
 exact key _ s0 rfl h0
theorem Jo.eq {v:α} (h:Jo x (· = v)):x=some v:=by
 obtain ⟨u,e,rfl⟩:=h;exact e
theorem Jo.of {v:α} (h:x=some v) (p:P v):Jo x P:=⟨v,h,p⟩
end
section
variable {α β:Type} {x x' y y':Option α}
end
structure Mac (σ:Type) where
 mv:σ->LI
 af:σ->Int->σ
 ky:σ->ByteArray
 dn:σ->Bool
 oc:σ->LI
section
variable {σ:Type} (M:Mac σ)
inductive Rea (s0:σ):σ->Prop
 | base:Rea s0 s0
 | step {s:σ} {m:Int} (h:Rea s0 s) (hm:m∈M.mv s):Rea s0 (M.af s m)
def I1 (s0:σ) (o:LI):Prop:=∃ s,Rea M s0 s/\M.dn s=true/\M.oc s=o
variable {M} {s0:σ} {N:Nat}
def Done (M:Mac σ) (V:List σ) (outs:LL) (v:σ):Prop:=(∀ m∈M.mv v,M.af v m∈V)/\(M.dn v=true->M.oc v∈outs)
structure Srch (M:Mac σ) (s0:σ) (V stack:List σ) (outs:List (List Int)) (cur:Option (σ×Nat)):Prop where
 rea:∀ v∈V,Rea M s0 v
 base:s0∈V
 nd:V.Nodup
 sub:∀ v∈stack,v∈V
 all:∀ v∈V,v∈stack\/(∃ n,cur=some (v,n))\/Done M V outs v
 out:∀ o∈outs,∃ v∈V,M.dn v=true/\M.oc v=o
 len:outs.length+stack.length<=V.length
 cur_:∀ s n,cur=some (s,n)->s∈V/\(M.dn s=true->M.oc s∈outs)/\∀ j,j<n->∀ m,(M.mv s)[j]? = some m->M.af s m∈V
theorem Srch.start:Srch M s0 [s0] [s0] [] none where
 rea:=fun v hv=>by rw [List.mem_singleton.1 hv];exact .base
 base:=List.mem_singleton.2 rfl
 nd:=by simp
 sub:=fun v hv=>hv
 all:=fun v hv => .inl hv
 out:=nofun
 len:=by simp
 cur_:=nofun
theorem Srch.new {V stack:List σ} {s:σ} {outs:LL} {n:Nat} {m:Int} (h:Srch M s0 V stack outs (some (s,n))) (hm:(M.mv s)[n]? = some m) (hv:M.af s m∉V):Srch M s0 (V++[M.af s m]) (stack++[M.af s m]) outs (some (s,n+1)) where
 rea:=fun v hv=>by
  rcases List.mem_append.1 hv with hv | hv
  ·exact h.rea v hv
  ·rw [List.mem_singleton.1 hv];exact .step (h.rea s (h.cur_ s n rfl).1) (List.mem_of_getElem? hm)
 base:=List.mem_append_left _ h.base
 nd:=by
  rw [List.nodup_append];exact ⟨h.nd,by simp,fun a ha b hb e=>hv (by rw [<- List.mem_singleton.1 hb,<- e];exact ha)⟩
 sub:=fun v hv=>by
  rcases List.mem_append.1 hv with hv | hv
  ·exact List.mem_append_left _ (h.sub v hv)
  ·exact List.mem_append_right _ hv
 all:=fun v hv=>by
  rcases List.mem_append.1 hv with hv | hv
  ·rcases h.all v hv with h1 | ⟨k,h1⟩ | ⟨h1,h2⟩
   ·exact .inl (List.mem_append_left _ h1)
   ·injection h1 with h1;injection h1 with h1 _;subst h1;exact .inr (.inl ⟨n+1,rfl⟩)
   ·exact .inr (.inr ⟨fun m hm=>List.mem_append_left _ (h1 m hm),h2⟩)
  ·exact .inl (List.mem_append_right _ hv)
 out:=fun o ho=>by
  obtain ⟨v,g1,g2⟩:=h.out o ho;exact ⟨v,List.mem_append_left _ g1,g2⟩
 len:=by
  have := h.len;simp only [lla,List.length_singleton];omega
 cur_:=fun t k e=>by
  injection e with e;injection e with e1 e2;subst e1 e2;obtain ⟨g1,g2,g3⟩:=h.cur_ s n rfl;refine ⟨List.mem_append_left _ g1,g2,fun j hj m' hm' => ?_⟩;rcases Nat.lt_or_ge j n with h' | h'
  ·exact List.mem_append_left _ (g3 j h' m' hm')
  ·obtain rfl:j=n:=by omega
   rw [hm] at hm';obtain rfl:=osl hm';exact List.mem_append_right _ (List.mem_singleton.2 rfl)
theorem Srch.fin {V stack:List σ} {s:σ} {outs:LL} {n:Nat} (h:Srch M s0 V stack outs (some (s,n))) (hn:(M.mv s).length<=n):Srch M s0 V stack outs none where
 rea:=h.rea
 base:=h.base
 nd:=h.nd
 sub:=h.sub
 all:=fun v hv=>by
  rcases h.all v hv with h1 | ⟨k,h1⟩ | h1
  ·exact .inl h1
  ·injection h1 with h1;injection h1 with h1 _;subst h1;obtain ⟨_,g2,g3⟩:=h.cur_ s n rfl;refine .inr (.inr ⟨fun m hm=>?_,g2⟩);obtain ⟨j,hj⟩:=List.getElem?_of_mem hm;exact g3 j (by have := (ges hj).1;omega) m hj
  ·exact .inr (.inr h1)
 out:=h.out
 len:=h.len
 cur_:=nofun
end
section
variable {σ:Type} [Inhabited σ] (mv:σ->Option (LI)) (af:σ->Int->Option σ) (ky:σ->Option ByteArray) (dn:σ->Option Bool) (oc:σ->Option (LI)) (srt:LL->Option (LL))
variable {mv af ky dn oc srt} {M:Mac σ} {s0:σ} {N:Nat}
end
def rdX (x:Jh):Bool:=x.Op==1||x.Op==5
def wrX (x:Jh):Bool:=x.Op==2||x.Op==3||x.Op==5
theorem Cs (x:Jh):Jo (bB x) (· = rdX x):=by
 unfold bB rdX;exact Jo.bind (P:=(· = (x.Op==1||x.Op==5))) (.bif (fun h => .pure (by rw [h];rfl)) fun h => .pure (by rw [h];rfl)) fun v hv => .pure hv
theorem vL (x:Jh):Jo (aT x) (· = wrX x):=by
 unfold aT wrX;exact Jo.bind (P:=(· = (x.Op==2||x.Op==3))) (.bif (fun h => .pure (by rw [h];rfl)) fun h => .pure (by rw [h];rfl)) fun v hv=>Jo.bind (P:=(· = (x.Op==2||x.Op==3||x.Op==5))) (.bif (fun h => .pure (by rw [<- hv,h];rfl)) fun h => .pure (by rw [<- hv,h];rfl)) fun v hv => .pure hv
def Vs (p:List (List Jh)):Prop:=p.length<=3/\∀ n,(p.getD n default).length<=7
theorem Vs.of {p:List (List Jh)} (h:aZ (p.map fun r=>r.map gy)=true):Vs p/\∀ t k:Nat,t<p.length->k<(p.getD t default).length->gz (gy ((p.getD t default).getD k default))=true:=by
 simp only [aZ,lC,bae,dte,List.all_eq_true,rowOk] at h;have hl:p.length<=3:=by simpa using h.1.1.1.1
 have hr:=h.1.1.1.2;refine ⟨⟨hl,fun n=>?_⟩,fun t k ht hk=>?_⟩
 ·by_cases hn:n<p.length
  ·have e:p.getD n default=p[n]:=by simp [hn]
   rw [e];have := (hr (p[n].map gy) (List.mem_map.2 ⟨p[n],List.getElem_mem hn,rfl⟩)).1;simpa using this
  ·rw [gdq,gen (by omega)];exact Nat.zero_le _
 ·have e:p.getD t default=p[t]:=by simp [ht]
  rw [e] at hk ⊢;have h1:=(hr (p[t].map gy) (List.mem_map.2 ⟨p[t],List.getElem_mem ht,rfl⟩)).2;have e2:p[t].getD k default=p[t][k]:=by simp [hk]
  rw [e2];exact h1 _ (List.mem_map.2 ⟨_,List.getElem_mem hk,rfl⟩)
def InR (x:Jh):Prop:=0<=x.Loc/\x.Loc<=2/\0<=x.Reg/\x.Reg<=2/\0<=x.Val/\x.Val<=3
theorem Ct {x:Jh} (h:gz (gy x)=true):InR x:=by
 obtain ⟨o,l,r,v⟩:=x;unfold InR;simp only;unfold gz gy at h;simp only [inB] at h
 split at h
 ·simp only [bae,dte,beq_iff_eq] at h;omega
 ·split at h
  ·simp only [bae,dte,beq_iff_eq] at h;omega
  ·split at h
   ·simp only [bae,dte,beq_iff_eq] at h;omega
   ·split at h
    ·simp only [bae,dte] at h;omega
    ·cases h
structure PV (p:List (List Jh)):Prop where
 vs:Vs p
 pos:0<p.length
 ins:∀ t k:Nat,t<p.length->k<(p.getD t default).length->InR ((p.getD t default).getD k default)
theorem PV.of {p:List (List Jh)} (h:aZ (p.map fun r=>r.map gy)=true):PV p:=by
 have h1:=Vs.of h;refine ⟨h1.1,?_,fun t k ht hk=>Ct (h1.2 t k ht hk)⟩;simp only [aZ,bae,dte,llm] at h;exact h.1.2
theorem au {n m:Nat} (hn:n<=4000000) (hm:Nat.ble m 1000=true):aQ n m=true:=by
 have h1:=nlb hm;have h2:n*m<=4000000*1000:=Nat.mul_le_mul hn h1;exact decide_eq_true ⟨by omega,by omega⟩
theorem mK (a:Z3b) (q i v:Int) (hq:0<=q/\q<=2) (hi:0<=i/\i<=2):Z3b.get (Z3b.set a q v) i=if i=q then v else Z3b.get a i:=by
 obtain ⟨x,y,z⟩:=a;have h1:q=0\/q=1\/q=2:=by omega
 have h2:i=0\/i=1\/i=2:=by omega
 rcases h1 with rfl | rfl | rfl <;> rcases h2 with rfl | rfl | rfl <;> rfl
theorem xn (a:Z33) (q i:Int) (v:Z3b) (hq:0<=q/\q<=2) (hi:0<=i/\i<=2):Z33.get (Z33.set a q v) i=if i=q then v else Z33.get a i:=by
 obtain ⟨x,y,z⟩:=a;have h1:q=0\/q=1\/q=2:=by omega
 have h2:i=0\/i=1\/i=2:=by omega
 rcases h1 with rfl | rfl | rfl <;> rcases h2 with rfl | rfl | rfl <;> rfl
theorem Jo.sumR {S W:Type} {a:Option (S ⊕ W)} {f:S->Option W} {w:W} (h:Jo a (· = .inr w)):Jo (sumK a f) (· = w):=by
 obtain ⟨v,rfl,rfl⟩:=h;exact ⟨w,rfl,rfl⟩
theorem Jo.sumL {S W:Type} {a:Option (S ⊕ W)} {f:S->Option W} {w:W} {s:S} (h:Jo a (· = .inl s)) (k:Jo (f s) (· = w)):Jo (sumK a f) (· = w):=by
 obtain ⟨v,rfl,rfl⟩:=h;exact k
def DN (u:Jk) (t:Int) (x:Jh):Int:=if x.Op=3 then Z3b.get (Z33.get u.reg t) x.Reg else x.Val
def Ej (u:Jk) (t:Int) (x:Jh):Jk:=
 ⟨u.p,Z3b.set u.pc t (Z3b.get u.pc t+1),if rdX x=true then Z33.set u.reg t (Z3b.set (Z33.get u.reg t) x.Reg (Z3b.get u.mem x.Loc)) else u.reg,if wrX x=true then Z3b.set u.mem x.Loc (DN u t x) else u.mem⟩
def ltL (x y:LI):Prop:=cmpL x y<0
theorem vM {x y:LI}:leL x y=true↔ltL x y\/x=y:=by
 unfold leL ltL;rw [dte];rcases kX x y with h | h | h
 ·exact ⟨fun _ => .inl h,fun _=>by have := mJ x y;omega⟩
 ·exact ⟨fun _ => .inr h,fun _=>by rw [h,jv];decide⟩
 ·refine ⟨fun g=>absurd h g,fun g=>?_⟩;rcases g with g | g
  ·have := mJ x y;omega
  ·rw [g,jv] at h;exact absurd h (by decide)
theorem Cu {x y:LI} (h:ltL x y):x≠y:=by
 rintro rfl;unfold ltL at h;rw [jv] at h;exact absurd h (by decide)
structure Sor (l q:List (List Int)):Prop where
 lt:q.Pairwise ltL
 mem:∀ o,o∈q↔o∈l
 len:q.length<=l.length
theorem zG {l c:LL} {n:Nat} (hs:l.Pairwise fun x y=>leL x y=true) (h:c.Pairwise ltL) (hm:∀ o,o∈c↔o∈l.take n) (h0:0<n) (hn:n<l.length) (hne:l.getD n default≠l.getD (n-1) default) :
  (c++[l.getD n default]).Pairwise ltL/\∀ o,o∈c++[l.getD n default]↔o∈l.take (n+1):=by
 have e1:l.getD n default=l[n]:=by simp [hn]
 have e2:l.getD (n-1) default=l[n-1]:=by simp [List.getD,show n-1<l.length by omega]
 rw [e1] at hne ⊢;rw [e2] at hne;have hp:=List.pairwise_iff_getElem.1 hs;refine ⟨List.pairwise_append.2 ⟨h,by simp,fun y hy x hx=>?_⟩,fun o=>?_⟩
 ·rw [List.mem_singleton.1 hx];obtain ⟨j,hj,rfl⟩:=List.getElem_of_mem ((hm y).1 hy);have hjn:j<n:=Nat.lt_of_lt_of_le (show j<min n l.length by simpa using hj) (Nat.min_le_left _ _);rw [List.getElem_take];rcases vM.1 (hp j n (by omega) hn hjn) with g | g
  ·exact g
  ·exfalso;apply hne
   by_cases hj1:j=n-1
   ·subst hj1;exact g.symm
   ·exact zF _ _ (g ▸ hp j (n-1) (by omega) (by omega) (by omega)) (hp (n-1) n (by omega) hn (by omega))
 ·rw [List.mem_append,hm,List.take_add_one,List.mem_append,geq hn];simp
theorem zH {l:LL} {n:Nat} (h0:0<n) (hn:n<l.length) (he:l.getD n default=l.getD (n-1) default) (o:LI):o∈l.take (n+1)↔o∈l.take n:=by
 have e1:l.getD n default=l[n]:=by simp [hn]
 have e2:l.getD (n-1) default=l[n-1]:=by simp [List.getD,show n-1<l.length by omega]
 rw [e1,e2] at he;rw [List.take_add_one,List.mem_append,geq hn];refine ⟨fun h=>h.elim id fun h=>?_,.inl⟩;have : o=l[n-1]:=by simpa [he] using h
 rw [this];exact List.mem_iff_getElem.2 ⟨n-1,by simp;omega,by simp⟩
theorem Cv (a b:LI) (ha:a.length<=1048576):Jo (bN a b) (· = decide (a=b)):=by
 unfold bN;refine .bif (fun h => .pure ?_) fun h=>?_
 ·have h:a.length≠b.length:=by
   intro e;rw [e] at h;simp at h
  rw [decide_eq_false (fun e=>h (by rw [e]))]
 ·have h:a.length=b.length:=by
   have : (a.length:Int)=(b.length:Int):=by simpa using h
   omega
  refine Jo.sum (PS:=fun _=>a=b) (PW:=fun v=>v=decide (a=b)) ?_ fun _ he => .pure (by rw [decide_eq_true he]);refine Jo.loop (fun i=>0<=i/\i<=(a.length:Int)/\∀ j:Nat,(j:Int)<i->a[j]? = b[j]?) (fun i=>((a.length:Int)-i).toNat) ⟨Int.le_refl _,by omega,fun j hj=>absurd hj (by omega)⟩ fun i ⟨h1,h2,h3⟩ => ?_;unfold fg;refine .bifD (fun hlt => .gdD ⟨h1,hlt⟩ (.gdD ⟨h1,by omega⟩ ?_)) fun hge => .pure ?_
  ·have hi:i.toNat<a.length:=by omega
   have hib:i.toNat<b.length:=by omega
   have ea:a.getD i.toNat default=a[i.toNat]:=by simp [hi]
   have eb:b.getD i.toNat default=b[i.toNat]:=by simp [hib]
   rw [ea,eb];refine .bif (fun hb => .pure ?_) fun hb => .gdI (by omega) (.pure ⟨⟨by omega,by omega,fun j hj=>?_⟩,by omega⟩)
   ·simp only [bne_iff_ne] at hb;have : a≠b:=fun e=>hb (by simp [e]);simp only [];rw [decide_eq_false this]
   ·by_cases ej:j=i.toNat
    ·subst ej;rw [geq hi,geq hib];have : a[i.toNat]=b[i.toNat]:=by simpa using hb
     rw [this]
    ·exact h3 j (by omega)
  ·simp only [];apply List.ext_getElem?;intro j;rcases Nat.lt_or_ge j a.length with g | g
   ·exact h3 j (by omega)
   ·rw [gen g,gen (by omega)]
theorem yJ (a b:LI) (ha:a.length<=1048576):Jo (bf a b) (· = decide (a=b)):=by
 unfold bf;exact (Cv a b ha).bind fun v hv => .pure hv
theorem yK {l:LL} (hs:l.Pairwise fun x y=>leL x y=true) (hl:l.length<=1099511627776) (hr:∀ r∈l,r.length<=1048576):Jo (aj l) (Sor l):=by
 have hrD:∀ n,(l.getD n default).length<=1048576:=fun n=>by
  by_cases hn:n<l.length
  ·have : l.getD n default=l[n]:=by simp [hn]
   rw [this];exact hr _ (List.getElem_mem hn)
  ·rw [gdq,gen (by omega)];exact Nat.zero_le _
 unfold aj;refine .bifD (fun h => .pure ⟨?_,fun _=>Iff.rfl,Nat.le_refl _⟩) fun h=>?_
 ·match l,h with
  | [],_=>exact .nil
  | [x],_=>simp
  | _::_::_,h=>simp at h;omega
 have h2:2<=l.length:=by omega
 refine Jo.sum (PS:=fun q=>Sor l q) (PW:=fun q=>Sor l q) ?_ fun q hq => .pure hq;refine Jo.loop (fun s=>s.1=l/\1<=s.2/\s.2<=(l.length:Int)/\(l.take s.2.toNat).Pairwise ltL) (fun s=>((l.length:Int)-s.2).toNat) ⟨rfl,Int.le_refl _,by simp only [];omega,?_⟩ fun s ⟨e,h1,h3,h4⟩ => ?_
 ·match l,h2 with
  | x::_,_=>simp
 obtain ⟨c,k⟩:=s;simp only at e h1 h3 h4;subst e;unfold aC;simp only [];refine .bifD (fun hlt=>?_) fun hge => .pure ?_
 rotate_left
 ·have : k.toNat=c.length:=by omega
  rw [this,List.take_length] at h4;exact ⟨h4,fun _=>Iff.rfl,Nat.le_refl _⟩
 have hk1:(k-1).toNat=k.toNat-1:=by omega
 refine Jo.sum (PS:=fun _=>c.getD k.toNat default≠c.getD (k.toNat-1) default) ?_ fun _ hne => .gdI (by omega) (.pure ⟨⟨rfl,by simp only [];omega,by simp only [];omega,?_⟩,by simp only [];omega⟩)
 rotate_left
 ·have := (zG hs h4 (fun _=>Iff.rfl) (by omega) (by omega) hne).1;simp only [];rw [show (k+1).toNat=k.toNat+1 by omega,List.take_add_one,geq (by omega)];rw [show c.getD k.toNat default=c[k.toNat]'(by omega) by simp [show k.toNat<c.length by omega]] at this;simpa using this
 refine .gdD ⟨by omega,hlt⟩ (.gdI (by omega) (.gdD ⟨by omega,by omega⟩ ((yJ _ _ (hrD _)).bind fun v hv=>?_)));subst hv;rw [hk1];refine .bifD (fun he=>?_) fun hne => .pure hne;refine .gdD ⟨by omega,by omega,Int.le_refl _⟩ ?_;refine Jo.bind (P:=fun z=>(k<=z.2/\z.2<=(c.length:Int))/\z.1.length=c.length/\(z.1.take z.2.toNat).Pairwise ltL/\∀ o,o∈z.1.take z.2.toNat↔o∈c) ?_ fun z ⟨⟨z1,z2⟩,z3,z4,z5⟩ => .gdD ⟨by omega,by omega,Int.le_refl _⟩ (.gdD ⟨Int.le_refl _,by omega,by omega⟩ (.pure ?_))
 rotate_left
 ·have e1:(((cpy z.1 (0+z.2.toNat) (List.replicate ((z.1.length:Int).toNat-z.2.toNat) (default:LI)) ((z.1.length:Int).toNat-z.2.toNat)).drop (0:Int).toNat).take (z.2.toNat-(0:Int).toNat))=z.1.take z.2.toNat:=by
   simp only [cpy,Nat.zero_add,show (0:Int).toNat=0 from rfl,List.drop_zero,Nat.sub_zero];rw [if_pos (by omega),List.append_assoc,List.take_append_of_le_length (by rw [List.length_take];omega),List.take_take,Nat.min_self]
  simp only [];rw [e1];exact ⟨z4,z5,by simp;omega⟩
 refine Jo.loop (fun s=>(1<=s.2.1/\k+s.2.1<=(c.length:Int))/\(k<=s.2.2/\s.2.2<=k+s.2.1-1)/\s.1.length=c.length/\(∀ j:Nat,k+s.2.1-1<=(j:Int)->s.1[j]? = c[j]?)/\(s.1.take s.2.2.toNat).Pairwise ltL/\∀ o,o∈s.1.take s.2.2.toNat↔o∈c.take (k+s.2.1).toNat) (fun s=>((c.length:Int)-k-s.2.1).toNat) ⟨⟨Int.le_refl _,by simp only [];omega⟩,⟨Int.le_refl _,by simp only [];omega⟩,rfl,fun _ _=>rfl,h4,fun o=>?_⟩ fun s ⟨⟨a1,a2⟩,⟨a3,a4⟩,a5,a6,a7,a8⟩ => ?_
 ·simp only [];rw [show (k+1).toNat=k.toNat+1 by omega];exact (zH (by omega) (by omega) he o).symm
 obtain ⟨d,k2,kk⟩:=s;simp only at a1 a2 a3 a4 a5 a6 a7 a8;unfold aA;simp only [];have hz:((((c.length:Int).toNat-k.toNat:Nat)):Int)=(c.length:Int)-k:=by omega
 rw [hz];refine .bifD (fun hlt2=>?_) fun hge => .pure ⟨⟨a3,by simp only [];omega⟩,a5,a7,fun o=>?_⟩
 rotate_left
 ·rw [a8,show (k+k2).toNat=c.length by omega,List.take_length]
 have g1:d.getD (0+k.toNat+k2.toNat) default=c.getD (k+k2).toNat default:=by
  rw [gdq,gdq,a6 _ (by omega),show 0+k.toNat+k2.toNat=(k+k2).toNat by omega]
 have g2:d.getD (0+k.toNat+(k2-1).toNat) default=c.getD ((k+k2).toNat-1) default:=by
  rw [gdq,gdq,a6 _ (by omega),show 0+k.toNat+(k2-1).toNat=(k+k2).toNat-1 by omega]
 have hn1:(k+(k2+1)).toNat=(k+k2).toNat+1:=by omega
 refine Jo.bind (P:=fun z=>(k<=z.2/\z.2<=k+k2)/\z.1.length=c.length/\(∀ j:Nat,k+k2<=(j:Int)->z.1[j]? = c[j]?)/\(z.1.take z.2.toNat).Pairwise ltL/\∀ o,o∈z.1.take z.2.toNat↔o∈c.take ((k+k2).toNat+1)) ?_ fun z ⟨⟨z1,z2⟩,z3,z4,z5,z6⟩ => .gdI (by omega) (.pure ⟨⟨⟨by simp only [];omega,by simp only [];omega⟩,⟨z1,by simp only [];omega⟩,z3,fun j hj=>z4 j (by simp only [] at hj;omega),z5,by simp only [hn1];exact z6⟩,by simp only [];omega⟩);refine .gdD ⟨⟨by omega,by omega⟩,by omega⟩ (.gdI (by omega) (.gdD ⟨⟨by omega,by omega⟩,by omega⟩ ?_));rw [g1,g2];refine (yJ _ _ (hrD _)).bind fun v hv=>?_;subst hv;rw [<- decide_not];refine .bifD (fun hne=>?_) fun he2 => .pure ⟨⟨a3,by simp only [];omega⟩,a5,fun j hj=>a6 j (by omega),a7,fun o=>?_⟩
 ·have hkl:kk.toNat<d.length:=by omega
  refine .gdD ⟨by omega,by omega⟩ (.gdI (by omega) (.pure ⟨⟨by simp only [];omega,by simp only [];omega⟩,by simp [a5],fun j hj=>?_,?_⟩))
  ·simp only [];rw [List.getElem?_set_ne (by omega)];exact a6 j (by omega)
  ·have e:(d.set kk.toNat (c.getD (k+k2).toNat default)).take (kk+1).toNat=d.take kk.toNat++[c.getD (k+k2).toNat default]:=by
    rw [show (kk+1).toNat=kk.toNat+1 by omega,List.take_add_one,List.getElem?_set_self hkl,List.take_set_of_le (Nat.le_refl _)]
    rfl
   simp only [];rw [e];exact zG hs a7 a8 (by omega) (by omega) hne
 ·simp only [];rw [a8];exact (zH (by omega) (by omega) (Decidable.not_not.1 he2) o).symm
theorem AC {l:LL} (hl:l.length<=1099511627776) (hr:∀ r∈l,r.length<=1048576):Jo (cg l) (Sor l):=by
 unfold cg;refine Jo.bind (P:=(· = xm l)) ?_ fun v hv=>?_
 ·unfold cZ;exact .gdD (by omega) (.pure rfl)
 subst hv;have hp:=jw l;refine (yK (sJ l) (by rw [hp.length_eq];exact hl) (fun r h=>hr r (hp.mem_iff.1 h))).bind fun v ⟨v1,v2,v3⟩ => .pure ⟨v1,fun o=>(v2 o).trans hp.mem_iff,by rw [<- hp.length_eq];exact v3⟩
structure Iv (p:List (List Jh)) (u:Jk):Prop where
 up:u.p=p
 pc:∀ t:Nat,t<3->0<=Z3b.get u.pc t/\Z3b.get u.pc t<=((p.getD t default).length:Int)
 rv:∀ t g:Nat,t<3->g<3->0<=Z3b.get (Z33.get u.reg t) g/\Z3b.get (Z33.get u.reg t) g<=3
 mv:∀ l:Nat,l<3->0<=Z3b.get u.mem l/\Z3b.get u.mem l<=3
def Ek (u:Jk) (t:Nat):Bool:=decide (Z3b.get u.pc t<((u.p.getD t default).length:Int))
def Iy (u:Jk) (n:Nat):LI:=((List.range n).filter (Ek u)).map Int.ofNat
def He (u:Jk):LI:=Iy u u.p.length
def FW (u:Jk) (t:Int):Jh:=(u.p.getD t.toNat default).getD (Z3b.get u.pc t).toNat default
def ug (u:Jk) (n:Nat):LI:=(List.range n).flatMap fun t:Nat=>(List.range 3).map fun g:Nat=>Z3b.get (Z33.get u.reg t) g
def IU (u:Jk):LI:=(List.range 3).map fun l:Nat=>Z3b.get u.mem l
def El (u:Jk):LI:=ug u u.p.length++IU u
def I2 (u:Jk):LI:=[u.pc.x0,u.pc.x1,u.pc.x2,u.reg.x0.x0,u.reg.x0.x1,u.reg.x0.x2,u.reg.x1.x0,u.reg.x1.x1,u.reg.x1.x2,u.reg.x2.x0,u.reg.x2.x1,u.reg.x2.x2,u.mem.x0,u.mem.x1,u.mem.x2]
def Iz:Mac ZSq where
 mv s:=He s.values
 af s t:=⟨Ej s.values t (FW s.values t)⟩
 ky s:=strOfNums (I2 s.values)
 dn s:=(He s.values).isEmpty
 oc s:=El s.values
section
variable {p:List (List Jh)} {u:Jk}
theorem vN {n:Nat} {m:Int}:m∈Iy u n↔∃ t:Nat,t<n/\m=t/\Ek u t=true:=by
 unfold Iy;rw [List.mem_map]
 constructor
 ·rintro ⟨t,ht,rfl⟩;rw [List.mem_filter,List.mem_range] at ht;exact ⟨t,ht.1,rfl,ht.2⟩
 ·rintro ⟨t,h1,rfl,h2⟩;exact ⟨t,List.mem_filter.2 ⟨List.mem_range.2 h1,h2⟩,rfl⟩
theorem uK (n:Nat):ug u (n+1)=ug u n++(List.range 3).map fun g:Nat=>Z3b.get (Z33.get u.reg n) g:=by
 unfold ug;rw [show List.range (n+1)=List.range n++[n] from List.range_succ,List.flatMap_append];simp
theorem xp (n:Nat):(ug u n).length=3*n:=by
 induction n with
 | zero=>rfl
 | succ n ih=>rw [uK,lla,ih];simp;omega
theorem Em (hp:PV p) (h:Iv p u):Jo (aS u) (· = El u):=by
 have hl:=hp.vs.1;unfold aS;refine Jo.bind (P:=(· = ug u p.length)) ?_ fun v hv=>?_
 ·refine Jo.loop (fun s=>(0<=s.2/\s.2<=(p.length:Int))/\s.1=ug u s.2.toNat) (fun s=>((p.length:Int)-s.2).toNat) ⟨⟨Int.le_refl _,by simp only [];omega⟩,rfl⟩ fun s ⟨⟨h1,h2⟩,h3⟩ => ?_;unfold bA;simp only [h.up];refine .bifD (fun hlt=>?_) fun hge => .pure ?_
  ·obtain ⟨l,i⟩:=s;simp only at h1 h2 h3 hlt;obtain ⟨n,rfl⟩:∃ n:Nat,i=n:=⟨i.toNat,by omega⟩;simp only [tnn] at h3;subst h3;have hln:=xp (u:=u) n;refine Jo.bind (P:=(· = ug u (n+1))) ?_ fun v hv => .gdI (by omega) (.pure ⟨⟨⟨by simp only [];omega,by simp only [];omega⟩,hv⟩,by simp only [];omega⟩);refine .gdD ⟨by omega,by omega⟩ (Jo.loop (fun s=>(0<=s.2/\s.2<=3)/\s.1=ug u n++(List.range s.2.toNat).map fun g:Nat=>Z3b.get (Z33.get u.reg n) g) (fun s=>((3:Int)-s.2).toNat) ⟨⟨Int.le_refl _,(by decide:(0:Int)<=3)⟩,by simp⟩ fun s ⟨⟨a1,a2⟩,a3⟩ => ?_);unfold bv;simp only [];refine .bifD (fun hlt=>?_) fun hge => .pure ?_
   ·obtain ⟨l,j⟩:=s;simp only at a1 a2 a3 hlt;obtain ⟨g,rfl⟩:∃ g:Nat,j=g:=⟨j.toNat,by omega⟩;simp only [tnn] at a3;subst a3;have hv:=h.rv n g (by omega) (by omega);refine .gdD ⟨by omega,hlt⟩ (.gdI (by first | omega | (simp only [];omega)) (.gd (au (by simp;omega) rfl) (.gdI (by omega) (.pure ⟨⟨⟨by simp only [];omega,by simp only [];omega⟩,?_⟩,by simp only [];omega⟩))));simp only [];rw [show ((g:Int)+1).toNat=g+1 by omega,List.range_succ,List.map_append,<- List.append_assoc]
    rfl
   ·rw [a3,uK,show s.2.toNat=3 by omega]
  ·rw [h3,show s.2.toNat=p.length by omega]
 ·subst hv;refine Jo.bind (P:=(· = El u)) ?_ fun v hv => .pure hv;have hln:=xp (u:=u) p.length;refine Jo.loop (fun s=>(0<=s.2/\s.2<=3)/\s.1=ug u p.length++(List.range s.2.toNat).map fun g:Nat=>Z3b.get u.mem g) (fun s=>((3:Int)-s.2).toNat) ⟨⟨Int.le_refl _,(by decide:(0:Int)<=3)⟩,by simp⟩ fun s ⟨⟨a1,a2⟩,a3⟩ => ?_;unfold bw;refine .bifD (fun hlt=>?_) fun hge => .pure ?_
  ·obtain ⟨l,j⟩:=s;simp only at a1 a2 a3 hlt;obtain ⟨g,rfl⟩:∃ g:Nat,j=g:=⟨j.toNat,by omega⟩;simp only [tnn] at a3;subst a3;have hv:=h.mv g (by omega);refine .gdD ⟨by omega,hlt⟩ (.gdI (by first | omega | (simp only [];omega)) (.gd (au (by simp;omega) rfl) (.gdI (by omega) (.pure ⟨⟨⟨by simp only [];omega,by simp only [];omega⟩,?_⟩,by simp only [];omega⟩))));simp only [];rw [show ((g:Int)+1).toNat=g+1 by omega,List.range_succ,List.map_append,<- List.append_assoc]
   rfl
  ·rw [a3,show s.2.toNat=3 by omega];unfold El IU;rw [h.up]
end
section
variable {p:List (List Jh)} {u:Jk}
theorem Iv.ins (hp:PV p) (h:Iv p u) {t:Nat} (ht:t<p.length) (hc:Ek u t=true):InR (FW u t):=by
 have hl:=hp.vs.1;have h1:=h.pc t (by omega);unfold Ek at hc;rw [h.up] at hc;have hc:=of_decide_eq_true hc;unfold FW;rw [h.up,tnn];exact hp.ins t _ ht (by omega)
theorem Iv.after (h:Iv p u) {t:Nat} (ht:t<3) (hc:Ek u t=true) {x:Jh} (hx:InR x):Iv p (Ej u t x):=by
 obtain ⟨x1,x2,x3,x4,x5,x6⟩:=hx;obtain ⟨l,hlx⟩:∃ l:Nat,x.Loc=l:=⟨x.Loc.toNat,by omega⟩;obtain ⟨g,hgx⟩:∃ g:Nat,x.Reg=g:=⟨x.Reg.toNat,by omega⟩;unfold Ek at hc;rw [h.up] at hc;have hc:=of_decide_eq_true hc;have hvv:0<=DN u t x/\DN u t x<=3:=by
  unfold DN
  split
  ·rw [hgx];exact h.rv t g ht (by omega)
  ·omega
 unfold Ej;refine ⟨h.up,fun i hi=>?_,fun t' g' ht' hg' => ?_,fun l' hl' => ?_⟩
 ·simp only [];rw [mK _ _ _ _ (by omega) (by omega)]
  by_cases e:i=t
  ·subst e;have := h.pc i hi;rw [if_pos rfl];omega
  ·rw [if_neg (by omega)];exact h.pc i hi
 ·simp only []
  split
  ·rw [xn _ _ _ _ (by omega) (by omega)]
   by_cases e:t'=t
   ·subst e;rw [if_pos rfl,hgx,mK _ _ _ _ (by omega) (by omega)]
    by_cases e2:g'=g
    ·subst e2;rw [if_pos rfl,hlx];exact h.mv l (by omega)
    ·rw [if_neg (by omega)];exact h.rv t' g' ht' hg'
   ·rw [if_neg (by omega)];exact h.rv t' g' ht' hg'
  ·exact h.rv t' g' ht' hg'
 ·simp only []
  split
  ·rw [hlx,mK _ _ _ _ (by omega) (by omega)]
   split
   ·exact hvv
   ·exact h.mv l' hl'
  ·exact h.mv l' hl'
def v0 (p:List (List Jh)):Jk:=⟨p,⟨0,0,0⟩,⟨⟨0,0,0⟩,⟨0,0,0⟩,⟨0,0,0⟩⟩,⟨0,0,0⟩⟩
theorem z3 (i:Int):Z3b.get ⟨0,0,0⟩ i=0:=by
 simp only [Z3b.get]
 split <;> (try split) <;> rfl
theorem z33 (i:Int):Z33.get ⟨⟨0,0,0⟩,⟨0,0,0⟩,⟨0,0,0⟩⟩ i=⟨0,0,0⟩:=by
 simp only [Z33.get]
 split <;> (try split) <;> rfl
theorem Iv.start (p:List (List Jh)):Iv p (v0 p):=by
 refine ⟨rfl,fun t _=>?_,fun t g _ _=>?_,fun l _=>?_⟩
 ·unfold v0;simp only [z3];omega
 ·unfold v0;simp only [z33,z3];decide
 ·unfold v0;simp only [z3];decide
theorem Hf (hp:PV p) {s0 s:ZSq} (h0:Iv p s0.values) (h:Rea Iz s0 s):Iv p s.values:=by
 induction h with
 | base=>exact h0
 | step _ hm ih=>
  obtain ⟨t,h1,rfl,h2⟩:=vN.1 hm;rw [ih.up] at h1;have hl:=hp.vs.1;exact ih.after (by omega) h2 (ih.ins hp h1 h2)
def I3 (p:List (List Jh)):LI->Prop:=I1 Iz ⟨v0 p⟩
end
end
end Go.Proofs.YtlmjnhnpahicmaaGreat
