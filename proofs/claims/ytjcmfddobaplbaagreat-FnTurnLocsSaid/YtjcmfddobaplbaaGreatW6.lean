/- Texts joined. No conditions. -/
import Derived.Test.YtjcmfddobaplbaaGreatW5
namespace Go.Proofs.YtjcmfddobaplbaaGreat
noncomputable section
open _root_.Option renaming bind -> Qs
open _root_.Int renaming le_refl -> Qt
open _root_.List renaming mem_singleton -> Qu, range -> Qv, mem_append_left -> Qw, mem_map -> Qx, mem_append -> Qy, length_singleton -> Qz, getElem_mem -> QA, mem_append_right -> QB, replicate -> QD, map_map -> QE, take_add_one -> QF, range_succ -> QG, mem_of_getElem? -> QI, mem_range -> QK, mem_cons_self -> QL, mem_cons_of_mem -> QM, append_assoc -> QN, map_append -> QO, map_id -> QP, map_congr_left -> QQ, getElem_of_mem -> QR
open _root_.Nat renaming le_refl -> QC, mul_le_mul -> QH, lt_or_ge -> QJ
open Go.RowKit
set_option maxRecDepth 100000
def rO (p:List<|List Nf):Option Nh:= some (⟨(⟨p,(⟨(0:Int),(0:Int),(0:Int)⟩:Z3b),(⟨(⟨(0:Int),(0:Int),(0:Int)⟩:Z3b),(⟨(0:Int),(0:Int),(0:Int)⟩:Z3b),(⟨(0:Int),(0:Int),(0:Int)⟩:Z3b)⟩:Z33),(⟨(0:Int),(0:Int),(0:Int)⟩:Z3b)⟩:Ng)⟩:Nh)
def ib (v:Ng):LS ((LI)×Int) (LI):=λs6=>bif decide (s6.2<(3:Int)) then gd (decide<|0<=s6.2/\s6.2<3) <|gd (dH (s6.1.length+([(⟨(Z33.get v.reg s6.2).x0,(Z33.get v.reg s6.2).x1,(Z33.get v.reg s6.2).x2⟩:Z3b).x0,(⟨(Z33.get v.reg s6.2).x0,(Z33.get v.reg s6.2).x1,(Z33.get v.reg s6.2).x2⟩:Z3b).x1,(⟨(Z33.get v.reg s6.2).x0,(Z33.get v.reg s6.2).x1,(Z33.get v.reg s6.2).x2⟩:Z3b).x2]:LI).length) 1) <|gd (Nb .i64<|s6.2+(1:Int)) <|some (.inl ((s6.1++([(⟨(Z33.get v.reg s6.2).x0,(Z33.get v.reg s6.2).x1,(Z33.get v.reg s6.2).x2⟩:Z3b).x0,(⟨(Z33.get v.reg s6.2).x0,(Z33.get v.reg s6.2).x1,(Z33.get v.reg s6.2).x2⟩:Z3b).x1,(⟨(Z33.get v.reg s6.2).x0,(Z33.get v.reg s6.2).x1,(Z33.get v.reg s6.2).x2⟩:Z3b).x2]:LI)),(s6.2+(1:Int)))) else some (.inr s6.1)
def bW (v:Ng):Option ByteArray:= gd (dH (([]:LI).length+([v.pc.x0,v.pc.x1,v.pc.x2]:LI).length) 1) <|Qs (bA (ib v) ((([]:LI)++([v.pc.x0,v.pc.x1,v.pc.x2]:LI)),(0:Int))) λs2=>gd (dH (s2.length+([v.mem.x0,v.mem.x1,v.mem.x2]:LI).length) 1) <|some<|strOfNums<|s2++([v.mem.x0,v.mem.x1,v.mem.x2]:LI)
def dh (s:Nh):Option ByteArray:= Qs (bW s.values) λv1=>some v1
def bu (v:Ng) (t:Int):Option (Nf×Bool):= gd (decide<|0<=t/\t<3) <|gd (Nb .i64<|Z3b.get v.pc t) <|gd (decide<|0<=t/\t<(v.p.length:Int)) <|bif decide (((v.p.getD t.toNat default).length:Int)<=(Z3b.get v.pc t)) then some ((⟨(0:Int),(0:Int),(0:Int),(0:Int)⟩:Nf),false) else gd (decide<|0<=(Z3b.get v.pc t)/\(Z3b.get v.pc t)<((v.p.getD t.toNat default).length:Int)) <|some ((⟨((v.p.getD t.toNat default).getD (Z3b.get v.pc t).toNat default).Op,((v.p.getD t.toNat default).getD (Z3b.get v.pc t).toNat default).Loc,((v.p.getD t.toNat default).getD (Z3b.get v.pc t).toNat default).Reg,((v.p.getD t.toNat default).getD (Z3b.get v.pc t).toNat default).Val⟩:Nf),true)
def jd (v:Ng):LS Int (Unit ⊕ Bool):=λs4=>bif decide (s4<(v.p.length:Int)) then Qs (bu v s4) λv7=>bif v7.2 then some (.inr<|.inr false) else gd (Nb .i64<|s4+(1:Int)) <|some (.inl<|s4+(1:Int)) else some (.inr<|.inl ())
def bC (v:Ng):Option Bool:= sumK (bA (jd v) (0:Int)) λs1=>some true
def di (s:Nh):Option Bool:= Qs (bC s.values) λv1=>some v1
def eP (v:Ng) (s7:(LI)×Int):LS ((LI)×Int) (LI):=λs20=>bif decide (s20.2<(3:Int)) then gd (decide<|0<=s20.2/\s20.2<3) <|gd (Nb .i64<|Z3b.get (Z33.get v.reg s7.2) s20.2) <|gd (dH (s20.1.length+1) 8) <|gd (Nb .i64<|s20.2+(1:Int)) <|some (.inl ((s20.1++[(Z3b.get (Z33.get v.reg s7.2) s20.2)]),(s20.2+(1:Int)))) else some (.inr s20.1)
def cn (v:Ng):LS ((LI)×Int) (LI):=λs7=>bif decide (s7.2<(v.p.length:Int)) then Qs (gd (decide<|0<=s7.2/\s7.2<3) <|bA (eP v s7) (s7.1,(0:Int))) λs13=>gd (Nb .i64<|s7.2+(1:Int)) <|some (.inl (s13,(s7.2+(1:Int)))) else some (.inr s7.1)
def bZ (v:Ng):LS ((LI)×Int) (LI):=λs43=>bif decide (s43.2<(3:Int)) then gd (decide<|0<=s43.2/\s43.2<3) <|gd (Nb .i64<|Z3b.get v.mem s43.2) <|gd (dH (s43.1.length+1) 8) <|gd (Nb .i64<|s43.2+(1:Int)) <|some (.inl ((s43.1++[(Z3b.get v.mem s43.2)]),(s43.2+(1:Int)))) else some (.inr s43.1)
def aQ (v:Ng):Option (LI):= Qs (bA (cn v) (([]:LI),(0:Int))) λs1=>Qs (bA (bZ v) (s1,(0:Int))) λs37=>some s37
def iZ (s:Nh):LS ((LI)×Int) (LI):=λs7=>bif decide (s7.2<(s.values.p.length:Int)) then Qs (Qs (bu s.values s7.2) λv14=>bif v14.2 then gd (dH (s7.1.length+1) 8) <|some (s7.1++[s7.2]) else some s7.1) λs13=>gd (Nb .i64<|s7.2+(1:Int)) <|some (.inl (s13,(s7.2+(1:Int)))) else some (.inr s7.1)
def eB (s:Nh):Option (LI):= Qs (bA (iZ s) (([]:LI),(0:Int))) λs1=>some s1
def bI (v:Ng) (t:Int) (x:Nf):Option Int:= bif (x.Op==(3:Int)) then gd (decide<|0<=t/\t<3) <|gd (decide<|0<=x.Reg/\x.Reg<3) <|some (Z3b.get (Z33.get v.reg t) x.Reg) else gd (Nb .u8 x.Val) <|some x.Val
def dz (x:Nf):Option Bool:= Qs (bif (x.Op==(1:Int)) then some true else some (x.Op==(5:Int))) λs1=>some s1
def fM (x:Nf):Option Bool:= Qs (bif (x.Op==(2:Int)) then some true else some (x.Op==(3:Int))) λs1=>Qs (bif s1 then some true else some (x.Op==(5:Int))) λs3=>some s3
def eC (s:Nh) (t:Int):Option Nh:= Qs (bu s.values t) λv1=>gd (decide<|0<=t/\t<3) <|gd (Nb .u8<|(Z3b.get s.values.pc t)+(1:Int)) <|Qs (bI s.values t (⟨v1.1.Op,v1.1.Loc,v1.1.Reg,v1.1.Val⟩:Nf)) λv4=>Qs (Qs (dz (⟨v1.1.Op,v1.1.Loc,v1.1.Reg,v1.1.Val⟩:Nf)) λv6=>bif v6 then gd (decide<|0<=v1.1.Loc/\v1.1.Loc<3) <|gd (decide<|0<=v1.1.Reg/\v1.1.Reg<3) <|some (((Z33.set s.values.reg t<|Z3b.set (Z33.get s.values.reg t) v1.1.Reg<|Z3b.get s.values.mem v1.1.Loc).x0).x0,((Z33.set s.values.reg t<|Z3b.set (Z33.get s.values.reg t) v1.1.Reg<|Z3b.get s.values.mem v1.1.Loc).x0).x1,((Z33.set s.values.reg t<|Z3b.set (Z33.get s.values.reg t) v1.1.Reg<|Z3b.get s.values.mem v1.1.Loc).x0).x2,((Z33.set s.values.reg t<|Z3b.set (Z33.get s.values.reg t) v1.1.Reg<|Z3b.get s.values.mem v1.1.Loc).x1).x0,((Z33.set s.values.reg t<|Z3b.set (Z33.get s.values.reg t) v1.1.Reg<|Z3b.get s.values.mem v1.1.Loc).x1).x1,((Z33.set s.values.reg t<|Z3b.set (Z33.get s.values.reg t) v1.1.Reg<|Z3b.get s.values.mem v1.1.Loc).x1).x2,((Z33.set s.values.reg t<|Z3b.set (Z33.get s.values.reg t) v1.1.Reg<|Z3b.get s.values.mem v1.1.Loc).x2).x0,((Z33.set s.values.reg t<|Z3b.set (Z33.get s.values.reg t) v1.1.Reg<|Z3b.get s.values.mem v1.1.Loc).x2).x1,((Z33.set s.values.reg t<|Z3b.set (Z33.get s.values.reg t) v1.1.Reg<|Z3b.get s.values.mem v1.1.Loc).x2).x2) else some (s.values.reg.x0.x0,s.values.reg.x0.x1,s.values.reg.x0.x2,s.values.reg.x1.x0,s.values.reg.x1.x1,s.values.reg.x1.x2,s.values.reg.x2.x0,s.values.reg.x2.x1,s.values.reg.x2.x2)) λs5=>Qs (Qs (fM (⟨v1.1.Op,v1.1.Loc,v1.1.Reg,v1.1.Val⟩:Nf)) λv11=>bif v11 then gd (decide<|0<=v1.1.Loc/\v1.1.Loc<3) <|some ((Z3b.set s.values.mem v1.1.Loc v4).x0,(Z3b.set s.values.mem v1.1.Loc v4).x1,(Z3b.set s.values.mem v1.1.Loc v4).x2) else some (s.values.mem.x0,s.values.mem.x1,s.values.mem.x2)) λs10=>some (⟨(⟨s.values.p,(⟨(Z3b.set s.values.pc t<|(Z3b.get s.values.pc t)+(1:Int)).x0,(Z3b.set s.values.pc t<|(Z3b.get s.values.pc t)+(1:Int)).x1,(Z3b.set s.values.pc t<|(Z3b.get s.values.pc t)+(1:Int)).x2⟩:Z3b),(⟨(⟨s5.1,s5.2.1,s5.2.2.1⟩:Z3b),(⟨s5.2.2.2.1,s5.2.2.2.2.1,s5.2.2.2.2.2.1⟩:Z3b),(⟨s5.2.2.2.2.2.2.1,s5.2.2.2.2.2.2.2.1,s5.2.2.2.2.2.2.2.2⟩:Z3b)⟩:Z33),(⟨s10.1,s10.2.1,s10.2.2⟩:Z3b)⟩:Ng)⟩:Nh)
def iP (s1_:LI) (s2_:LI):LS Int (Unit ⊕ Bool):=λs5=>bif decide (s5<(s1_.length:Int)) then gd (decide<|0<=s5/\s5<(s1_.length:Int)) <|gd (decide<|0<=s5/\s5<(s2_.length:Int)) <|bif ((s1_.getD s5.toNat default) != (s2_.getD s5.toNat default)) then some (.inr<|.inr false) else gd (Nb .i64<|s5+(1:Int)) <|some (.inl<|s5+(1:Int)) else some (.inr<|.inl ())
def dW (s1_:LI) (s2_:LI):Option Bool:= bif ((s1_.length:Int) != (s2_.length:Int)) then some false else sumK (bA (iP s1_ s2_) (0:Int)) λs2=>some true
def cE (a:LI) (b:LI):Option Bool:= Qs (dW a b) λv1=>some v1
def aS (s8:(LL)×Int):LS ((LL)×Int×Int) ((LL)×Int):=λs25=>bif decide (s25.2.1<((((s8.1.length:Int).toNat-s8.2.toNat):Nat):Int)) then Qs (gd (decide<|(0<=s25.2.1/\s25.2.1<((((s8.1.length:Int).toNat-s8.2.toNat):Nat):Int))/\((0+s8.2.toNat)+s25.2.1.toNat)<s25.1.length) <|gd (Nb .i64<|s25.2.1-(1:Int)) <|gd (decide<|(0<=(s25.2.1-(1:Int))/\(s25.2.1-(1:Int))<((((s8.1.length:Int).toNat-s8.2.toNat):Nat):Int))/\((0+s8.2.toNat)+(s25.2.1-(1:Int)).toNat)<s25.1.length) <|Qs (cE (s25.1.getD ((0+s8.2.toNat)+s25.2.1.toNat) default)<|s25.1.getD ((0+s8.2.toNat)+(s25.2.1-(1:Int)).toNat) default) λv33=>bif !v33 then gd (decide<|0<=s25.2.2/\s25.2.2<(s25.1.length:Int)) <|gd (Nb .i64<|s25.2.2+(1:Int)) <|some ((s25.1.set s25.2.2.toNat<|s25.1.getD ((0+s8.2.toNat)+s25.2.1.toNat) default),(s25.2.2+(1:Int))) else some (s25.1,s25.2.2)) λs29=>gd (Nb .i64<|s25.2.1+(1:Int)) <|some (.inl (s29.1,(s25.2.1+(1:Int)),s29.2)) else some (.inr (s25.1,s25.2.2))
def aV:LS ((LL)×Int) ((LL) ⊕ (LL)):=λs8=>bif decide (s8.2<(s8.1.length:Int)) then sumK (gd (decide<|0<=s8.2/\s8.2<(s8.1.length:Int)) <|gd (Nb .i64<|s8.2-(1:Int)) <|gd (decide<|0<=(s8.2-(1:Int))/\(s8.2-(1:Int))<(s8.1.length:Int)) <|Qs (cE (s8.1.getD s8.2.toNat default)<|s8.1.getD ((s8.2-(1:Int)).toNat) default) λv18=>bif v18 then gd (decide<|0<=s8.2/\s8.2<=(s8.1.length:Int)/\(s8.1.length:Int)<=(s8.1.length:Int)) <|Qs (bA (aS s8) (s8.1,(1:Int),s8.2)) λs21=>gd (decide<|0<=s21.2/\s21.2<=(s21.1.length:Int)/\(s21.1.length:Int)<=(s21.1.length:Int)) <|gd (decide<|0<=(0:Int)/\(0:Int)<=s21.2/\s21.2<=(s21.1.length:Int)) <|some (.inr<|.inr<|.inr<|((cpy s21.1 (0+s21.2.toNat) (QD ((s21.1.length:Int).toNat-s21.2.toNat) (default:LI))<|(s21.1.length:Int).toNat-s21.2.toNat).drop (0:Int).toNat).take<|s21.2.toNat-(0:Int).toNat) else some (.inl ())) λs14=>gd (Nb .i64<|s8.2+(1:Int)) <|some (.inl (s8.1,(s8.2+(1:Int)))) else some (.inr<|.inl s8.1)
def aN (s:LL):Option (LL):= bif decide ((s.length:Int)<(2:Int)) then some s else sumK (bA aV (s,(1:Int))) λs2=>some s2
def aR (list:LL):Option (LL):= Qs (fg list) λv1=>Qs (aN v1) λv2=>some v2
def iD (s9:(List<|ByteArray×Bool)×(LL)×(List Nh)) (s19:(LL)) (v27:(LI)):LS ((List<|ByteArray×Bool)×(List Nh)×Int) (((List<|ByteArray×Bool)×(LL)×(List Nh)) ⊕ ((List<|ByteArray×Bool)×(LL))):=λs31=>bif decide (s31.2.2<(v27.length:Int)) then Qs (gd (decide<|0<=s31.2.2/\s31.2.2<(v27.length:Int)) <|Qs (eC (s9.2.2.getD (((s9.2.2.length:Int)-(1:Int)).toNat) default)<|v27.getD s31.2.2.toNat default) λv37=>Qs (dh v37) λv38=>bif !((zC s31.1 v38).getD false) then gd (dH (s31.2.1.length+1) 16) <|some ((uz s31.1 v38 true),(s31.2.1++[v37])) else some (s31.1,s31.2.1)) λs35=>gd (Nb .i64<|s31.2.2+(1:Int)) <|some (.inl (s35.1,s35.2,(s31.2.2+(1:Int)))) else some (.inr<|.inl (s31.1,s19,s31.2.1))
def iE:LS ((List<|ByteArray×Bool)×(LL)×(List Nh)) ((List<|ByteArray×Bool)×(LL)):=λs9=>bif decide ((0:Int)<(s9.2.2.length:Int)) then gd (Nb .i64<|(s9.2.2.length:Int)-(1:Int)) <|gd (decide<|0<=((s9.2.2.length:Int)-(1:Int))/\((s9.2.2.length:Int)-(1:Int))<(s9.2.2.length:Int)) <|gd (decide<|0<=(0:Int)/\(0:Int)<=((s9.2.2.length:Int)-(1:Int))/\((s9.2.2.length:Int)-(1:Int))<=(s9.2.2.length:Int)) <|Qs (Qs (di<|s9.2.2.getD (((s9.2.2.length:Int)-(1:Int)).toNat) default) λv20=>bif v20 then Qs (aQ<|(s9.2.2.getD (((s9.2.2.length:Int)-(1:Int)).toNat) default).values) λv22=>gd (dH (s9.2.1.length+1) 24) <|some (s9.2.1++[v22]) else some s9.2.1) λs19=>Qs (eB<|s9.2.2.getD (((s9.2.2.length:Int)-(1:Int)).toNat) default) λv27=>bA (iD s9 s19 v27) (s9.1,((s9.2.2.drop (0:Int).toNat).take<|((s9.2.2.length:Int)-(1:Int)).toNat-(0:Int).toNat),(0:Int)) else some (.inr (s9.1,s9.2.1))
def gG (start:Nh):Option ((LL)×Int):= Qs (dh start) λv1=>Qs (bA iE ((uz ([]:List<|ByteArray×Bool) v1 true),([]:LL),([start]:List Nh))) λs2=>Qs (aR s2.2) λv46=>some (v46,(s2.1.length:Int))
def jh (p:List<|List Nf):Option (LL):= Qs (aA p) λv1=>bif !v1 then some ([]:LL) else Qs (rO p) λv3=>Qs (gG v3) λv4=>some v4.1
def iy (p:List<|List Nf) (split:Bool):Option aj:= gd (decide<|0<=(p.length:Int)/\(p.length:Int)<=(p.length:Int)/\(p.length:Int)*((24:Nat):Int)<=140737488355328/\(p.length:Int)<=140737488355328) <|Qs (bif split then gd (Nb .i64<|(3:Int)*(p.length:Int)) <|gd (decide<|0<=((3:Int)*(p.length:Int))/\((3:Int)*(p.length:Int))<=((3:Int)*(p.length:Int))/\((3:Int)*(p.length:Int))*((24:Nat):Int)<=140737488355328/\((3:Int)*(p.length:Int))<=140737488355328) <|some (QD ((3:Int)*(p.length:Int)).toNat ([]:LI)) else some (QD (p.length:Int).toNat ([]:LI))) λs2=>some (⟨(⟨p,(⟨(0:Int),(0:Int),(0:Int)⟩:Z3b),(⟨(⟨(0:Int),(0:Int),(0:Int)⟩:Z3b),(⟨(0:Int),(0:Int),(0:Int)⟩:Z3b),(⟨(0:Int),(0:Int),(0:Int)⟩:Z3b)⟩:Z33),(⟨(0:Int),(0:Int),(0:Int)⟩:Z3b)⟩:Ng),split,s2⟩:aj)
def ic (s:aj):LS ((LI)×Int) (LI):=λs7=>bif decide (s7.2<(s.waits.length:Int)) then gd (decide<|0<=s7.2/\s7.2<(s.waits.length:Int)) <|gd (Nb .u8 ((s.waits.getD s7.2.toNat default).length:Int)) <|gd (dH (s7.1.length+1) 1) <|gd (dH ((s7.1++[((s.waits.getD s7.2.toNat default).length:Int)]).length+(s.waits.getD s7.2.toNat default).length) 1) <|gd (Nb .i64<|s7.2+(1:Int)) <|some (.inl (((s7.1++[((s.waits.getD s7.2.toNat default).length:Int)])++(s.waits.getD s7.2.toNat default)),(s7.2+(1:Int)))) else some (.inr s7.1)
def cF (s:aj):Option ByteArray:= Qs (bW s.values) λv1=>gd (decide<|v1.size<=35184372088832) <|Qs (bA (ic s) ((kX v1),(0:Int))) λs3=>some<|strOfNums s3
def kJ (waits:LI):Option Bool:= some<|decide<|(0:Int)<(waits.length:Int)
def bK (s:LL):LS Int (Unit ⊕ Int):=λs4=>bif decide (s4<(s.length:Int)) then gd (decide<|0<=s4/\s4<(s.length:Int)) <|Qs (kJ<|s.getD s4.toNat default) λv8=>bif v8 then some (.inr<|.inr s4) else gd (Nb .i64<|s4+(1:Int)) <|some (.inl<|s4+(1:Int)) else some (.inr<|.inl ())
def bh (s:LL):Option Int:= sumK (bA (bK s) (0:Int)) λs1=>some (-1:Int)
def aY (s:LL):Option Bool:= Qs (bh s) λv1=>some<|decide<|(0:Int)<=v1
def da (s:aj):Option Bool:= Qs (bC s.values) λv1=>Qs (bif v1 then Qs (aY s.waits) λv4=>some (!v4) else some false) λs2=>some s2
def dm (s:aj) (t:Int) (loc:Int):Option Int:= bif s.split then gd (Nb .i64<|(3:Int)*t) <|gd (Nb .i64<|((3:Int)*t)+loc) <|some (((3:Int)*t)+loc) else some t
def iQ (s:aj) (t:Int):LS Int (Unit ⊕ Bool):=λs4=>bif decide (s4<(3:Int)) then Qs (dm s t s4) λv7=>gd (decide<|0<=v7/\v7<(s.waits.length:Int)) <|bif decide ((0:Int)<((s.waits.getD v7.toNat default).length:Int)) then some (.inr<|.inr false) else gd (Nb .i64<|s4+(1:Int)) <|some (.inl<|s4+(1:Int)) else some (.inr<|.inl ())
def dX (s:aj) (t:Int):Option Bool:= sumK (bA (iQ s t) (0:Int)) λs1=>some true
def fO (s:aj):LS ((LI)×Int) (LI):=λs7=>bif decide (s7.2<(s.values.p.length:Int)) then Qs (Qs (bu s.values s7.2) λv14=>Qs (bif v14.2 then Qs (bif (v14.1.Op != (4:Int)) then some (v14.1.Op != (5:Int)) else some false) λs17=>Qs (bif s17 then some true else Qs (dX s s7.2) λv21=>some v21) λs19=>some s19 else some false) λs15=>bif s15 then gd (dH (s7.1.length+1) 8) <|some (s7.1++[s7.2]) else some s7.1) λs13=>gd (Nb .i64<|s7.2+(1:Int)) <|some (.inl (s13,(s7.2+(1:Int)))) else some (.inr s7.1)
def fo (s:aj):LS ((LI)×Int) (LI):=λs37=>bif decide (s37.2<(s.waits.length:Int)) then Qs (gd (decide<|0<=s37.2/\s37.2<(s.waits.length:Int)) <|bif decide ((0:Int)<((s.waits.getD s37.2.toNat default).length:Int)) then gd (Nb .i64<|(s.values.p.length:Int)+s37.2) <|gd (dH (s37.1.length+1) 8) <|some (s37.1++[((s.values.p.length:Int)+s37.2)]) else some s37.1) λs43=>gd (Nb .i64<|s37.2+(1:Int)) <|some (.inl (s43,(s37.2+(1:Int)))) else some (.inr s37.1)
def cH (s:aj):Option (LI):= Qs (bA (fO s) (([]:LI),(0:Int))) λs1=>Qs (bA (fo s) (s1,(0:Int))) λs31=>some s31
def eQ (s:LL):Option (LL):= nilK (s.isEmpty) (some ([]:LL)) (gd (dH (([]:LL).length+s.length) 24) <|some<|([]:LL)++s)
def fq (s:LI):Option (LI):= nilK (s.isEmpty) (some ([]:LI)) (gd (dH (([]:LI).length+s.length) 1) <|some<|([]:LI)++s)
def cJ (s:aj) (move:Int):Option aj:= Qs (eQ s.waits) λv1=>bif decide ((s.values.p.length:Int)<=move) then gd (Nb .i64<|move-(s.values.p.length:Int)) <|gd (decide<|0<=(move-(s.values.p.length:Int))/\(move-(s.values.p.length:Int))<(s.waits.length:Int)) <|gd (decide<|0<=(0:Int)/\(0:Int)<((s.waits.getD (move-(s.values.p.length:Int)).toNat default).length:Int)) <|gd (decide<|0<=(1:Int)/\(1:Int)<=((s.waits.getD (move-(s.values.p.length:Int)).toNat default).length:Int)/\((s.waits.getD (move-(s.values.p.length:Int)).toNat default).length:Int)<=((s.waits.getD (move-(s.values.p.length:Int)).toNat default).length:Int)) <|gd (decide<|0<=(move-(s.values.p.length:Int))/\(move-(s.values.p.length:Int))<(v1.length:Int)) <|gd (decide<|(16:Int)≠0) <|gd (Nb .u8<|((s.waits.getD (move-(s.values.p.length:Int)).toNat default).getD (0:Int).toNat default).tdiv (16:Int)) <|gd (decide<|0<=(((s.waits.getD (move-(s.values.p.length:Int)).toNat default).getD (0:Int).toNat default).tdiv (16:Int))/\(((s.waits.getD (move-(s.values.p.length:Int)).toNat default).getD (0:Int).toNat default).tdiv (16:Int))<3) <|some (⟨(⟨s.values.p,(⟨s.values.pc.x0,s.values.pc.x1,s.values.pc.x2⟩:Z3b),(⟨(⟨s.values.reg.x0.x0,s.values.reg.x0.x1,s.values.reg.x0.x2⟩:Z3b),(⟨s.values.reg.x1.x0,s.values.reg.x1.x1,s.values.reg.x1.x2⟩:Z3b),(⟨s.values.reg.x2.x0,s.values.reg.x2.x1,s.values.reg.x2.x2⟩:Z3b)⟩:Z33),(⟨(Z3b.set s.values.mem (((s.waits.getD (move-(s.values.p.length:Int)).toNat default).getD (0:Int).toNat default).tdiv (16:Int))<|((s.waits.getD (move-(s.values.p.length:Int)).toNat default).getD (0:Int).toNat default).tmod (16:Int)).x0,(Z3b.set s.values.mem (((s.waits.getD (move-(s.values.p.length:Int)).toNat default).getD (0:Int).toNat default).tdiv (16:Int))<|((s.waits.getD (move-(s.values.p.length:Int)).toNat default).getD (0:Int).toNat default).tmod (16:Int)).x1,(Z3b.set s.values.mem (((s.waits.getD (move-(s.values.p.length:Int)).toNat default).getD (0:Int).toNat default).tdiv (16:Int))<|((s.waits.getD (move-(s.values.p.length:Int)).toNat default).getD (0:Int).toNat default).tmod (16:Int)).x2⟩:Z3b)⟩:Ng),s.split,(v1.set ((move-(s.values.p.length:Int)).toNat)<|((s.waits.getD (move-(s.values.p.length:Int)).toNat default).drop (1:Int).toNat).take<|((s.waits.getD (move-(s.values.p.length:Int)).toNat default).length:Int).toNat-(1:Int).toNat)⟩:aj) else Qs (bu s.values move) λv14=>gd (decide<|0<=move/\move<3) <|gd (Nb .u8<|(Z3b.get s.values.pc move)+(1:Int)) <|Qs (Qs (dz (⟨v14.1.Op,v14.1.Loc,v14.1.Reg,v14.1.Val⟩:Nf)) λv18=>bif v18 then Qs (dQ s move v14.1.Loc) λv20=>gd (decide<|0<=v14.1.Reg/\v14.1.Reg<3) <|some (((Z33.set s.values.reg move<|Z3b.set (Z33.get s.values.reg move) v14.1.Reg v20).x0).x0,((Z33.set s.values.reg move<|Z3b.set (Z33.get s.values.reg move) v14.1.Reg v20).x0).x1,((Z33.set s.values.reg move<|Z3b.set (Z33.get s.values.reg move) v14.1.Reg v20).x0).x2,((Z33.set s.values.reg move<|Z3b.set (Z33.get s.values.reg move) v14.1.Reg v20).x1).x0,((Z33.set s.values.reg move<|Z3b.set (Z33.get s.values.reg move) v14.1.Reg v20).x1).x1,((Z33.set s.values.reg move<|Z3b.set (Z33.get s.values.reg move) v14.1.Reg v20).x1).x2,((Z33.set s.values.reg move<|Z3b.set (Z33.get s.values.reg move) v14.1.Reg v20).x2).x0,((Z33.set s.values.reg move<|Z3b.set (Z33.get s.values.reg move) v14.1.Reg v20).x2).x1,((Z33.set s.values.reg move<|Z3b.set (Z33.get s.values.reg move) v14.1.Reg v20).x2).x2,v1) else some (s.values.reg.x0.x0,s.values.reg.x0.x1,s.values.reg.x0.x2,s.values.reg.x1.x0,s.values.reg.x1.x1,s.values.reg.x1.x2,s.values.reg.x2.x0,s.values.reg.x2.x1,s.values.reg.x2.x2,v1)) λs17=>Qs (Qs (bif (v14.1.Op==(2:Int)) then some (v14.1.Op==(2:Int)) else some (v14.1.Op==(3:Int))) λs26=>bif s26 then Qs (dm s move v14.1.Loc) λv29=>gd (decide<|0<=v29/\v29<(s.waits.length:Int)) <|gd (Nb .u8 v14.1.Loc) <|gd (Nb .u8<|v14.1.Loc*(16:Int)) <|Qs (fq<|s.waits.getD v29.toNat default) λv33=>Qs (bI s.values move (⟨v14.1.Op,v14.1.Loc,v14.1.Reg,v14.1.Val⟩:Nf)) λv37=>gd (Nb .u8<|(v14.1.Loc*(16:Int))+v37) <|gd (dH (v33.length+1) 1) <|gd (decide<|0<=v29/\v29<(s17.2.2.2.2.2.2.2.2.2.length:Int)) <|some (s.values.mem.x0,s.values.mem.x1,s.values.mem.x2,(s17.2.2.2.2.2.2.2.2.2.set v29.toNat<|v33++[((v14.1.Loc*(16:Int))+v37)])) else bif (v14.1.Op==(5:Int)) then gd (Nb .u8 v14.1.Val) <|gd (decide<|0<=v14.1.Loc/\v14.1.Loc<3) <|some ((Z3b.set s.values.mem v14.1.Loc v14.1.Val).x0,(Z3b.set s.values.mem v14.1.Loc v14.1.Val).x1,(Z3b.set s.values.mem v14.1.Loc v14.1.Val).x2,s17.2.2.2.2.2.2.2.2.2) else some (s.values.mem.x0,s.values.mem.x1,s.values.mem.x2,s17.2.2.2.2.2.2.2.2.2)) λs25=>some (⟨(⟨s.values.p,(⟨(Z3b.set s.values.pc move<|(Z3b.get s.values.pc move)+(1:Int)).x0,(Z3b.set s.values.pc move<|(Z3b.get s.values.pc move)+(1:Int)).x1,(Z3b.set s.values.pc move<|(Z3b.get s.values.pc move)+(1:Int)).x2⟩:Z3b),(⟨(⟨s17.1,s17.2.1,s17.2.2.1⟩:Z3b),(⟨s17.2.2.2.1,s17.2.2.2.2.1,s17.2.2.2.2.2.1⟩:Z3b),(⟨s17.2.2.2.2.2.2.1,s17.2.2.2.2.2.2.2.1,s17.2.2.2.2.2.2.2.2.1⟩:Z3b)⟩:Z33),(⟨s25.1,s25.2.1,s25.2.2.1⟩:Z3b)⟩:Ng),s.split,s25.2.2.2⟩:aj)
def fH (s9:(List<|ByteArray×Bool)×(LL)×(List aj)) (s19:(LL)) (v27:(LI)):LS ((List<|ByteArray×Bool)×(List aj)×Int) (((List<|ByteArray×Bool)×(LL)×(List aj)) ⊕ ((List<|ByteArray×Bool)×(LL))):=λs31=>bif decide (s31.2.2<(v27.length:Int)) then Qs (gd (decide<|0<=s31.2.2/\s31.2.2<(v27.length:Int)) <|Qs (cJ (s9.2.2.getD (((s9.2.2.length:Int)-(1:Int)).toNat) default)<|v27.getD s31.2.2.toNat default) λv37=>Qs (cF v37) λv38=>bif !((zC s31.1 v38).getD false) then gd (dH (s31.2.1.length+1) 16) <|some ((uz s31.1 v38 true),(s31.2.1++[v37])) else some (s31.1,s31.2.1)) λs35=>gd (Nb .i64<|s31.2.2+(1:Int)) <|some (.inl (s35.1,s35.2,(s31.2.2+(1:Int)))) else some (.inr<|.inl (s31.1,s19,s31.2.1))
def fI:LS ((List<|ByteArray×Bool)×(LL)×(List aj)) ((List<|ByteArray×Bool)×(LL)):=λs9=>bif decide ((0:Int)<(s9.2.2.length:Int)) then gd (Nb .i64<|(s9.2.2.length:Int)-(1:Int)) <|gd (decide<|0<=((s9.2.2.length:Int)-(1:Int))/\((s9.2.2.length:Int)-(1:Int))<(s9.2.2.length:Int)) <|gd (decide<|0<=(0:Int)/\(0:Int)<=((s9.2.2.length:Int)-(1:Int))/\((s9.2.2.length:Int)-(1:Int))<=(s9.2.2.length:Int)) <|Qs (Qs (da<|s9.2.2.getD (((s9.2.2.length:Int)-(1:Int)).toNat) default) λv20=>bif v20 then Qs (aQ<|(s9.2.2.getD (((s9.2.2.length:Int)-(1:Int)).toNat) default).values) λv22=>gd (dH (s9.2.1.length+1) 24) <|some (s9.2.1++[v22]) else some s9.2.1) λs19=>Qs (cH<|s9.2.2.getD (((s9.2.2.length:Int)-(1:Int)).toNat) default) λv27=>bA (fH s9 s19 v27) (s9.1,((s9.2.2.drop (0:Int).toNat).take<|((s9.2.2.length:Int)-(1:Int)).toNat-(0:Int).toNat),(0:Int)) else some (.inr (s9.1,s9.2.1))
def ek (start:aj):Option ((LL)×Int):= Qs (cF start) λv1=>Qs (bA fI ((uz ([]:List<|ByteArray×Bool) v1 true),([]:LL),([start]:List aj))) λs2=>Qs (aR s2.2) λv46=>some (v46,(s2.1.length:Int))
def fu (p:List<|List Nf) (split:Bool):Option ((LL)×Int):= Qs (aA p) λv1=>bif !v1 then some (([]:LL),(0:Int)) else Qs (iy p split) λv3=>Qs (ek v3) λv4=>some (v4.1,v4.2)
def nI (p:List<|List Nf):Option (LL):= Qs (fu p false) λv1=>some v1.1
def nJ (p:List<|List Nf):Option (LL):= Qs (fu p true) λv1=>some v1.1
def mo:LS ((List ai)×(List ai)×(List ai)×Int) ((List ai)×(List ai)×(List ai)):=λs5=>bif decide (s5.2.2.2<(3:Int)) then gd (decide<|0<=s5.2.2.2/\s5.2.2.2<3) <|gd (Nb .i64<|s5.2.2.2+(1:Int)) <|some (.inl ((ae.set (⟨s5.1,s5.2.1,s5.2.2.1⟩:ae) s5.2.2.2 ([(⟨(0:Int),false,(⟨(0:Int),(0:Int),(0:Int)⟩:ah)⟩:ai)]:List ai)).x0,(ae.set (⟨s5.1,s5.2.1,s5.2.2.1⟩:ae) s5.2.2.2 ([(⟨(0:Int),false,(⟨(0:Int),(0:Int),(0:Int)⟩:ah)⟩:ai)]:List ai)).x1,(ae.set (⟨s5.1,s5.2.1,s5.2.2.1⟩:ae) s5.2.2.2 ([(⟨(0:Int),false,(⟨(0:Int),(0:Int),(0:Int)⟩:ah)⟩:ai)]:List ai)).x2,(s5.2.2.2+(1:Int)))) else some (.inr (s5.1,s5.2.1,s5.2.2.1))
def ji (p:List<|List Nf):Option au:= Qs (bA mo ([],[],[],(0:Int))) λs1=>some (⟨(⟨p,(⟨(0:Int),(0:Int),(0:Int)⟩:Z3b),(⟨(⟨(0:Int),(0:Int),(0:Int)⟩:Z3b),(⟨(0:Int),(0:Int),(0:Int)⟩:Z3b),(⟨(0:Int),(0:Int),(0:Int)⟩:Z3b)⟩:Z33),(⟨(0:Int),(0:Int),(0:Int)⟩:Z3b)⟩:Ng),(⟨s1.1,s1.2.1,s1.2.2⟩:ae),(⟨(⟨(0:Int),(0:Int),(0:Int)⟩:ah),(⟨(0:Int),(0:Int),(0:Int)⟩:ah),(⟨(0:Int),(0:Int),(0:Int)⟩:ah)⟩:aa)⟩:au)
def iH (s:au) (s7:(LI)×Int):LS ((LI)×Int) (LI):=λs18=>bif decide (s18.2<((ae.get s.lists s7.2).length:Int)) then gd (decide<|0<=s18.2/\s18.2<((ae.get s.lists s7.2).length:Int)) <|Qs (bif ((ae.get s.lists s7.2).getD s18.2.toNat default).taken then some (1:Int) else some (0:Int)) λs23=>gd (dH (s18.1.length+([(⟨((ae.get s.lists s7.2).getD s18.2.toNat default).value,((ae.get s.lists s7.2).getD s18.2.toNat default).taken,(⟨(((ae.get s.lists s7.2).getD s18.2.toNat default).view).x0,(((ae.get s.lists s7.2).getD s18.2.toNat default).view).x1,(((ae.get s.lists s7.2).getD s18.2.toNat default).view).x2⟩:ah)⟩:ai).value,s23]:LI).length) 1) <|gd (dH ((s18.1++([(⟨((ae.get s.lists s7.2).getD s18.2.toNat default).value,((ae.get s.lists s7.2).getD s18.2.toNat default).taken,(⟨(((ae.get s.lists s7.2).getD s18.2.toNat default).view).x0,(((ae.get s.lists s7.2).getD s18.2.toNat default).view).x1,(((ae.get s.lists s7.2).getD s18.2.toNat default).view).x2⟩:ah)⟩:ai).value,s23]:LI)).length+([((⟨((ae.get s.lists s7.2).getD s18.2.toNat default).value,((ae.get s.lists s7.2).getD s18.2.toNat default).taken,(⟨(((ae.get s.lists s7.2).getD s18.2.toNat default).view).x0,(((ae.get s.lists s7.2).getD s18.2.toNat default).view).x1,(((ae.get s.lists s7.2).getD s18.2.toNat default).view).x2⟩:ah)⟩:ai).view).x0,((⟨((ae.get s.lists s7.2).getD s18.2.toNat default).value,((ae.get s.lists s7.2).getD s18.2.toNat default).taken,(⟨(((ae.get s.lists s7.2).getD s18.2.toNat default).view).x0,(((ae.get s.lists s7.2).getD s18.2.toNat default).view).x1,(((ae.get s.lists s7.2).getD s18.2.toNat default).view).x2⟩:ah)⟩:ai).view).x1,((⟨((ae.get s.lists s7.2).getD s18.2.toNat default).value,((ae.get s.lists s7.2).getD s18.2.toNat default).taken,(⟨(((ae.get s.lists s7.2).getD s18.2.toNat default).view).x0,(((ae.get s.lists s7.2).getD s18.2.toNat default).view).x1,(((ae.get s.lists s7.2).getD s18.2.toNat default).view).x2⟩:ah)⟩:ai).view).x2]:LI).length) 1) <|gd (Nb .i64<|s18.2+(1:Int)) <|some (.inl (((s18.1++([(⟨((ae.get s.lists s7.2).getD s18.2.toNat default).value,((ae.get s.lists s7.2).getD s18.2.toNat default).taken,(⟨(((ae.get s.lists s7.2).getD s18.2.toNat default).view).x0,(((ae.get s.lists s7.2).getD s18.2.toNat default).view).x1,(((ae.get s.lists s7.2).getD s18.2.toNat default).view).x2⟩:ah)⟩:ai).value,s23]:LI))++([((⟨((ae.get s.lists s7.2).getD s18.2.toNat default).value,((ae.get s.lists s7.2).getD s18.2.toNat default).taken,(⟨(((ae.get s.lists s7.2).getD s18.2.toNat default).view).x0,(((ae.get s.lists s7.2).getD s18.2.toNat default).view).x1,(((ae.get s.lists s7.2).getD s18.2.toNat default).view).x2⟩:ah)⟩:ai).view).x0,((⟨((ae.get s.lists s7.2).getD s18.2.toNat default).value,((ae.get s.lists s7.2).getD s18.2.toNat default).taken,(⟨(((ae.get s.lists s7.2).getD s18.2.toNat default).view).x0,(((ae.get s.lists s7.2).getD s18.2.toNat default).view).x1,(((ae.get s.lists s7.2).getD s18.2.toNat default).view).x2⟩:ah)⟩:ai).view).x1,((⟨((ae.get s.lists s7.2).getD s18.2.toNat default).value,((ae.get s.lists s7.2).getD s18.2.toNat default).taken,(⟨(((ae.get s.lists s7.2).getD s18.2.toNat default).view).x0,(((ae.get s.lists s7.2).getD s18.2.toNat default).view).x1,(((ae.get s.lists s7.2).getD s18.2.toNat default).view).x2⟩:ah)⟩:ai).view).x2]:LI)),(s18.2+(1:Int)))) else some (.inr s18.1)
def i9 (s:au):LS ((LI)×Int) (LI):=λs7=>bif decide (s7.2<(3:Int)) then Qs (gd (decide<|0<=s7.2/\s7.2<3) <|gd (Nb .u8 ((ae.get s.lists s7.2).length:Int)) <|gd (dH (s7.1.length+1) 1) <|bA (iH s s7) ((s7.1++[((ae.get s.lists s7.2).length:Int)]),(0:Int))) λs11=>gd (Nb .i64<|s7.2+(1:Int)) <|some (.inl (s11,(s7.2+(1:Int)))) else some (.inr s7.1)
def iI (s:au):LS ((LI)×Int) (LI):=λs35=>bif decide (s35.2<(3:Int)) then gd (decide<|0<=s35.2/\s35.2<3) <|gd (dH (s35.1.length+([(⟨(aa.get s.own s35.2).x0,(aa.get s.own s35.2).x1,(aa.get s.own s35.2).x2⟩:ah).x0,(⟨(aa.get s.own s35.2).x0,(aa.get s.own s35.2).x1,(aa.get s.own s35.2).x2⟩:ah).x1,(⟨(aa.get s.own s35.2).x0,(aa.get s.own s35.2).x1,(aa.get s.own s35.2).x2⟩:ah).x2]:LI).length) 1) <|gd (Nb .i64<|s35.2+(1:Int)) <|some (.inl ((s35.1++([(⟨(aa.get s.own s35.2).x0,(aa.get s.own s35.2).x1,(aa.get s.own s35.2).x2⟩:ah).x0,(⟨(aa.get s.own s35.2).x0,(aa.get s.own s35.2).x1,(aa.get s.own s35.2).x2⟩:ah).x1,(⟨(aa.get s.own s35.2).x0,(aa.get s.own s35.2).x1,(aa.get s.own s35.2).x2⟩:ah).x2]:LI)),(s35.2+(1:Int)))) else some (.inr s35.1)
def cO (s:au):Option ByteArray:= Qs (bW s.values) λv1=>gd (decide<|v1.size<=35184372088832) <|Qs (bA (i9 s) ((kX v1),(0:Int))) λs3=>Qs (bA (iI s) (s3,(0:Int))) λs31=>some<|strOfNums s31
def db (s:au):Option Bool:= Qs (bC s.values) λv1=>some v1
def gT (v:Ng) (s7:(LI)×Int):LS ((LI)×Int) (LI):=λs20=>bif decide (s20.2<(3:Int)) then gd (decide<|0<=s20.2/\s20.2<3) <|gd (Nb .i64<|Z3b.get (Z33.get v.reg s7.2) s20.2) <|gd (dH (s20.1.length+1) 8) <|gd (Nb .i64<|s20.2+(1:Int)) <|some (.inl ((s20.1++[(Z3b.get (Z33.get v.reg s7.2) s20.2)]),(s20.2+(1:Int)))) else some (.inr s20.1)
def dR (v:Ng):LS ((LI)×Int) (LI):=λs7=>bif decide (s7.2<(v.p.length:Int)) then Qs (gd (decide<|0<=s7.2/\s7.2<3) <|bA (gT v s7) (s7.1,(0:Int))) λs13=>gd (Nb .i64<|s7.2+(1:Int)) <|some (.inl (s13,(s7.2+(1:Int)))) else some (.inr s7.1)
def dJ (v:Ng):LS ((LI)×Int) (LI):=λs43=>bif decide (s43.2<(3:Int)) then gd (decide<|0<=s43.2/\s43.2<3) <|gd (Nb .i64<|Z3b.get v.mem s43.2) <|gd (dH (s43.1.length+1) 8) <|gd (Nb .i64<|s43.2+(1:Int)) <|some (.inl ((s43.1++[(Z3b.get v.mem s43.2)]),(s43.2+(1:Int)))) else some (.inr s43.1)
def dA (v:Ng):Option (Ng×(LI)):= Qs (bA (dR v) (([]:LI),(0:Int))) λs1=>Qs (bA (dJ v) (s1,(0:Int))) λs37=>some ((⟨v.p,(⟨v.pc.x0,v.pc.x1,v.pc.x2⟩:Z3b),(⟨(⟨v.reg.x0.x0,v.reg.x0.x1,v.reg.x0.x2⟩:Z3b),(⟨v.reg.x1.x0,v.reg.x1.x1,v.reg.x1.x2⟩:Z3b),(⟨v.reg.x2.x0,v.reg.x2.x1,v.reg.x2.x2⟩:Z3b)⟩:Z33),(⟨v.mem.x0,v.mem.x1,v.mem.x2⟩:Z3b)⟩:Ng),s37)
def jk (s:au):LS (Int×Int×Int×Int) (Int×Int×Int):=λs5=>bif decide (s5.2.2.2<(3:Int)) then gd (decide<|0<=s5.2.2.2/\s5.2.2.2<3) <|gd (Nb .i64<|((ae.get s.lists s5.2.2.2).length:Int)-(1:Int)) <|gd (decide<|0<=(((ae.get s.lists s5.2.2.2).length:Int)-(1:Int))/\(((ae.get s.lists s5.2.2.2).length:Int)-(1:Int))<((ae.get s.lists s5.2.2.2).length:Int)) <|gd (Nb .i64<|s5.2.2.2+(1:Int)) <|some (.inl ((Z3b.set (⟨s5.1,s5.2.1,s5.2.2.1⟩:Z3b) s5.2.2.2<|((ae.get s.lists s5.2.2.2).getD (((ae.get s.lists s5.2.2.2).length:Int)-(1:Int)).toNat default).value).x0,(Z3b.set (⟨s5.1,s5.2.1,s5.2.2.1⟩:Z3b) s5.2.2.2<|((ae.get s.lists s5.2.2.2).getD (((ae.get s.lists s5.2.2.2).length:Int)-(1:Int)).toNat default).value).x1,(Z3b.set (⟨s5.1,s5.2.1,s5.2.2.1⟩:Z3b) s5.2.2.2<|((ae.get s.lists s5.2.2.2).getD (((ae.get s.lists s5.2.2.2).length:Int)-(1:Int)).toNat default).value).x2,(s5.2.2.2+(1:Int)))) else some (.inr (s5.1,s5.2.1,s5.2.2.1))
def bU (s:au):Option (LI):= Qs (bA (jk s) (s.values.mem.x0,s.values.mem.x1,s.values.mem.x2,(0:Int))) λs1=>Qs (dA (⟨s.values.p,(⟨s.values.pc.x0,s.values.pc.x1,s.values.pc.x2⟩:Z3b),(⟨(⟨s.values.reg.x0.x0,s.values.reg.x0.x1,s.values.reg.x0.x2⟩:Z3b),(⟨s.values.reg.x1.x0,s.values.reg.x1.x1,s.values.reg.x1.x2⟩:Z3b),(⟨s.values.reg.x2.x0,s.values.reg.x2.x1,s.values.reg.x2.x2⟩:Z3b)⟩:Z33),(⟨s1.1,s1.2.1,s1.2.2⟩:Z3b)⟩:Ng)) λv12=>some v12.2
def fP (s:au) (t:Int) (v1:Nf×Bool):LS ((LI)×Int) (LI):=λs13=>bif decide (s13.2<=((ae.get s.lists v1.1.Loc).length:Int)) then Qs (Qs (bif (v1.1.Op==(1:Int)) then some (decide<|s13.2<((ae.get s.lists v1.1.Loc).length:Int)) else bif (v1.1.Op==(5:Int)) then Qs (bif decide (s13.2<((ae.get s.lists v1.1.Loc).length:Int)) then gd (decide<|0<=s13.2/\s13.2<((ae.get s.lists v1.1.Loc).length:Int)) <|some (!(((ae.get s.lists v1.1.Loc).getD s13.2.toNat default).taken)) else some false) λs23=>some s23 else Qs (bif decide ((ah.get (aa.get s.own t) v1.1.Loc)<s13.2) then gd (Nb .i64<|s13.2-(1:Int)) <|gd (decide<|0<=(s13.2-(1:Int))/\(s13.2-(1:Int))<((ae.get s.lists v1.1.Loc).length:Int)) <|some (!(((ae.get s.lists v1.1.Loc).getD (s13.2-(1:Int)).toNat default).taken)) else some false) λs26=>some s26) λs20=>bif s20 then gd (dH (s13.1.length+1) 8) <|some (s13.1++[s13.2]) else some s13.1) λs19=>gd (Nb .i64<|s13.2+(1:Int)) <|some (.inl (s19,(s13.2+(1:Int)))) else some (.inr s13.1)
def fQ (s:au) (t:Int):Option (LI):= Qs (bu s.values t) λv1=>bif !v1.2 then some ([]:LI) else bif (v1.1.Op==(4:Int)) then some ([(0:Int)]:LI) else gd (decide<|0<=v1.1.Loc/\v1.1.Loc<3) <|gd (decide<|0<=t/\t<3) <|gd (Nb .i64<|ah.get (aa.get s.own t) v1.1.Loc) <|Qs (bA (fP s t v1) (([]:LI),(ah.get (aa.get s.own t) v1.1.Loc))) λs7=>some s7
def gH (s7:(LI)×Int) (v14:(LI)):LS ((LI)×Int) (LI):=λs20=>bif decide (s20.2<(v14.length:Int)) then gd (decide<|0<=s20.2/\s20.2<(v14.length:Int)) <|gd (Nb .i64<|(3:Int)*(v14.getD s20.2.toNat default)) <|gd (Nb .i64<|((3:Int)*(v14.getD s20.2.toNat default))+s7.2) <|gd (dH (s20.1.length+1) 8) <|gd (Nb .i64<|s20.2+(1:Int)) <|some (.inl ((s20.1++[(((3:Int)*(v14.getD s20.2.toNat default))+s7.2)]),(s20.2+(1:Int)))) else some (.inr s20.1)
def ig (s:au):LS ((LI)×Int) (LI):=λs7=>bif decide (s7.2<(s.values.p.length:Int)) then Qs (Qs (fQ s s7.2) λv14=>bA (gH s7 v14) (s7.1,(0:Int))) λs13=>gd (Nb .i64<|s7.2+(1:Int)) <|some (.inl (s13,(s7.2+(1:Int)))) else some (.inr s7.1)
def bX (s:au):Option (LI):= Qs (bA (ig s) (([]:LI),(0:Int))) λs1=>Qs (ll s1) λv38=>some v38
def aX (s:List ai):Option (List ai):= nilK (s.isEmpty) (some ([]:List ai)) (gd (dH (([]:List ai).length+s.length) 5) <|some<|([]:List ai)++s)
def kK (o_:ah):LS (Int×Int×Int×Int) (Int×Int×Int):=λs5=>bif decide (s5.2.2.2<(3:Int)) then gd (decide<|0<=s5.2.2.2/\s5.2.2.2<3) <|gd (Nb .i64<|s5.2.2.2+(1:Int)) <|some (.inl ((ah.set (⟨s5.1,s5.2.1,s5.2.2.1⟩:ah) s5.2.2.2<|if (ah.get o_ s5.2.2.2)>(ah.get (⟨s5.1,s5.2.1,s5.2.2.1⟩:ah) s5.2.2.2) then (ah.get o_ s5.2.2.2) else (ah.get (⟨s5.1,s5.2.1,s5.2.2.1⟩:ah) s5.2.2.2)).x0,(ah.set (⟨s5.1,s5.2.1,s5.2.2.1⟩:ah) s5.2.2.2<|if (ah.get o_ s5.2.2.2)>(ah.get (⟨s5.1,s5.2.1,s5.2.2.1⟩:ah) s5.2.2.2) then (ah.get o_ s5.2.2.2) else (ah.get (⟨s5.1,s5.2.1,s5.2.2.1⟩:ah) s5.2.2.2)).x1,(ah.set (⟨s5.1,s5.2.1,s5.2.2.1⟩:ah) s5.2.2.2<|if (ah.get o_ s5.2.2.2)>(ah.get (⟨s5.1,s5.2.1,s5.2.2.1⟩:ah) s5.2.2.2) then (ah.get o_ s5.2.2.2) else (ah.get (⟨s5.1,s5.2.1,s5.2.2.1⟩:ah) s5.2.2.2)).x2,(s5.2.2.2+(1:Int)))) else some (.inr (s5.1,s5.2.1,s5.2.2.1))
def gV (v:ah) (o_:ah):Option ah:= Qs (bA (kK o_) (v.x0,v.x1,v.x2,(0:Int))) λs1=>some (⟨s1.1,s1.2.1,s1.2.2⟩:ah)
def aO (v:ah) (loc:Int) (place:Int):Option ah:= Qs (gd (decide<|0<=loc/\loc<3) <|bif decide (place<=(ah.get v loc)) then gd (Nb .u8<|(ah.get v loc)+(1:Int)) <|some ((ah.set v loc<|(ah.get v loc)+(1:Int)).x0,(ah.set v loc<|(ah.get v loc)+(1:Int)).x1,(ah.set v loc<|(ah.get v loc)+(1:Int)).x2) else some (v.x0,v.x1,v.x2)) λs1=>some (⟨s1.1,s1.2.1,s1.2.2⟩:ah)
def gI (move:Int) (v21:Nf×Bool) (s24:Int×Int×Int×Int×Int×Int×Int×Int×Int×Int×Int×Int×Int×Int×Int×Int×Int×Int×(List ai)×(List ai)×(List ai)):LS ((List ai)×Int) (List ai):=λs52=>bif decide (s52.2<(s24.2.2.2.2.2.2.2.2.2.2.2.2.2.2.2.2.2.2.1.length:Int)) then gd (decide<|0<=s52.2/\s52.2<(s52.1.length:Int)) <|Qs (aO ((s52.1.getD s52.2.toNat default).view) v21.1.Loc<|move.tdiv (3:Int)) λv59=>gd (Nb .i64<|s52.2+(1:Int)) <|some (.inl ((s52.1.set s52.2.toNat<|{ (s52.1.getD s52.2.toNat default) with view:=v59 }),(s52.2+(1:Int)))) else some (.inr s52.1)
def gJ (move:Int) (v21:Nf×Bool) (s24:Int×Int×Int×Int×Int×Int×Int×Int×Int×Int×Int×Int×Int×Int×Int×Int×Int×Int×(List ai)×(List ai)×(List ai)):LS ((List ai)×Int) (List ai):=λs70=>bif decide (s70.2<(s24.2.2.2.2.2.2.2.2.2.2.2.2.2.2.2.2.2.2.2.1.length:Int)) then gd (decide<|0<=s70.2/\s70.2<(s70.1.length:Int)) <|Qs (aO ((s70.1.getD s70.2.toNat default).view) v21.1.Loc<|move.tdiv (3:Int)) λv77=>gd (Nb .i64<|s70.2+(1:Int)) <|some (.inl ((s70.1.set s70.2.toNat<|{ (s70.1.getD s70.2.toNat default) with view:=v77 }),(s70.2+(1:Int)))) else some (.inr s70.1)
def gK (move:Int) (v21:Nf×Bool) (s24:Int×Int×Int×Int×Int×Int×Int×Int×Int×Int×Int×Int×Int×Int×Int×Int×Int×Int×(List ai)×(List ai)×(List ai)):LS ((List ai)×Int) (List ai):=λs88=>bif decide (s88.2<(s24.2.2.2.2.2.2.2.2.2.2.2.2.2.2.2.2.2.2.2.2.length:Int)) then gd (decide<|0<=s88.2/\s88.2<(s88.1.length:Int)) <|Qs (aO ((s88.1.getD s88.2.toNat default).view) v21.1.Loc<|move.tdiv (3:Int)) λv95=>gd (Nb .i64<|s88.2+(1:Int)) <|some (.inl ((s88.1.set s88.2.toNat<|{ (s88.1.getD s88.2.toNat default) with view:=v95 }),(s88.2+(1:Int)))) else some (.inr s88.1)
def fS (move:Int) (v21:Nf×Bool) (s24:Int×Int×Int×Int×Int×Int×Int×Int×Int×Int×Int×Int×Int×Int×Int×Int×Int×Int×(List ai)×(List ai)×(List ai)):LS ((List ai)×Int) (List ai):=λni=>bif decide (ni.2<(s24.2.2.2.2.2.2.2.2.2.2.2.2.2.2.2.2.2.2.1.length:Int)) then gd (decide<|0<=ni.2/\ni.2<(ni.1.length:Int)) <|Qs (aO ((ni.1.getD ni.2.toNat default).view) v21.1.Loc<|(move.tdiv (3:Int))+(1:Int)) λv136=>gd (Nb .i64<|ni.2+(1:Int)) <|some (.inl ((ni.1.set ni.2.toNat<|{ (ni.1.getD ni.2.toNat default) with view:=v136 }),(ni.2+(1:Int)))) else some (.inr ni.1)
def fT (move:Int) (v21:Nf×Bool) (s24:Int×Int×Int×Int×Int×Int×Int×Int×Int×Int×Int×Int×Int×Int×Int×Int×Int×Int×(List ai)×(List ai)×(List ai)):LS ((List ai)×Int) (List ai):=λnu=>bif decide (nu.2<(s24.2.2.2.2.2.2.2.2.2.2.2.2.2.2.2.2.2.2.2.1.length:Int)) then gd (decide<|0<=nu.2/\nu.2<(nu.1.length:Int)) <|Qs (aO ((nu.1.getD nu.2.toNat default).view) v21.1.Loc<|(move.tdiv (3:Int))+(1:Int)) λv154=>gd (Nb .i64<|nu.2+(1:Int)) <|some (.inl ((nu.1.set nu.2.toNat<|{ (nu.1.getD nu.2.toNat default) with view:=v154 }),(nu.2+(1:Int)))) else some (.inr nu.1)
def fU (move:Int) (v21:Nf×Bool) (s24:Int×Int×Int×Int×Int×Int×Int×Int×Int×Int×Int×Int×Int×Int×Int×Int×Int×Int×(List ai)×(List ai)×(List ai)):LS ((List ai)×Int) (List ai):=λny=>bif decide (ny.2<(s24.2.2.2.2.2.2.2.2.2.2.2.2.2.2.2.2.2.2.2.2.length:Int)) then gd (decide<|0<=ny.2/\ny.2<(ny.1.length:Int)) <|Qs (aO ((ny.1.getD ny.2.toNat default).view) v21.1.Loc<|(move.tdiv (3:Int))+(1:Int)) λv172=>gd (Nb .i64<|ny.2+(1:Int)) <|some (.inl ((ny.1.set ny.2.toNat<|{ (ny.1.getD ny.2.toNat default) with view:=v172 }),(ny.2+(1:Int)))) else some (.inr ny.1)
def bY (s:au) (move:Int):Option au:= gd (decide<|0<=(0:Int)/\(0:Int)<3) <|Qs (aX<|ae.get s.lists (0:Int)) λv2=>gd (Nb .i64<|(0:Int)+(1:Int)) <|gd (decide<|0<=(1:Int)/\(1:Int)<3) <|Qs (aX<|ae.get s.lists (1:Int)) λv8=>gd (Nb .i64<|(1:Int)+(1:Int)) <|gd (decide<|0<=(2:Int)/\(2:Int)<3) <|Qs (aX<|ae.get s.lists (2:Int)) λv14=>gd (Nb .i64<|(2:Int)+(1:Int)) <|gd (decide<|(3:Int)≠0) <|gd (Nb .i64<|move.tdiv (3:Int)) <|Qs (bu s.values<|move.tmod (3:Int)) λv21=>gd (decide<|0<=(move.tmod (3:Int))/\(move.tmod (3:Int))<3) <|gd (Nb .u8<|(Z3b.get s.values.pc<|move.tmod (3:Int))+(1:Int)) <|Qs (Qs (dz (⟨v21.1.Op,v21.1.Loc,v21.1.Reg,v21.1.Val⟩:Nf)) λv25=>bif v25 then gd (decide<|0<=v21.1.Loc/\v21.1.Loc<3) <|gd (decide<|0<=(move.tdiv (3:Int))/\(move.tdiv (3:Int))<((ae.get s.lists v21.1.Loc).length:Int)) <|gd (decide<|0<=v21.1.Reg/\v21.1.Reg<3) <|Qs (gV (aa.get s.own<|move.tmod (3:Int))<|((ae.get s.lists v21.1.Loc).getD (move.tdiv (3:Int)).toNat default).view) λv30=>some (((Z33.set s.values.reg (move.tmod (3:Int))<|Z3b.set (Z33.get s.values.reg<|move.tmod (3:Int)) v21.1.Reg<|((ae.get s.lists v21.1.Loc).getD (move.tdiv (3:Int)).toNat default).value).x0).x0,((Z33.set s.values.reg (move.tmod (3:Int))<|Z3b.set (Z33.get s.values.reg<|move.tmod (3:Int)) v21.1.Reg<|((ae.get s.lists v21.1.Loc).getD (move.tdiv (3:Int)).toNat default).value).x0).x1,((Z33.set s.values.reg (move.tmod (3:Int))<|Z3b.set (Z33.get s.values.reg<|move.tmod (3:Int)) v21.1.Reg<|((ae.get s.lists v21.1.Loc).getD (move.tdiv (3:Int)).toNat default).value).x0).x2,((Z33.set s.values.reg (move.tmod (3:Int))<|Z3b.set (Z33.get s.values.reg<|move.tmod (3:Int)) v21.1.Reg<|((ae.get s.lists v21.1.Loc).getD (move.tdiv (3:Int)).toNat default).value).x1).x0,((Z33.set s.values.reg (move.tmod (3:Int))<|Z3b.set (Z33.get s.values.reg<|move.tmod (3:Int)) v21.1.Reg<|((ae.get s.lists v21.1.Loc).getD (move.tdiv (3:Int)).toNat default).value).x1).x1,((Z33.set s.values.reg (move.tmod (3:Int))<|Z3b.set (Z33.get s.values.reg<|move.tmod (3:Int)) v21.1.Reg<|((ae.get s.lists v21.1.Loc).getD (move.tdiv (3:Int)).toNat default).value).x1).x2,((Z33.set s.values.reg (move.tmod (3:Int))<|Z3b.set (Z33.get s.values.reg<|move.tmod (3:Int)) v21.1.Reg<|((ae.get s.lists v21.1.Loc).getD (move.tdiv (3:Int)).toNat default).value).x2).x0,((Z33.set s.values.reg (move.tmod (3:Int))<|Z3b.set (Z33.get s.values.reg<|move.tmod (3:Int)) v21.1.Reg<|((ae.get s.lists v21.1.Loc).getD (move.tdiv (3:Int)).toNat default).value).x2).x1,((Z33.set s.values.reg (move.tmod (3:Int))<|Z3b.set (Z33.get s.values.reg<|move.tmod (3:Int)) v21.1.Reg<|((ae.get s.lists v21.1.Loc).getD (move.tdiv (3:Int)).toNat default).value).x2).x2,((aa.set s.own (move.tmod (3:Int)) v30).x0).x0,((aa.set s.own (move.tmod (3:Int)) v30).x0).x1,((aa.set s.own (move.tmod (3:Int)) v30).x0).x2,((aa.set s.own (move.tmod (3:Int)) v30).x1).x0,((aa.set s.own (move.tmod (3:Int)) v30).x1).x1,((aa.set s.own (move.tmod (3:Int)) v30).x1).x2,((aa.set s.own (move.tmod (3:Int)) v30).x2).x0,((aa.set s.own (move.tmod (3:Int)) v30).x2).x1,((aa.set s.own (move.tmod (3:Int)) v30).x2).x2,v2,v8,v14) else some (s.values.reg.x0.x0,s.values.reg.x0.x1,s.values.reg.x0.x2,s.values.reg.x1.x0,s.values.reg.x1.x1,s.values.reg.x1.x2,s.values.reg.x2.x0,s.values.reg.x2.x1,s.values.reg.x2.x2,s.own.x0.x0,s.own.x0.x1,s.own.x0.x2,s.own.x1.x0,s.own.x1.x1,s.own.x1.x2,s.own.x2.x0,s.own.x2.x1,s.own.x2.x2,v2,v8,v14)) λs24=>Qs (Qs (bif (v21.1.Op==(2:Int)) then some (v21.1.Op==(2:Int)) else some (v21.1.Op==(3:Int))) λs41=>bif s41 then gd (Nb .u8<|move.tdiv (3:Int)) <|Qs (bI s.values (move.tmod (3:Int)) (⟨v21.1.Op,v21.1.Loc,v21.1.Reg,v21.1.Val⟩:Nf)) λv45=>Qs (bA (gI move v21 s24) (s24.2.2.2.2.2.2.2.2.2.2.2.2.2.2.2.2.2.2.1,(0:Int))) λs46=>Qs (bA (gJ move v21 s24) (s24.2.2.2.2.2.2.2.2.2.2.2.2.2.2.2.2.2.2.2.1,(0:Int))) λs64=>Qs (bA (gK move v21 s24) (s24.2.2.2.2.2.2.2.2.2.2.2.2.2.2.2.2.2.2.2.2,(0:Int))) λs82=>Qs (aO (⟨s24.2.2.2.2.2.2.2.2.2.1,s24.2.2.2.2.2.2.2.2.2.2.1,s24.2.2.2.2.2.2.2.2.2.2.2.1⟩:ah) v21.1.Loc<|move.tdiv (3:Int)) λaH=>Qs (aO (⟨s24.2.2.2.2.2.2.2.2.2.2.2.2.1,s24.2.2.2.2.2.2.2.2.2.2.2.2.2.1,s24.2.2.2.2.2.2.2.2.2.2.2.2.2.2.1⟩:ah) v21.1.Loc<|move.tdiv (3:Int)) λaI=>Qs (aO (⟨s24.2.2.2.2.2.2.2.2.2.2.2.2.2.2.2.1,s24.2.2.2.2.2.2.2.2.2.2.2.2.2.2.2.2.1,s24.2.2.2.2.2.2.2.2.2.2.2.2.2.2.2.2.2.1⟩:ah) v21.1.Loc<|move.tdiv (3:Int)) λaJ=>gd (decide<|0<=v21.1.Loc/\v21.1.Loc<3) <|bif decide (v21.1.Loc=(0:Int)) then Qs (cN s46 (move.tdiv (3:Int)) ([(⟨v45,false,(aa.get (⟨((aa.set (⟨aH,aI,aJ⟩:aa) (move.tmod (3:Int))<|ah.set (aa.get (⟨aH,aI,aJ⟩:aa)<|move.tmod (3:Int)) v21.1.Loc<|move.tdiv (3:Int)).x0),((aa.set (⟨aH,aI,aJ⟩:aa) (move.tmod (3:Int))<|ah.set (aa.get (⟨aH,aI,aJ⟩:aa)<|move.tmod (3:Int)) v21.1.Loc<|move.tdiv (3:Int)).x1),((aa.set (⟨aH,aI,aJ⟩:aa) (move.tmod (3:Int))<|ah.set (aa.get (⟨aH,aI,aJ⟩:aa)<|move.tmod (3:Int)) v21.1.Loc<|move.tdiv (3:Int)).x2)⟩:aa)<|move.tmod (3:Int))⟩:ai)]:List ai)) λv105=>some (((aa.set (⟨aH,aI,aJ⟩:aa) (move.tmod (3:Int))<|ah.set (aa.get (⟨aH,aI,aJ⟩:aa)<|move.tmod (3:Int)) v21.1.Loc<|move.tdiv (3:Int)).x0).x0,((aa.set (⟨aH,aI,aJ⟩:aa) (move.tmod (3:Int))<|ah.set (aa.get (⟨aH,aI,aJ⟩:aa)<|move.tmod (3:Int)) v21.1.Loc<|move.tdiv (3:Int)).x0).x1,((aa.set (⟨aH,aI,aJ⟩:aa) (move.tmod (3:Int))<|ah.set (aa.get (⟨aH,aI,aJ⟩:aa)<|move.tmod (3:Int)) v21.1.Loc<|move.tdiv (3:Int)).x0).x2,((aa.set (⟨aH,aI,aJ⟩:aa) (move.tmod (3:Int))<|ah.set (aa.get (⟨aH,aI,aJ⟩:aa)<|move.tmod (3:Int)) v21.1.Loc<|move.tdiv (3:Int)).x1).x0,((aa.set (⟨aH,aI,aJ⟩:aa) (move.tmod (3:Int))<|ah.set (aa.get (⟨aH,aI,aJ⟩:aa)<|move.tmod (3:Int)) v21.1.Loc<|move.tdiv (3:Int)).x1).x1,((aa.set (⟨aH,aI,aJ⟩:aa) (move.tmod (3:Int))<|ah.set (aa.get (⟨aH,aI,aJ⟩:aa)<|move.tmod (3:Int)) v21.1.Loc<|move.tdiv (3:Int)).x1).x2,((aa.set (⟨aH,aI,aJ⟩:aa) (move.tmod (3:Int))<|ah.set (aa.get (⟨aH,aI,aJ⟩:aa)<|move.tmod (3:Int)) v21.1.Loc<|move.tdiv (3:Int)).x2).x0,((aa.set (⟨aH,aI,aJ⟩:aa) (move.tmod (3:Int))<|ah.set (aa.get (⟨aH,aI,aJ⟩:aa)<|move.tmod (3:Int)) v21.1.Loc<|move.tdiv (3:Int)).x2).x1,((aa.set (⟨aH,aI,aJ⟩:aa) (move.tmod (3:Int))<|ah.set (aa.get (⟨aH,aI,aJ⟩:aa)<|move.tmod (3:Int)) v21.1.Loc<|move.tdiv (3:Int)).x2).x2,v105,s64,s82) else bif decide (v21.1.Loc=(1:Int)) then Qs (cN s64 (move.tdiv (3:Int)) ([(⟨v45,false,(aa.get (⟨((aa.set (⟨aH,aI,aJ⟩:aa) (move.tmod (3:Int))<|ah.set (aa.get (⟨aH,aI,aJ⟩:aa)<|move.tmod (3:Int)) v21.1.Loc<|move.tdiv (3:Int)).x0),((aa.set (⟨aH,aI,aJ⟩:aa) (move.tmod (3:Int))<|ah.set (aa.get (⟨aH,aI,aJ⟩:aa)<|move.tmod (3:Int)) v21.1.Loc<|move.tdiv (3:Int)).x1),((aa.set (⟨aH,aI,aJ⟩:aa) (move.tmod (3:Int))<|ah.set (aa.get (⟨aH,aI,aJ⟩:aa)<|move.tmod (3:Int)) v21.1.Loc<|move.tdiv (3:Int)).x2)⟩:aa)<|move.tmod (3:Int))⟩:ai)]:List ai)) λv110=>some (((aa.set (⟨aH,aI,aJ⟩:aa) (move.tmod (3:Int))<|ah.set (aa.get (⟨aH,aI,aJ⟩:aa)<|move.tmod (3:Int)) v21.1.Loc<|move.tdiv (3:Int)).x0).x0,((aa.set (⟨aH,aI,aJ⟩:aa) (move.tmod (3:Int))<|ah.set (aa.get (⟨aH,aI,aJ⟩:aa)<|move.tmod (3:Int)) v21.1.Loc<|move.tdiv (3:Int)).x0).x1,((aa.set (⟨aH,aI,aJ⟩:aa) (move.tmod (3:Int))<|ah.set (aa.get (⟨aH,aI,aJ⟩:aa)<|move.tmod (3:Int)) v21.1.Loc<|move.tdiv (3:Int)).x0).x2,((aa.set (⟨aH,aI,aJ⟩:aa) (move.tmod (3:Int))<|ah.set (aa.get (⟨aH,aI,aJ⟩:aa)<|move.tmod (3:Int)) v21.1.Loc<|move.tdiv (3:Int)).x1).x0,((aa.set (⟨aH,aI,aJ⟩:aa) (move.tmod (3:Int))<|ah.set (aa.get (⟨aH,aI,aJ⟩:aa)<|move.tmod (3:Int)) v21.1.Loc<|move.tdiv (3:Int)).x1).x1,((aa.set (⟨aH,aI,aJ⟩:aa) (move.tmod (3:Int))<|ah.set (aa.get (⟨aH,aI,aJ⟩:aa)<|move.tmod (3:Int)) v21.1.Loc<|move.tdiv (3:Int)).x1).x2,((aa.set (⟨aH,aI,aJ⟩:aa) (move.tmod (3:Int))<|ah.set (aa.get (⟨aH,aI,aJ⟩:aa)<|move.tmod (3:Int)) v21.1.Loc<|move.tdiv (3:Int)).x2).x0,((aa.set (⟨aH,aI,aJ⟩:aa) (move.tmod (3:Int))<|ah.set (aa.get (⟨aH,aI,aJ⟩:aa)<|move.tmod (3:Int)) v21.1.Loc<|move.tdiv (3:Int)).x2).x1,((aa.set (⟨aH,aI,aJ⟩:aa) (move.tmod (3:Int))<|ah.set (aa.get (⟨aH,aI,aJ⟩:aa)<|move.tmod (3:Int)) v21.1.Loc<|move.tdiv (3:Int)).x2).x2,s46,v110,s82) else bif decide (v21.1.Loc=(2:Int)) then Qs (cN s82 (move.tdiv (3:Int)) ([(⟨v45,false,(aa.get (⟨((aa.set (⟨aH,aI,aJ⟩:aa) (move.tmod (3:Int))<|ah.set (aa.get (⟨aH,aI,aJ⟩:aa)<|move.tmod (3:Int)) v21.1.Loc<|move.tdiv (3:Int)).x0),((aa.set (⟨aH,aI,aJ⟩:aa) (move.tmod (3:Int))<|ah.set (aa.get (⟨aH,aI,aJ⟩:aa)<|move.tmod (3:Int)) v21.1.Loc<|move.tdiv (3:Int)).x1),((aa.set (⟨aH,aI,aJ⟩:aa) (move.tmod (3:Int))<|ah.set (aa.get (⟨aH,aI,aJ⟩:aa)<|move.tmod (3:Int)) v21.1.Loc<|move.tdiv (3:Int)).x2)⟩:aa)<|move.tmod (3:Int))⟩:ai)]:List ai)) λv115=>some (((aa.set (⟨aH,aI,aJ⟩:aa) (move.tmod (3:Int))<|ah.set (aa.get (⟨aH,aI,aJ⟩:aa)<|move.tmod (3:Int)) v21.1.Loc<|move.tdiv (3:Int)).x0).x0,((aa.set (⟨aH,aI,aJ⟩:aa) (move.tmod (3:Int))<|ah.set (aa.get (⟨aH,aI,aJ⟩:aa)<|move.tmod (3:Int)) v21.1.Loc<|move.tdiv (3:Int)).x0).x1,((aa.set (⟨aH,aI,aJ⟩:aa) (move.tmod (3:Int))<|ah.set (aa.get (⟨aH,aI,aJ⟩:aa)<|move.tmod (3:Int)) v21.1.Loc<|move.tdiv (3:Int)).x0).x2,((aa.set (⟨aH,aI,aJ⟩:aa) (move.tmod (3:Int))<|ah.set (aa.get (⟨aH,aI,aJ⟩:aa)<|move.tmod (3:Int)) v21.1.Loc<|move.tdiv (3:Int)).x1).x0,((aa.set (⟨aH,aI,aJ⟩:aa) (move.tmod (3:Int))<|ah.set (aa.get (⟨aH,aI,aJ⟩:aa)<|move.tmod (3:Int)) v21.1.Loc<|move.tdiv (3:Int)).x1).x1,((aa.set (⟨aH,aI,aJ⟩:aa) (move.tmod (3:Int))<|ah.set (aa.get (⟨aH,aI,aJ⟩:aa)<|move.tmod (3:Int)) v21.1.Loc<|move.tdiv (3:Int)).x1).x2,((aa.set (⟨aH,aI,aJ⟩:aa) (move.tmod (3:Int))<|ah.set (aa.get (⟨aH,aI,aJ⟩:aa)<|move.tmod (3:Int)) v21.1.Loc<|move.tdiv (3:Int)).x2).x0,((aa.set (⟨aH,aI,aJ⟩:aa) (move.tmod (3:Int))<|ah.set (aa.get (⟨aH,aI,aJ⟩:aa)<|move.tmod (3:Int)) v21.1.Loc<|move.tdiv (3:Int)).x2).x1,((aa.set (⟨aH,aI,aJ⟩:aa) (move.tmod (3:Int))<|ah.set (aa.get (⟨aH,aI,aJ⟩:aa)<|move.tmod (3:Int)) v21.1.Loc<|move.tdiv (3:Int)).x2).x2,s46,s64,v115) else none else bif (v21.1.Op==(5:Int)) then gd (Nb .i64<|(move.tdiv (3:Int))+(1:Int)) <|gd (Nb .u8<|(move.tdiv (3:Int))+(1:Int)) <|gd (Nb .u8 v21.1.Val) <|Qs (bA (fS move v21 s24) (s24.2.2.2.2.2.2.2.2.2.2.2.2.2.2.2.2.2.2.1,(0:Int))) λl9=>Qs (bA (fT move v21 s24) (s24.2.2.2.2.2.2.2.2.2.2.2.2.2.2.2.2.2.2.2.1,(0:Int))) λnU=>Qs (bA (fU move v21 s24) (s24.2.2.2.2.2.2.2.2.2.2.2.2.2.2.2.2.2.2.2.2,(0:Int))) λqo=>Qs (aO (⟨s24.2.2.2.2.2.2.2.2.2.1,s24.2.2.2.2.2.2.2.2.2.2.1,s24.2.2.2.2.2.2.2.2.2.2.2.1⟩:ah) v21.1.Loc<|(move.tdiv (3:Int))+(1:Int)) λaB=>Qs (aO (⟨s24.2.2.2.2.2.2.2.2.2.2.2.2.1,s24.2.2.2.2.2.2.2.2.2.2.2.2.2.1,s24.2.2.2.2.2.2.2.2.2.2.2.2.2.2.1⟩:ah) v21.1.Loc<|(move.tdiv (3:Int))+(1:Int)) λaC=>Qs (aO (⟨s24.2.2.2.2.2.2.2.2.2.2.2.2.2.2.2.1,s24.2.2.2.2.2.2.2.2.2.2.2.2.2.2.2.2.1,s24.2.2.2.2.2.2.2.2.2.2.2.2.2.2.2.2.2.1⟩:ah) v21.1.Loc<|(move.tdiv (3:Int))+(1:Int)) λaD=>gd (decide<|0<=v21.1.Loc/\v21.1.Loc<3) <|bif decide (v21.1.Loc=(0:Int)) then Qs (cN l9 ((move.tdiv (3:Int))+(1:Int)) ([(⟨v21.1.Val,false,(aa.get (⟨((aa.set (⟨aB,aC,aD⟩:aa) (move.tmod (3:Int))<|ah.set (aa.get (⟨aB,aC,aD⟩:aa)<|move.tmod (3:Int)) v21.1.Loc<|(move.tdiv (3:Int))+(1:Int)).x0),((aa.set (⟨aB,aC,aD⟩:aa) (move.tmod (3:Int))<|ah.set (aa.get (⟨aB,aC,aD⟩:aa)<|move.tmod (3:Int)) v21.1.Loc<|(move.tdiv (3:Int))+(1:Int)).x1),((aa.set (⟨aB,aC,aD⟩:aa) (move.tmod (3:Int))<|ah.set (aa.get (⟨aB,aC,aD⟩:aa)<|move.tmod (3:Int)) v21.1.Loc<|(move.tdiv (3:Int))+(1:Int)).x2)⟩:aa)<|move.tmod (3:Int))⟩:ai)]:List ai)) λv182=>gd (decide<|0<=(move.tdiv (3:Int))/\(move.tdiv (3:Int))<(v182.length:Int)) <|some (((aa.set (⟨aB,aC,aD⟩:aa) (move.tmod (3:Int))<|ah.set (aa.get (⟨aB,aC,aD⟩:aa)<|move.tmod (3:Int)) v21.1.Loc<|(move.tdiv (3:Int))+(1:Int)).x0).x0,((aa.set (⟨aB,aC,aD⟩:aa) (move.tmod (3:Int))<|ah.set (aa.get (⟨aB,aC,aD⟩:aa)<|move.tmod (3:Int)) v21.1.Loc<|(move.tdiv (3:Int))+(1:Int)).x0).x1,((aa.set (⟨aB,aC,aD⟩:aa) (move.tmod (3:Int))<|ah.set (aa.get (⟨aB,aC,aD⟩:aa)<|move.tmod (3:Int)) v21.1.Loc<|(move.tdiv (3:Int))+(1:Int)).x0).x2,((aa.set (⟨aB,aC,aD⟩:aa) (move.tmod (3:Int))<|ah.set (aa.get (⟨aB,aC,aD⟩:aa)<|move.tmod (3:Int)) v21.1.Loc<|(move.tdiv (3:Int))+(1:Int)).x1).x0,((aa.set (⟨aB,aC,aD⟩:aa) (move.tmod (3:Int))<|ah.set (aa.get (⟨aB,aC,aD⟩:aa)<|move.tmod (3:Int)) v21.1.Loc<|(move.tdiv (3:Int))+(1:Int)).x1).x1,((aa.set (⟨aB,aC,aD⟩:aa) (move.tmod (3:Int))<|ah.set (aa.get (⟨aB,aC,aD⟩:aa)<|move.tmod (3:Int)) v21.1.Loc<|(move.tdiv (3:Int))+(1:Int)).x1).x2,((aa.set (⟨aB,aC,aD⟩:aa) (move.tmod (3:Int))<|ah.set (aa.get (⟨aB,aC,aD⟩:aa)<|move.tmod (3:Int)) v21.1.Loc<|(move.tdiv (3:Int))+(1:Int)).x2).x0,((aa.set (⟨aB,aC,aD⟩:aa) (move.tmod (3:Int))<|ah.set (aa.get (⟨aB,aC,aD⟩:aa)<|move.tmod (3:Int)) v21.1.Loc<|(move.tdiv (3:Int))+(1:Int)).x2).x1,((aa.set (⟨aB,aC,aD⟩:aa) (move.tmod (3:Int))<|ah.set (aa.get (⟨aB,aC,aD⟩:aa)<|move.tmod (3:Int)) v21.1.Loc<|(move.tdiv (3:Int))+(1:Int)).x2).x2,(v182.set ((move.tdiv (3:Int)).toNat)<|{ (v182.getD ((move.tdiv (3:Int)).toNat) default) with taken:=true }),nU,qo) else bif decide (v21.1.Loc=(1:Int)) then Qs (cN nU ((move.tdiv (3:Int))+(1:Int)) ([(⟨v21.1.Val,false,(aa.get (⟨((aa.set (⟨aB,aC,aD⟩:aa) (move.tmod (3:Int))<|ah.set (aa.get (⟨aB,aC,aD⟩:aa)<|move.tmod (3:Int)) v21.1.Loc<|(move.tdiv (3:Int))+(1:Int)).x0),((aa.set (⟨aB,aC,aD⟩:aa) (move.tmod (3:Int))<|ah.set (aa.get (⟨aB,aC,aD⟩:aa)<|move.tmod (3:Int)) v21.1.Loc<|(move.tdiv (3:Int))+(1:Int)).x1),((aa.set (⟨aB,aC,aD⟩:aa) (move.tmod (3:Int))<|ah.set (aa.get (⟨aB,aC,aD⟩:aa)<|move.tmod (3:Int)) v21.1.Loc<|(move.tdiv (3:Int))+(1:Int)).x2)⟩:aa)<|move.tmod (3:Int))⟩:ai)]:List ai)) λv188=>gd (decide<|0<=(move.tdiv (3:Int))/\(move.tdiv (3:Int))<(v188.length:Int)) <|some (((aa.set (⟨aB,aC,aD⟩:aa) (move.tmod (3:Int))<|ah.set (aa.get (⟨aB,aC,aD⟩:aa)<|move.tmod (3:Int)) v21.1.Loc<|(move.tdiv (3:Int))+(1:Int)).x0).x0,((aa.set (⟨aB,aC,aD⟩:aa) (move.tmod (3:Int))<|ah.set (aa.get (⟨aB,aC,aD⟩:aa)<|move.tmod (3:Int)) v21.1.Loc<|(move.tdiv (3:Int))+(1:Int)).x0).x1,((aa.set (⟨aB,aC,aD⟩:aa) (move.tmod (3:Int))<|ah.set (aa.get (⟨aB,aC,aD⟩:aa)<|move.tmod (3:Int)) v21.1.Loc<|(move.tdiv (3:Int))+(1:Int)).x0).x2,((aa.set (⟨aB,aC,aD⟩:aa) (move.tmod (3:Int))<|ah.set (aa.get (⟨aB,aC,aD⟩:aa)<|move.tmod (3:Int)) v21.1.Loc<|(move.tdiv (3:Int))+(1:Int)).x1).x0,((aa.set (⟨aB,aC,aD⟩:aa) (move.tmod (3:Int))<|ah.set (aa.get (⟨aB,aC,aD⟩:aa)<|move.tmod (3:Int)) v21.1.Loc<|(move.tdiv (3:Int))+(1:Int)).x1).x1,((aa.set (⟨aB,aC,aD⟩:aa) (move.tmod (3:Int))<|ah.set (aa.get (⟨aB,aC,aD⟩:aa)<|move.tmod (3:Int)) v21.1.Loc<|(move.tdiv (3:Int))+(1:Int)).x1).x2,((aa.set (⟨aB,aC,aD⟩:aa) (move.tmod (3:Int))<|ah.set (aa.get (⟨aB,aC,aD⟩:aa)<|move.tmod (3:Int)) v21.1.Loc<|(move.tdiv (3:Int))+(1:Int)).x2).x0,((aa.set (⟨aB,aC,aD⟩:aa) (move.tmod (3:Int))<|ah.set (aa.get (⟨aB,aC,aD⟩:aa)<|move.tmod (3:Int)) v21.1.Loc<|(move.tdiv (3:Int))+(1:Int)).x2).x1,((aa.set (⟨aB,aC,aD⟩:aa) (move.tmod (3:Int))<|ah.set (aa.get (⟨aB,aC,aD⟩:aa)<|move.tmod (3:Int)) v21.1.Loc<|(move.tdiv (3:Int))+(1:Int)).x2).x2,l9,(v188.set ((move.tdiv (3:Int)).toNat)<|{ (v188.getD ((move.tdiv (3:Int)).toNat) default) with taken:=true }),qo) else bif decide (v21.1.Loc=(2:Int)) then Qs (cN qo ((move.tdiv (3:Int))+(1:Int)) ([(⟨v21.1.Val,false,(aa.get (⟨((aa.set (⟨aB,aC,aD⟩:aa) (move.tmod (3:Int))<|ah.set (aa.get (⟨aB,aC,aD⟩:aa)<|move.tmod (3:Int)) v21.1.Loc<|(move.tdiv (3:Int))+(1:Int)).x0),((aa.set (⟨aB,aC,aD⟩:aa) (move.tmod (3:Int))<|ah.set (aa.get (⟨aB,aC,aD⟩:aa)<|move.tmod (3:Int)) v21.1.Loc<|(move.tdiv (3:Int))+(1:Int)).x1),((aa.set (⟨aB,aC,aD⟩:aa) (move.tmod (3:Int))<|ah.set (aa.get (⟨aB,aC,aD⟩:aa)<|move.tmod (3:Int)) v21.1.Loc<|(move.tdiv (3:Int))+(1:Int)).x2)⟩:aa)<|move.tmod (3:Int))⟩:ai)]:List ai)) λv194=>gd (decide<|0<=(move.tdiv (3:Int))/\(move.tdiv (3:Int))<(v194.length:Int)) <|some (((aa.set (⟨aB,aC,aD⟩:aa) (move.tmod (3:Int))<|ah.set (aa.get (⟨aB,aC,aD⟩:aa)<|move.tmod (3:Int)) v21.1.Loc<|(move.tdiv (3:Int))+(1:Int)).x0).x0,((aa.set (⟨aB,aC,aD⟩:aa) (move.tmod (3:Int))<|ah.set (aa.get (⟨aB,aC,aD⟩:aa)<|move.tmod (3:Int)) v21.1.Loc<|(move.tdiv (3:Int))+(1:Int)).x0).x1,((aa.set (⟨aB,aC,aD⟩:aa) (move.tmod (3:Int))<|ah.set (aa.get (⟨aB,aC,aD⟩:aa)<|move.tmod (3:Int)) v21.1.Loc<|(move.tdiv (3:Int))+(1:Int)).x0).x2,((aa.set (⟨aB,aC,aD⟩:aa) (move.tmod (3:Int))<|ah.set (aa.get (⟨aB,aC,aD⟩:aa)<|move.tmod (3:Int)) v21.1.Loc<|(move.tdiv (3:Int))+(1:Int)).x1).x0,((aa.set (⟨aB,aC,aD⟩:aa) (move.tmod (3:Int))<|ah.set (aa.get (⟨aB,aC,aD⟩:aa)<|move.tmod (3:Int)) v21.1.Loc<|(move.tdiv (3:Int))+(1:Int)).x1).x1,((aa.set (⟨aB,aC,aD⟩:aa) (move.tmod (3:Int))<|ah.set (aa.get (⟨aB,aC,aD⟩:aa)<|move.tmod (3:Int)) v21.1.Loc<|(move.tdiv (3:Int))+(1:Int)).x1).x2,((aa.set (⟨aB,aC,aD⟩:aa) (move.tmod (3:Int))<|ah.set (aa.get (⟨aB,aC,aD⟩:aa)<|move.tmod (3:Int)) v21.1.Loc<|(move.tdiv (3:Int))+(1:Int)).x2).x0,((aa.set (⟨aB,aC,aD⟩:aa) (move.tmod (3:Int))<|ah.set (aa.get (⟨aB,aC,aD⟩:aa)<|move.tmod (3:Int)) v21.1.Loc<|(move.tdiv (3:Int))+(1:Int)).x2).x1,((aa.set (⟨aB,aC,aD⟩:aa) (move.tmod (3:Int))<|ah.set (aa.get (⟨aB,aC,aD⟩:aa)<|move.tmod (3:Int)) v21.1.Loc<|(move.tdiv (3:Int))+(1:Int)).x2).x2,l9,nU,(v194.set ((move.tdiv (3:Int)).toNat)<|{ (v194.getD ((move.tdiv (3:Int)).toNat) default) with taken:=true })) else none else some (s24.2.2.2.2.2.2.2.2.2.1,s24.2.2.2.2.2.2.2.2.2.2.1,s24.2.2.2.2.2.2.2.2.2.2.2.1,s24.2.2.2.2.2.2.2.2.2.2.2.2.1,s24.2.2.2.2.2.2.2.2.2.2.2.2.2.1,s24.2.2.2.2.2.2.2.2.2.2.2.2.2.2.1,s24.2.2.2.2.2.2.2.2.2.2.2.2.2.2.2.1,s24.2.2.2.2.2.2.2.2.2.2.2.2.2.2.2.2.1,s24.2.2.2.2.2.2.2.2.2.2.2.2.2.2.2.2.2.1,s24.2.2.2.2.2.2.2.2.2.2.2.2.2.2.2.2.2.2.1,s24.2.2.2.2.2.2.2.2.2.2.2.2.2.2.2.2.2.2.2.1,s24.2.2.2.2.2.2.2.2.2.2.2.2.2.2.2.2.2.2.2.2)) λs40=>some (⟨(⟨s.values.p,(⟨(Z3b.set s.values.pc (move.tmod (3:Int))<|(Z3b.get s.values.pc<|move.tmod (3:Int))+(1:Int)).x0,(Z3b.set s.values.pc (move.tmod (3:Int))<|(Z3b.get s.values.pc<|move.tmod (3:Int))+(1:Int)).x1,(Z3b.set s.values.pc (move.tmod (3:Int))<|(Z3b.get s.values.pc<|move.tmod (3:Int))+(1:Int)).x2⟩:Z3b),(⟨(⟨s24.1,s24.2.1,s24.2.2.1⟩:Z3b),(⟨s24.2.2.2.1,s24.2.2.2.2.1,s24.2.2.2.2.2.1⟩:Z3b),(⟨s24.2.2.2.2.2.2.1,s24.2.2.2.2.2.2.2.1,s24.2.2.2.2.2.2.2.2.1⟩:Z3b)⟩:Z33),(⟨s.values.mem.x0,s.values.mem.x1,s.values.mem.x2⟩:Z3b)⟩:Ng),(⟨s40.2.2.2.2.2.2.2.2.2.1,s40.2.2.2.2.2.2.2.2.2.2.1,s40.2.2.2.2.2.2.2.2.2.2.2⟩:ae),(⟨(⟨s40.1,s40.2.1,s40.2.2.1⟩:ah),(⟨s40.2.2.2.1,s40.2.2.2.2.1,s40.2.2.2.2.2.1⟩:ah),(⟨s40.2.2.2.2.2.2.1,s40.2.2.2.2.2.2.2.1,s40.2.2.2.2.2.2.2.2.1⟩:ah)⟩:aa)⟩:au)
def gW (s9:(List<|ByteArray×Bool)×(LL)×(List au)) (s19:(LL)) (v27:(LI)):LS ((List<|ByteArray×Bool)×(List au)×Int) (((List<|ByteArray×Bool)×(LL)×(List au)) ⊕ ((List<|ByteArray×Bool)×(LL))):=λs31=>bif decide (s31.2.2<(v27.length:Int)) then Qs (gd (decide<|0<=s31.2.2/\s31.2.2<(v27.length:Int)) <|Qs (bY (s9.2.2.getD (((s9.2.2.length:Int)-(1:Int)).toNat) default)<|v27.getD s31.2.2.toNat default) λv37=>Qs (cO v37) λv38=>bif !((zC s31.1 v38).getD false) then gd (dH (s31.2.1.length+1) 16) <|some ((uz s31.1 v38 true),(s31.2.1++[v37])) else some (s31.1,s31.2.1)) λs35=>gd (Nb .i64<|s31.2.2+(1:Int)) <|some (.inl (s35.1,s35.2,(s31.2.2+(1:Int)))) else some (.inr<|.inl (s31.1,s19,s31.2.1))
def gX:LS ((List<|ByteArray×Bool)×(LL)×(List au)) ((List<|ByteArray×Bool)×(LL)):=λs9=>bif decide ((0:Int)<(s9.2.2.length:Int)) then gd (Nb .i64<|(s9.2.2.length:Int)-(1:Int)) <|gd (decide<|0<=((s9.2.2.length:Int)-(1:Int))/\((s9.2.2.length:Int)-(1:Int))<(s9.2.2.length:Int)) <|gd (decide<|0<=(0:Int)/\(0:Int)<=((s9.2.2.length:Int)-(1:Int))/\((s9.2.2.length:Int)-(1:Int))<=(s9.2.2.length:Int)) <|Qs (Qs (db<|s9.2.2.getD (((s9.2.2.length:Int)-(1:Int)).toNat) default) λv20=>bif v20 then Qs (bU<|s9.2.2.getD (((s9.2.2.length:Int)-(1:Int)).toNat) default) λv22=>gd (dH (s9.2.1.length+1) 24) <|some (s9.2.1++[v22]) else some s9.2.1) λs19=>Qs (bX<|s9.2.2.getD (((s9.2.2.length:Int)-(1:Int)).toNat) default) λv27=>bA (gW s9 s19 v27) (s9.1,((s9.2.2.drop (0:Int).toNat).take<|((s9.2.2.length:Int)-(1:Int)).toNat-(0:Int).toNat),(0:Int)) else some (.inr (s9.1,s9.2.1))
def fA (start:au):Option ((LL)×Int):= Qs (cO start) λv1=>Qs (bA gX ((uz ([]:List<|ByteArray×Bool) v1 true),([]:LL),([start]:List au))) λs2=>Qs (aR s2.2) λv46=>some (v46,(s2.1.length:Int))
def mq (p:List<|List Nf):Option (LL):= Qs (aA p) λv1=>bif !v1 then some ([]:LL) else Qs (ji p) λv3=>Qs (fA v3) λv4=>some v4.1
def aK (p:List<|List Nf) (name:ByteArray):Option (LL):= bif decide (name=(⟨#[115,101,113]⟩:ByteArray)) then Qs (jh p) λv2=>some v2 else bif decide (name=(⟨#[116,115,111]⟩:ByteArray)) then Qs (nI p) λv4=>some v4 else bif decide (name=(⟨#[112,115,111]⟩:ByteArray)) then Qs (nJ p) λv6=>some v6 else bif decide (name=(⟨#[114,97]⟩:ByteArray)) then Qs (mq p) λv8=>some v8 else some ([]:LL)
def Nk {α:Type} (x:Option α) (P:α->Prop):Prop:=∃ v,x=some v/\P v
section
variable {α β S E:Type} {P:α->Prop} {Q:β->Prop} {x y:Option α}
theorem Nk.pure {v:α} (h:P v):Nk (some v) P:=⟨v,rfl,h⟩
theorem Nk.mono {P':α->Prop} (h:Nk x P) (k:∀ v,P v->P' v):Nk x P':=by
 obtain ⟨v,e,p⟩:=h;exact ⟨v,e,k v p⟩
theorem Nk.bind {o:Option α} {f:α->Option β} (h:Nk o P) (k:∀ v,P v->Nk (f v) Q):Nk (o.bind f) Q:=by
 obtain ⟨v,rfl,p⟩:=h;exact k v p
theorem Nk.gd {b:Bool} (hb:b=true) (h:Nk x P):Nk (gd b x) P:=by rw [kT hb];exact h
theorem Nk.gdD {A:Prop} [Decidable A] (hb:A) (h:Nk x P):Nk (Go.Proofs.YtjcmfddobaplbaaGreat.gd (decide A) x) P:=Nk.gd (decide_eq_true hb) h
theorem Nk.gdI {n:Int} (hb : -9223372036854775808<=n/\n<=9223372036854775807) (h:Nk x P):Nk (Go.Proofs.YtjcmfddobaplbaaGreat.gd (Nb .i64 n) x) P:=Nk.gd (Iw hb) h
theorem Nk.gdY {n:Int} (hb:0<=n/\n<=255) (h:Nk x P):Nk (Go.Proofs.YtjcmfddobaplbaaGreat.gd (Nb .u8 n) x) P:=Nk.gd (KE hb) h
theorem GL {n m:Nat} (hn:n<=1048576) (hm:Nat.ble m 1000=true):dH n m=true:=by
 have h1:=nlb hm;have h2:n*m<=1048576*1000:=QH hn h1;exact decide_eq_true ⟨by omega,by omega⟩
theorem Nk.gdC {n m:Nat} (hn:n<=1048576) (hm:Nat.ble m 1000=true) (h:Nk x P):Nk (Go.Proofs.YtjcmfddobaplbaaGreat.gd (dH n m) x) P:=Nk.gd (GL hn hm) h
theorem Nk.bif {b:Bool} (h1:b=true->Nk x P) (h2:b=false->Nk y P):Nk (bif b then x else y) P:=by
 cases b with
 | true=>exact h1 rfl
 | false=>exact h2 rfl
theorem Nk.bifD {A:Prop} [Decidable A] (h1:A->Nk x P) (h2 : ¬ A->Nk y P):Nk (_root_.cond (decide A) x y) P:=
 Nk.bif (λh=>h1<|of_decide_eq_true h) (λh=>h2<|of_decide_eq_false h)
theorem Nk.sum {W:Type} {PS:S->Prop} {PW:W->Prop} {a:Option (S ⊕ W)} {f:S->Option W} (h:Nk a λz=>match z with
  | .inl s=>PS s
  | .inr w=>PW w) (k:∀ s,PS s->Nk (f s) PW):Nk (sumK a f) PW:=by
 obtain ⟨v,rfl,p⟩:=h
 match v,p with
 | .inl s,p=>exact k s p
 | .inr w,p=>exact ⟨w,rfl,p⟩
theorem Nk.loop {step:S->Option (S ⊕ E)} {R:E->Prop} (J:S->Prop) (mu:S->Nat) {s0:S} (h0:J s0) (h:∀ s,J s->Nk (step s) λz=>match z with
  | .inl s'=>J s'/\mu s'<mu s
  | .inr x=>R x):Nk (bA step s0) R:=by
 have key:∀ (n:Nat) (s:S),mu s=n->J s->Nk (bA step s) R:=by
  intro n
  induction n using Nat.strongRecOn with
  | _ n ih=>
   intro s hs hj;obtain ⟨z,e,hz⟩:=h s hj;rw [uR,e]
   match z,hz with
   | .inl s',hz=>exact ih (mu s') (by omega) s' rfl hz.1
   | .inr x,hz=>exact ⟨x,rfl,hz⟩
 exact key _ s0 rfl h0
theorem Nk.eq {v:α} (h:Nk x (· = v)):x=some v:=by
 obtain ⟨u,e,rfl⟩:=h;exact e
theorem Nk.of {v:α} (h:x=some v) (p:P v):Nk x P:=⟨v,h,p⟩
end
section
variable {α β:Type} {x x' y y':Option α}
end
def Nl (x:Nf):Bool:=x.Op==1||x.Op==5
def wrX (x:Nf):Bool:=x.Op==2||x.Op==3||x.Op==5
theorem Fg (x:Nf):Nk (dz x) (· = Nl x):=by
 unfold dz Nl;exact Nk.bind (P:=(· = (x.Op==1||x.Op==5))) (.bif (λh => .pure<|by rw [h];rfl) λh => .pure<|by rw [h];rfl) λv hv => .pure hv
theorem Jn (x:Nf):Nk (fM x) (· = wrX x):=by
 unfold fM wrX;exact Nk.bind (P:=(· = (x.Op==2||x.Op==3))) (.bif (λh => .pure<|by rw [h];rfl) λh => .pure<|by rw [h];rfl) λv hv=>Nk.bind (P:=(· = (x.Op==2||x.Op==3||x.Op==5))) (.bif (λh => .pure<|by rw [<- hv,h];rfl) λh => .pure<|by rw [<- hv,h];rfl) λv hv => .pure hv
def Vs (p:List<|List Nf):Prop:=p.length<=3/\∀ n,(p.getD n default).length<=7
theorem Vs.of {p:List (List Nf)} (h:cK (p.map λr=>r.map fK)=true):Vs p/\∀ t k:Nat,t<p.length->k<(p.getD t default).length->iG (fK<|(p.getD t default).getD k default)=true:=by
 simp only [cK,mi,bae,dte,List.all_eq_true,rowOk] at h;have hl:p.length<=3:=by simpa using h.1.1.1.1
 have hr:=h.1.1.1.2;refine ⟨⟨hl,λn=>?_⟩,λt k ht hk=>?_⟩
 ·by_cases hn:n<p.length
  ·have e:p.getD n default=p[n]:=by simp [hn]
   rw [e];have := (hr (p[n].map fK)<|Qx.2 ⟨p[n],QA hn,rfl⟩).1;simpa using this
  rw [gdq,gen (by omega)];exact Nat.zero_le _
 have e:p.getD t default=p[t]:=by simp [ht]
 rw [e] at hk ⊢;have h1:=(hr (p[t].map fK)<|Qx.2 ⟨p[t],QA ht,rfl⟩).2;have e2:p[t].getD k default=p[t][k]:=by simp [hk]
 rw [e2];exact h1 _<|Qx.2 ⟨_,QA hk,rfl⟩
def InR (x:Nf):Prop:=0<=x.Loc/\x.Loc<=2/\0<=x.Reg/\x.Reg<=2/\0<=x.Val/\x.Val<=3
theorem Fh {x:Nf} (h:iG (fK x)=true):InR x:=by
 obtain ⟨o,l,r,v⟩:=x;unfold InR;simp only;unfold iG fK at h;simp only [Nj] at h
 split at h
 ·simp only [bae,dte,beq_iff_eq] at h;omega
 split at h
 ·simp only [bae,dte,beq_iff_eq] at h;omega
 split at h
 ·simp only [bae,dte,beq_iff_eq] at h;omega
 split at h
 ·simp only [bae,dte] at h;omega
 cases h
structure PV (p:List (List Nf)):Prop where
 vs:Vs p
 pos:0<p.length
 ins:∀ t k:Nat,t<p.length->k<(p.getD t default).length->InR ((p.getD t default).getD k default)
theorem PV.of {p:List (List Nf)} (h:cK (p.map λr=>r.map fK)=true):PV p:=by
 have h1:=Vs.of h;refine ⟨h1.1,?_,λt k ht hk=>Fh<|h1.2 t k ht hk⟩;simp only [cK,bae,dte,llm] at h;exact h.1.2
theorem dY {n m:Nat} (hn:n<=4000000) (hm:Nat.ble m 1000=true):dH n m=true:=by
 have h1:=nlb hm;have h2:n*m<=4000000*1000:=QH hn h1;exact decide_eq_true ⟨by omega,by omega⟩
theorem lm (a:Z3b) (q i v:Int) (hq:0<=q/\q<=2) (hi:0<=i/\i<=2):Z3b.get (Z3b.set a q v) i=if i=q then v else Z3b.get a i:=by
 obtain ⟨x,y,z⟩:=a;have h1:q=0\/q=1\/q=2:=by omega
 have h2:i=0\/i=1\/i=2:=by omega
 rcases h1 with rfl | rfl | rfl <;> rcases h2 with rfl | rfl | rfl <;> rfl
theorem rP (a:Z33) (q i:Int) (v:Z3b) (hq:0<=q/\q<=2) (hi:0<=i/\i<=2):Z33.get (Z33.set a q v) i=if i=q then v else Z33.get a i:=by
 obtain ⟨x,y,z⟩:=a;have h1:q=0\/q=1\/q=2:=by omega
 have h2:i=0\/i=1\/i=2:=by omega
 rcases h1 with rfl | rfl | rfl <;> rcases h2 with rfl | rfl | rfl <;> rfl
def sF (u:Ng) (t:Int) (x:Nf):Int:=if x.Op=3 then Z3b.get (Z33.get u.reg t) x.Reg else x.Val
def Fj (u:Ng) (t:Int) (x:Nf):Ng:=
 ⟨u.p,Z3b.set u.pc t<|Z3b.get u.pc t+1,if Nl x=true then Z33.set u.reg t (Z3b.set (Z33.get u.reg t) x.Reg<|Z3b.get u.mem x.Loc) else u.reg,if wrX x=true then Z3b.set u.mem x.Loc (sF u t x) else u.mem⟩
structure Mac (σ:Type) where
 mv:σ->LI
 af:σ->Int->σ
 ky:σ->ByteArray
 dn:σ->Bool
 oc:σ->LI
section
variable {σ:Type} (M:Mac σ)
inductive Rea (s0:σ):σ->Prop
 | base:Rea s0 s0
 | step {s:σ} {m:Int} (h:Rea s0 s) (hm:m∈M.mv s):Rea s0 (M.af s m)
def Jo (s0:σ) (o:LI):Prop:=∃ s,Rea M s0 s/\M.dn s=true/\M.oc s=o
structure Mok (s0:σ) (N:Nat):Prop where
 key:∀ s t,Rea M s0 s->Rea M s0 t->M.ky s=M.ky t->s=t
 cnt:∀ V:List σ,V.Nodup->(∀ v∈V,Rea M s0 v)->V.length<=N
variable {M} {s0:σ} {N:Nat}
def kys (M:Mac σ) (V:List σ):List (ByteArray×Bool):=V.map λv=>(M.ky v,true)
theorem Cm (V:List σ) (k:ByteArray):(∃ j,sM (kys M V) k=some j)↔∃ v∈V,M.ky v=k:=by
 unfold sM kys;rw [QE]
 cases h:List.findIdx? (λx=>decide<|x=k) (V.map<|(λx:ByteArray×Bool=>x.1) ∘ λv=>(M.ky v,true)) with
 | none=>
  rw [List.findIdx?_eq_none_iff] at h;refine ⟨λ⟨j,hj⟩=>(by cases hj),λ⟨v,hv,e⟩ => ?_⟩;have := h (M.ky v)<|Qx.2 ⟨v,hv,rfl⟩;rw [e] at this;simp at this
 | some j=>
  refine ⟨λ_=>?_,λ_=>⟨j,rfl⟩⟩;obtain ⟨h1,h2,_⟩:=List.findIdx?_eq_some_iff_getElem.1 h;have hj:j<V.length:=by simpa using h1
  refine ⟨V[j],QA hj,?_⟩;simpa using h2
theorem Cn (V:List σ) (k:ByteArray):((zC (kys M V) k).getD false)=true↔∃ v∈V,M.ky v=k:=by
 rw [<- Cm];unfold zC
 cases h:sM (kys M V) k with
 | none=>simp
 | some j=>
  obtain ⟨hj,v,hv⟩:=vM h;rw [Option.bind_some,hv];have : (k,v)∈kys M V:=QI hv;unfold kys at this;obtain ⟨u,_,e⟩:=Qx.1 this;injection e with _ e;subst e;simp
theorem Jp {V:List σ} {s:σ} (h : ¬ ∃ v∈V,M.ky v=M.ky s):uz (kys M V) (M.ky s) true=kys M (V++[s]):=by
 unfold uz
 cases hm:sM (kys M V) (M.ky s) with
 | some j=>exact absurd ((Cm V _).1 ⟨j,hm⟩) h
 | none=>simp [kys]
def Done (M:Mac σ) (V:List σ) (outs:LL) (v:σ):Prop:=(∀ m∈M.mv v,M.af v m∈V)/\(M.dn v=true->M.oc v∈outs)
structure Srch (M:Mac σ) (s0:σ) (V stack:List σ) (outs:List (List Int)) (cur:Option (σ×Nat)):Prop where
 rea:∀ v∈V,Rea M s0 v
 base:s0∈V
 nd:V.Nodup
 sub:∀ v∈stack,v∈V
 all:∀ v∈V,v∈stack\/(∃ n,cur=some (v,n))\/Done M V outs v
 out:∀ o∈outs,∃ v∈V,M.dn v=true/\M.oc v=o
 len:outs.length+stack.length<=V.length
 cur_:∀ s n,cur=some (s,n)->s∈V/\(M.dn s=true->M.oc s∈outs)/\∀ j,j<n->∀ m,(M.mv s)[j]? = some m->M.af s m∈V
theorem Srch.start:Srch M s0 [s0] [s0] [] none where
 rea:=λv hv=>by rw [Qu.1 hv];exact .base
 base:=Qu.2 rfl
 nd:=by simp
 sub:=λv hv=>hv
 all:=λv hv => .inl hv
 out:=nofun
 len:=by simp
 cur_:=nofun
theorem Srch.pop {V stack:List σ} {s:σ} {outs:LL} (h:Srch M s0 V (stack++[s]) outs none) {outs':LL} (ho:outs'=if M.dn s then outs++[M.oc s] else outs):Srch M s0 V stack outs' (some (s,0)) where
 rea:=h.rea
 base:=h.base
 nd:=h.nd
 sub:=λv hv=>h.sub v<|Qw _ hv
 all:=λv hv=>by
  rcases h.all v hv with h1 | ⟨n,h1⟩ | ⟨h1,h2⟩
  ·rcases Qy.1 h1 with h1 | h1
   ·exact .inl h1
   rw [Qu.1 h1];exact .inr<|.inl ⟨0,rfl⟩
  ·cases h1
  refine .inr<|.inr ⟨h1,λhd=>?_⟩;rw [ho]
  split
  ·exact Qw _<|h2 hd
  exact h2 hd
 out:=λo hm=>by
  rw [ho] at hm
  split at hm
  ·rename_i hd;rcases Qy.1 hm with hm | hm
   ·exact h.out o hm
   rw [Qu.1 hm];exact ⟨s,h.sub s<|QB _<|Qu.2 rfl,hd,rfl⟩
  exact h.out o hm
 len:=by
  have := h.len;rw [lla,Qz] at this;rw [ho]
  split
  ·rw [lla,Qz];omega
  omega
 cur_:=λt n e=>by
  injection e with e;injection e with e1 e2;subst e1 e2;refine ⟨h.sub s<|QB _<|Qu.2 rfl,λhd=>?_,λj hj=>absurd hj<|by omega⟩;rw [ho,if_pos hd];exact QB _<|Qu.2 rfl
theorem Srch.old {V stack:List σ} {s:σ} {outs:LL} {n:Nat} {m:Int} (h:Srch M s0 V stack outs<|some (s,n)) (hm:(M.mv s)[n]? = some m) (hv:M.af s m∈V):Srch M s0 V stack outs (some (s,n+1)) where
 rea:=h.rea
 base:=h.base
 nd:=h.nd
 sub:=h.sub
 all:=λv hv=>by
  rcases h.all v hv with h1 | ⟨k,h1⟩ | h1
  ·exact .inl h1
  ·injection h1 with h1;injection h1 with h1 _;subst h1;exact .inr<|.inl ⟨n+1,rfl⟩
  exact .inr<|.inr h1
 out:=h.out
 len:=h.len
 cur_:=λt k e=>by
  injection e with e;injection e with e1 e2;subst e1 e2;obtain ⟨g1,g2,g3⟩:=h.cur_ s n rfl;refine ⟨g1,g2,λj hj m' hm' => ?_⟩;rcases QJ j n with h' | h'
  ·exact g3 j h' m' hm'
  obtain rfl:j=n:=by omega
  rw [hm] at hm';obtain rfl:=osl hm';exact hv
theorem Srch.new {V stack:List σ} {s:σ} {outs:LL} {n:Nat} {m:Int} (h:Srch M s0 V stack outs<|some (s,n)) (hm:(M.mv s)[n]? = some m) (hv:M.af s m∉V):Srch M s0 (V++[M.af s m]) (stack++[M.af s m]) outs (some (s,n+1)) where
 rea:=λv hv=>by
  rcases Qy.1 hv with hv | hv
  ·exact h.rea v hv
  rw [Qu.1 hv];exact .step (h.rea s (h.cur_ s n rfl).1)<|QI hm
 base:=Qw _ h.base
 nd:=by
  rw [List.nodup_append];exact ⟨h.nd,by simp,λa ha b hb e=>hv<|by rw [<- Qu.1 hb,<- e];exact ha⟩
 sub:=λv hv=>by
  rcases Qy.1 hv with hv | hv
  ·exact Qw _<|h.sub v hv
  exact QB _ hv
 all:=λv hv=>by
  rcases Qy.1 hv with hv | hv
  ·rcases h.all v hv with h1 | ⟨k,h1⟩ | ⟨h1,h2⟩
   ·exact .inl<|Qw _ h1
   ·injection h1 with h1;injection h1 with h1 _;subst h1;exact .inr<|.inl ⟨n+1,rfl⟩
   exact .inr<|.inr ⟨λm hm=>Qw _<|h1 m hm,h2⟩
  exact .inl<|QB _ hv
 out:=λo ho=>by
  obtain ⟨v,g1,g2⟩:=h.out o ho;exact ⟨v,Qw _ g1,g2⟩
 len:=by
  have := h.len;simp only [lla,Qz];omega
 cur_:=λt k e=>by
  injection e with e;injection e with e1 e2;subst e1 e2;obtain ⟨g1,g2,g3⟩:=h.cur_ s n rfl;refine ⟨Qw _ g1,g2,λj hj m' hm' => ?_⟩;rcases QJ j n with h' | h'
  ·exact Qw _<|g3 j h' m' hm'
  obtain rfl:j=n:=by omega
  rw [hm] at hm';obtain rfl:=osl hm';exact QB _<|Qu.2 rfl
theorem Srch.fin {V stack:List σ} {s:σ} {outs:LL} {n:Nat} (h:Srch M s0 V stack outs<|some (s,n)) (hn:(M.mv s).length<=n):Srch M s0 V stack outs none where
 rea:=h.rea
 base:=h.base
 nd:=h.nd
 sub:=h.sub
 all:=λv hv=>by
  rcases h.all v hv with h1 | ⟨k,h1⟩ | h1
  ·exact .inl h1
  ·injection h1 with h1;injection h1 with h1 _;subst h1;obtain ⟨_,g2,g3⟩:=h.cur_ s n rfl;refine .inr<|.inr ⟨λm hm=>?_,g2⟩;obtain ⟨j,hj⟩:=List.getElem?_of_mem hm;exact g3 j (by have := (ges hj).1;omega) m hj
  exact .inr<|.inr h1
 out:=h.out
 len:=h.len
 cur_:=nofun
theorem Srch.ends {V:List σ} {outs:LL} (h:Srch M s0 V [] outs none):(∀ o,o∈outs↔Jo M s0 o)/\∀ v,v∈V↔Rea M s0 v:=by
 have all:∀ v,Rea M s0 v->v∈V:=λv hv=>by
  induction hv with
  | base=>exact h.base
  | step _ hm ih=>
   rcases h.all _ ih with h1 | ⟨_,h1⟩ | h1
   ·cases h1
   ·cases h1
   exact h1.1 _ hm
 refine ⟨λo=>⟨λho=>?_,λ⟨s,h1,h2,h3⟩ => ?_⟩,λv=>⟨h.rea v,all v⟩⟩
 ·obtain ⟨v,g1,g2,g3⟩:=h.out o ho;exact ⟨v,h.rea v g1,g2,g3⟩
 rcases h.all s (all s h1) with h4 | ⟨_,h4⟩ | h4
 ·cases h4
 ·cases h4
 rw [<- h3];exact h4.2 h2
end
section
variable {σ:Type} [Inhabited σ] (mv:σ->Option (LI)) (af:σ->Int->Option σ) (ky:σ->Option ByteArray) (dn:σ->Option Bool) (oc:σ->Option (LI)) (srt:LL->Option (LL))
def Mc (s9:(List<|ByteArray×Bool)×(LL)×(List σ)) (s19:(LL)) (v27:(LI)):((List<|ByteArray×Bool)×(List σ)×Int)->Option (((List<|ByteArray×Bool)×(List σ)×Int) ⊕ (((List<|ByteArray×Bool)×(LL)×(List σ)) ⊕ ((List<|ByteArray×Bool)×(LL)))):=λs31=>
 bif decide (s31.2.2<(v27.length:Int)) then
  Qs (
   gd (decide<|0<=s31.2.2/\s31.2.2<(v27.length:Int)) <|
   Qs (af (s9.2.2.getD (((s9.2.2.length:Int)-(1:Int)).toNat) default)<|v27.getD s31.2.2.toNat default) λv37=>
   Qs (ky v37) λv38=>
   bif !((zC s31.1 v38).getD false) then
    gd (dH (s31.2.1.length+1) 16) <|
    some ((uz s31.1 v38 true),(s31.2.1++[v37]))
   else
    some (s31.1,s31.2.1)
  ) λs35=>
  gd (Nb .i64<|s31.2.2+(1:Int)) <|
  some (.inl (s35.1,s35.2,(s31.2.2+(1:Int))))
 else
  some (.inr<|.inl (s31.1,s19,s31.2.1))
def MB:((List<|ByteArray×Bool)×(LL)×(List σ))->Option (((List<|ByteArray×Bool)×(LL)×(List σ)) ⊕ ((List<|ByteArray×Bool)×(LL))):=λs9=>
 bif decide ((0:Int)<(s9.2.2.length:Int)) then
  gd (Nb .i64<|(s9.2.2.length:Int)-(1:Int)) <|
  gd (decide<|0<=((s9.2.2.length:Int)-(1:Int))/\((s9.2.2.length:Int)-(1:Int))<(s9.2.2.length:Int)) <|
  gd (decide<|0<=(0:Int)/\(0:Int)<=((s9.2.2.length:Int)-(1:Int))/\((s9.2.2.length:Int)-(1:Int))<=(s9.2.2.length:Int)) <|
  Qs (
   Qs (dn<|s9.2.2.getD (((s9.2.2.length:Int)-(1:Int)).toNat) default) λv20=>
   bif v20 then
    Qs (oc<|s9.2.2.getD (((s9.2.2.length:Int)-(1:Int)).toNat) default) λv22=>
    gd (dH (s9.2.1.length+1) 24) <|
    some (s9.2.1++[v22])
   else
    some s9.2.1
  ) λs19=>
  Qs (mv<|s9.2.2.getD (((s9.2.2.length:Int)-(1:Int)).toNat) default) λv27=>
  bA (Mc af ky s9 s19 v27) (s9.1,((s9.2.2.drop (0:Int).toNat).take<|((s9.2.2.length:Int)-(1:Int)).toNat-(0:Int).toNat),(0:Int))
 else
  some (.inr (s9.1,s9.2.1))
def KO (start:σ):Option ((LL)×Int):=
 Qs (ky start) λv1=>
 Qs (
  bA (MB mv af ky dn oc) ((uz ([]:List<|ByteArray×Bool) v1 true),([]:LL),([start]:List σ))
 ) λs2=>
 Qs (srt s2.2) λv46=>
 some (v46,(s2.1.length:Int))
variable {mv af ky dn oc srt} {M:Mac σ} {s0:σ} {N:Nat}
structure Mrt (mv:σ->Option (List Int)) (af:σ->Int->Option σ) (ky:σ->Option ByteArray) (dn:σ->Option Bool) (oc:σ->Option (List Int)) (M:Mac σ) (s0:σ):Prop where
 mv:∀ s,Rea M s0 s->Nk (mv s) (· = M.mv s)
 af:∀ s m,Rea M s0 s->m∈M.mv s->Nk (af s m) (· = M.af s m)
 ky:∀ s,Rea M s0 s->Nk (ky s) (· = M.ky s)
 dn:∀ s,Rea M s0 s->Nk (dn s) (· = M.dn s)
 oc:∀ s,Rea M s0 s->M.dn s=true->Nk (oc s) (· = M.oc s)
 len:∀ s,Rea M s0 s->(M.mv s).length<=1048576
theorem MC {n m:Nat} (hn:n<=1099511627776) (hm:Nat.ble m 32=true):dH n m=true:=by
 have h1:=nlb hm;have h2:n*m<=1099511627776*32:=QH hn h1;exact decide_eq_true ⟨by omega,by omega⟩
theorem GM (K:Mok M s0 N) (R:Mrt mv af ky dn oc M s0) (hN:N<1099511627776) {V stk:List σ} {s:σ} {outs outs':LL} (h:Srch M s0 V stk outs'<|some (s,0)) :
  Nk (bA (Mc af ky (kys M V,outs,stk++[s]) outs'<|M.mv s) (kys M V,stk,(0:Int))) λz=>∃ V' stk',z = .inl (kys M V',outs',stk')/\Srch M s0 V' stk' outs' none/\V.length<=V'.length/\2*V.length+stk'.length<=2*V'.length+stk.length:=by
 have hsV:=(h.cur_ s 0 rfl).1;have hs:=h.rea s hsV;have hcur:(stk++[s]).getD ((((stk++[s]).length:Int)-1).toNat) default=s:=by
  rw [lla,Qz,show (((stk.length+1:Nat):Int)-1).toNat=stk.length by omega,gdq,gar (QC _)];simp
 have hlen:=R.len s hs;refine Nk.loop (λz=>∃ V',z.1=kys M V'/\(0<=z.2.2/\z.2.2<=((M.mv s).length:Int))/\Srch M s0 V' z.2.1 outs' (some (s,z.2.2.toNat))/\V.length<=V'.length/\2*V.length+z.2.1.length<=2*V'.length+stk.length) (λz=>(((M.mv s).length:Int)-z.2.2).toNat) ⟨V,rfl,⟨Qt _,by simp⟩,h,QC _,QC _⟩ λz ⟨V',h1,h2,h3,h4,h5⟩ => ?_;unfold Mc;simp only [hcur];refine .bifD (λhlt=>?_) λhge => .pure ⟨V',z.2.1,by rw [h1],h3.fin (by omega),h4,h5⟩;have hj:z.2.2.toNat<(M.mv s).length:=by omega
 have hm:(M.mv s)[z.2.2.toNat]? = some ((M.mv s).getD z.2.2.toNat default):=by simp [geq hj]
 have hmm:=QI hm;have hi1:(z.2.2+1).toNat=z.2.2.toNat+1:=by omega
 have hV':=K.cnt V' h3.nd h3.rea;have hl:=h3.len;refine Nk.bind (P:=λw=>∃ V2,w.1=kys M V2/\Srch M s0 V2 w.2 outs' (some (s,z.2.2.toNat+1))/\V.length<=V2.length/\2*V.length+w.2.length<=2*V2.length+stk.length) ?_ λw ⟨V2,w1,w2,w3,w4⟩ => .gdI (by omega)<|.pure ⟨⟨V2,w1,⟨by simp only [];omega,by simp only [];omega⟩,by simp only [hi1];exact w2,w3,w4⟩,by simp only [];omega⟩;refine .gdD ⟨h2.1,hlt⟩<|(R.af s _ hs hmm).bind λv37 e37=>?_;subst e37;refine (R.ky _<|.step hs hmm).bind λv38 e38=>?_;subst e38;refine .bif (λhb => .gd (MC (by omega) rfl)<|.pure ?_) λhb => .pure ?_
 ·have hn : ¬ ∃ v∈V',M.ky v=M.ky (M.af s<|(M.mv s).getD z.2.2.toNat default):=λhh=>by
   rw [h1,(Cn V' _).2 hh] at hb
   cases hb
  refine ⟨V'++[M.af s ((M.mv s).getD z.2.2.toNat default)],?_,h3.new hm λhv=>hn ⟨_,hv,rfl⟩,?_,?_⟩
  ·simp only [h1];exact Jp hn
  ·simp;omega
  simp;omega
 have hy:∃ v∈V',M.ky v=M.ky (M.af s<|(M.mv s).getD z.2.2.toNat default):=by
  rw [<- Cn,<- h1];simpa using hb
 obtain ⟨v,hv,e⟩:=hy;have := K.key v _ (h3.rea v hv) (.step hs hmm) e;refine ⟨V',h1,h3.old hm<|this ▸ hv,h4,h5⟩
theorem Be (K:Mok M s0 N) (R:Mrt mv af ky dn oc M s0) (hN:N<1099511627776) {Q:LL->LL->Prop} (hs:∀ l:LL,l.length<=N->(∀ o∈l,Jo M s0 o)->Nk (srt l) (Q l)) :
  Nk (KO mv af ky dn oc srt s0) λq=>∃ l,Q l q.1/\(∀ o,o∈l↔Jo M s0 o)/\∃ V:List σ,V.Nodup/\(∀ v,v∈V↔Rea M s0 v)/\q.2=(V.length:Int):=by
 unfold KO;refine (R.ky s0 .base).bind λv1 e1=>?_;subst e1;refine Nk.bind (P:=λw=>∃ V,w.1=kys M V/\Srch M s0 V [] w.2 none) ?_ λw ⟨V,w1,w2⟩ => ?_
 ·refine Nk.loop (λz=>∃ V,z.1=kys M V/\Srch M s0 V z.2.2 z.2.1 none) (λz=>2*(N-z.1.length)+z.2.2.length) ⟨[s0],rfl,.start⟩ λz ⟨V,h1,h2⟩ => ?_;have hV:=K.cnt V h2.nd h2.rea;have hl:=h2.len;obtain ⟨kk,outs,stk⟩:=z;simp only at h1 h2 hl;subst h1;unfold MB;simp only [];refine .bifD (λhlt=>?_) λhge=>?_
  ·obtain ⟨stk',s,rfl⟩:∃ stk' s,stk=stk'++[s]:=⟨_,_,(List.dropLast_concat_getLast<|by rintro rfl;simp at hlt).symm⟩;have hcur:(stk'++[s]).getD ((((stk'++[s]).length:Int)-1).toNat) default=s:=by
    rw [lla,Qz,show (((stk'.length+1:Nat):Int)-1).toNat=stk'.length by omega,gdq,gar (QC _)];simp
   have hcut:((stk'++[s]).drop (0:Int).toNat).take ((((stk'++[s]).length:Int)-1).toNat-(0:Int).toNat)=stk':=by
    rw [lla,Qz,show (((stk'.length+1:Nat):Int)-1).toNat-(0:Int).toNat=stk'.length by omega];simp
   have hre:=h2.rea s<|h2.sub s<|QB _<|Qu.2 rfl;rw [lla,Qz] at hl;refine .gdI (by simp;omega) (.gdD ⟨by simp,by omega⟩<|.gdD ⟨Qt _,by simp,by omega⟩ ?_);rw [hcur,hcut];refine Nk.bind (P:=λo=>o=if M.dn s then outs++[M.oc s] else outs) ?_ λo ho=>?_
   ·refine (R.dn s hre).bind λb hb=>?_;subst hb;refine .bif (λhb=>(R.oc s hre hb).bind λo ho => .gd (MC (by omega) rfl)<|.pure ?_) λhb => .pure ?_
    ·rw [if_pos hb,ho]
    rw [if_neg (by rw [hb];decide)]
   have h3:=h2.pop ho;refine (R.mv s hre).bind λv27 e27=>?_;subst e27;refine (GM K R hN (outs:=outs) h3).mono λz ⟨V',stk2,e,g1,g2,g3⟩ => ?_;subst e;have hV2:=K.cnt V' g1.nd g1.rea;refine ⟨⟨V',rfl,g1⟩,?_⟩;simp only [kys,llm,lla,Qz];omega
  refine .pure ⟨V,rfl,?_⟩;have : stk=[]:=List.eq_nil_of_length_eq_zero (by omega);subst this;exact h2
 have hV:=K.cnt V w2.nd w2.rea;have hl:=w2.len;refine (hs w.2 (by omega) λo ho=>(w2.ends.1 o).1 ho).bind λq hq => .pure ⟨w.2,hq,w2.ends.1,V,w2.nd,w2.ends.2,?_⟩;rw [w1];simp [kys]
end
theorem GN {σ:Type} (f:σ->Nat) (m:Nat):∀ (V:List σ),V.Nodup->(∀ v∈V,f v<m)->(∀ u∈V,∀ v∈V,f u=f v->u=v)->V.length<=m:=λV hn hl hi=>by
 have h1:(V.map f).Nodup:=by
  rw [List.nodup_iff_pairwise_ne] at hn ⊢;rw [List.pairwise_map];exact hn.imp_of_mem λ{a b} ha hb hne e=>hne<|hi a ha b hb e
 have := List.Nodup.length_le_of_subset h1 (l₂:=Qv m) λx hx=>by
  obtain ⟨v,hv,rfl⟩:=Qx.1 hx;exact QK.2<|hl v hv
 simpa using this
def qM:List (Nat×Nat)->Nat
 | []=>0
 | (d,b)::l=>d+b*qM l
def Dw:List (Nat×Nat)->Nat
 | []=>1
 | (_,b)::l=>b*Dw l
theorem Co:∀ (l:List<|Nat×Nat),(∀ x∈l,x.1<x.2)->qM l<Dw l
 | [],_=>Nat.one_pos
 | (d,b)::l,h=>by
  have h1:d<b:=h _ QL;have h2:=Co l λx hx=>h x<|QM _ hx;show d+b*qM l<b*Dw l;have h3:b*(qM l+1)<=b*Dw l:=Nat.mul_le_mul_left _ h2;rw [Nat.mul_add,Nat.mul_one] at h3;omega
theorem zS:∀ (l k:List<|Nat×Nat),l.map (·.2)=k.map (·.2)->(∀ x∈l,x.1<x.2)->(∀ x∈k,x.1<x.2)->qM l=qM k->l=k
 | [],[],_,_,_,_=>rfl
 | [],_::_,h,_,_,_=>by cases h
 | _::_,[],h,_,_,_=>by cases h
 | (d,b)::l,(d',b')::k,h,hl,hk,e=>by
  injection h with hb ht;simp only at hb;subst hb;have h1:d<b:=hl _ QL;have h2:d'<b:=hk _ QL;have e:d+b*qM l=d'+b*qM k:=e;have hd:d=d':=by
   have := congrArg (· % b) e;simp only [Nat.add_mul_mod_self_left,Nat.mod_eq_of_lt h1,Nat.mod_eq_of_lt h2] at this;exact this
  subst hd;have hc:qM l=qM k:=Nat.eq_of_mul_eq_mul_left (by omega) (by omega:b*qM l=b*qM k);rw [zS l k ht (λx hx=>hl x<|QM _ hx) (λx hx=>hk x<|QM _ hx) hc]
def ltL (x y:LI):Prop:=cmpL x y<0
theorem Jq {x y:LI}:leL x y=true↔ltL x y\/x=y:=by
 unfold leL ltL;rw [dte];rcases p9 x y with h | h | h
 ·exact ⟨λ_ => .inl h,λ_=>by have := p7 x y;omega⟩
 ·exact ⟨λ_ => .inr h,λ_=>by rw [h,mU];decide⟩
 refine ⟨λg=>absurd h g,λg=>?_⟩;rcases g with g | g
 ·have := p7 x y;omega
 rw [g,mU] at h;exact absurd h (by decide)
theorem KP {x y:LI} (h:ltL x y):x≠y:=by
 rintro rfl;unfold ltL at h;rw [mU] at h;exact absurd h (by decide)
structure Sor (l q:List (List Int)):Prop where
 lt:q.Pairwise ltL
 mem:∀ o,o∈q↔o∈l
 len:q.length<=l.length
theorem Cq {l c:LL} {n:Nat} (hs:l.Pairwise λx y=>leL x y=true) (h:c.Pairwise ltL) (hm:∀ o,o∈c↔o∈l.take n) (h0:0<n) (hn:n<l.length) (hne:l.getD n default≠l.getD (n-1) default) :
  (c++[l.getD n default]).Pairwise ltL/\∀ o,o∈c++[l.getD n default]↔o∈l.take (n+1):=by
 have e1:l.getD n default=l[n]:=by simp [hn]
 have e2:l.getD (n-1) default=l[n-1]:=by simp [List.getD,show n-1<l.length by omega]
 rw [e1] at hne ⊢;rw [e2] at hne;have hp:=List.pairwise_iff_getElem.1 hs;refine ⟨List.pairwise_append.2 ⟨h,by simp,λy hy x hx=>?_⟩,λo=>?_⟩
 ·rw [Qu.1 hx];obtain ⟨j,hj,rfl⟩:=QR<|(hm y).1 hy;have hjn:j<n:=Nat.lt_of_lt_of_le (show j<min n l.length by simpa using hj)<|Nat.min_le_left _ _;rw [List.getElem_take];rcases Jq.1 (hp j n (by omega) hn hjn) with g | g
  ·exact g
  exfalso;apply hne
  by_cases hj1:j=n-1
  ·subst hj1;exact g.symm
  exact Cj _ _ (g ▸ hp j (n-1) (by omega) (by omega) (by omega))<|hp (n-1) n (by omega) hn (by omega)
 rw [Qy,hm,QF,Qy,geq hn];simp
theorem Cr {l:LL} {n:Nat} (h0:0<n) (hn:n<l.length) (he:l.getD n default=l.getD (n-1) default) (o:LI):o∈l.take (n+1)↔o∈l.take n:=by
 have e1:l.getD n default=l[n]:=by simp [hn]
 have e2:l.getD (n-1) default=l[n-1]:=by simp [List.getD,show n-1<l.length by omega]
 rw [e1,e2] at he;rw [QF,Qy,geq hn];refine ⟨λh=>h.elim id λh=>?_,.inl⟩;have : o=l[n-1]:=by simpa [he] using h
 rw [this];exact List.mem_iff_getElem.2 ⟨n-1,by simp;omega,by simp⟩
theorem Fq (a b:LI) (ha:a.length<=1048576):Nk (dW a b) (· = decide (a=b)):=by
 unfold dW;refine .bif (λh => .pure ?_) λh=>?_
 ·have h:a.length≠b.length:=by
   intro e;rw [e] at h;simp at h
  rw [decide_eq_false (λe=>h<|by rw [e])]
 have h:a.length=b.length:=by
  have : (a.length:Int)=(b.length:Int):=by simpa using h
  omega
 refine Nk.sum (PS:=λ_=>a=b) (PW:=λv=>v=decide (a=b)) ?_ λ_ he => .pure (by rw [decide_eq_true he]);refine Nk.loop (λi=>0<=i/\i<=(a.length:Int)/\∀ j:Nat,(j:Int)<i->a[j]? = b[j]?) (λi=>((a.length:Int)-i).toNat) ⟨Qt _,by omega,λj hj=>absurd hj<|by omega⟩ λi ⟨h1,h2,h3⟩ => ?_;unfold iP;refine .bifD (λhlt => .gdD ⟨h1,hlt⟩<|.gdD ⟨h1,by omega⟩ ?_) λhge => .pure ?_
 ·have hi:i.toNat<a.length:=by omega
  have hib:i.toNat<b.length:=by omega
  have ea:a.getD i.toNat default=a[i.toNat]:=by simp [hi]
  have eb:b.getD i.toNat default=b[i.toNat]:=by simp [hib]
  rw [ea,eb];refine .bif (λhb => .pure ?_) λhb => .gdI (by omega)<|.pure ⟨⟨by omega,by omega,λj hj=>?_⟩,by omega⟩
  ·simp only [bne_iff_ne] at hb;have : a≠b:=λe=>hb (by simp [e]);simp only [];rw [decide_eq_false this]
  by_cases ej:j=i.toNat
  ·subst ej;rw [geq hi,geq hib];have : a[i.toNat]=b[i.toNat]:=by simpa using hb
   rw [this]
  exact h3 j (by omega)
 simp only [];apply List.ext_getElem?;intro j;rcases QJ j a.length with g | g
 ·exact h3 j (by omega)
 rw [gen g,gen (by omega)]
theorem Fs (a b:LI) (ha:a.length<=1048576):Nk (cE a b) (· = decide (a=b)):=by
 unfold cE;exact (Fq a b ha).bind λv hv => .pure hv
theorem Bf {l:LL} (hs:l.Pairwise λx y=>leL x y=true) (hl:l.length<=1099511627776) (hr:∀ r∈l,r.length<=1048576):Nk (aN l) (Sor l):=by
 have hrD:∀ n,(l.getD n default).length<=1048576:=λn=>by
  by_cases hn:n<l.length
  ·have : l.getD n default=l[n]:=by simp [hn]
   rw [this];exact hr _<|QA hn
  rw [gdq,gen (by omega)];exact Nat.zero_le _
 unfold aN;refine .bifD (λh => .pure ⟨?_,λ_=>Iff.rfl,QC _⟩) λh=>?_
 ·match l,h with
  | [],_=>exact .nil
  | [x],_=>simp
  | _::_::_,h=>simp at h;omega
 have h2:2<=l.length:=by omega
 refine Nk.sum (PS:=λq=>Sor l q) (PW:=λq=>Sor l q) ?_ λq hq => .pure hq;refine Nk.loop (λs=>s.1=l/\1<=s.2/\s.2<=(l.length:Int)/\(l.take s.2.toNat).Pairwise ltL) (λs=>((l.length:Int)-s.2).toNat) ⟨rfl,Qt _,by simp only [];omega,?_⟩ λs ⟨e,h1,h3,h4⟩ => ?_
 ·match l,h2 with
  | x::_,_=>simp
 obtain ⟨c,k⟩:=s;simp only at e h1 h3 h4;subst e;unfold aV;simp only [];refine .bifD (λhlt=>?_) λhge => .pure ?_
 rotate_left
 ·have : k.toNat=c.length:=by omega
  rw [this,List.take_length] at h4;exact ⟨h4,λ_=>Iff.rfl,QC _⟩
 have hk1:(k-1).toNat=k.toNat-1:=by omega
 refine Nk.sum (PS:=λ_=>c.getD k.toNat default≠c.getD (k.toNat-1) default) ?_ λ_ hne => .gdI (by omega)<|.pure ⟨⟨rfl,by simp only [];omega,by simp only [];omega,?_⟩,by simp only [];omega⟩
 rotate_left
 ·have := (Cq hs h4 (λ_=>Iff.rfl) (by omega) (by omega) hne).1;simp only [];rw [show (k+1).toNat=k.toNat+1 by omega,QF,geq (by omega)];rw [show c.getD k.toNat default=c[k.toNat]'(by omega) by simp [show k.toNat<c.length by omega]] at this;simpa using this
 refine .gdD ⟨by omega,hlt⟩<|.gdI (by omega)<|.gdD ⟨by omega,by omega⟩<|(Fs _ _<|hrD _).bind λv hv=>?_;subst hv;rw [hk1];refine .bifD (λhe=>?_) λhne => .pure hne;refine .gdD ⟨by omega,by omega,Qt _⟩ ?_;refine Nk.bind (P:=λz=>(k<=z.2/\z.2<=(c.length:Int))/\z.1.length=c.length/\(z.1.take z.2.toNat).Pairwise ltL/\∀ o,o∈z.1.take z.2.toNat↔o∈c) ?_ λz ⟨⟨z1,z2⟩,z3,z4,z5⟩ => .gdD ⟨by omega,by omega,Qt _⟩<|.gdD ⟨Qt _,by omega,by omega⟩<|.pure ?_
 rotate_left
 ·have e1:(((cpy z.1 (0+z.2.toNat) (QD ((z.1.length:Int).toNat-z.2.toNat) (default:LI))<|(z.1.length:Int).toNat-z.2.toNat).drop (0:Int).toNat).take<|z.2.toNat-(0:Int).toNat)=z.1.take z.2.toNat:=by
   simp only [cpy,Nat.zero_add,show (0:Int).toNat=0 from rfl,List.drop_zero,Nat.sub_zero];rw [if_pos (by omega),QN,List.take_append_of_le_length (by rw [List.length_take];omega),List.take_take,Nat.min_self]
  simp only [];rw [e1];exact ⟨z4,z5,by simp;omega⟩
 refine Nk.loop (λs=>(1<=s.2.1/\k+s.2.1<=(c.length:Int))/\(k<=s.2.2/\s.2.2<=k+s.2.1-1)/\s.1.length=c.length/\(∀ j:Nat,k+s.2.1-1<=(j:Int)->s.1[j]? = c[j]?)/\(s.1.take s.2.2.toNat).Pairwise ltL/\∀ o,o∈s.1.take s.2.2.toNat↔o∈c.take (k+s.2.1).toNat) (λs=>((c.length:Int)-k-s.2.1).toNat) ⟨⟨Qt _,by simp only [];omega⟩,⟨Qt _,by simp only [];omega⟩,rfl,λ_ _=>rfl,h4,λo=>?_⟩ λs ⟨⟨a1,a2⟩,⟨a3,a4⟩,a5,a6,a7,a8⟩ => ?_
 ·simp only [];rw [show (k+1).toNat=k.toNat+1 by omega];exact (Cr (by omega) (by omega) he o).symm
 obtain ⟨d,k2,kk⟩:=s;simp only at a1 a2 a3 a4 a5 a6 a7 a8;unfold aS;simp only [];have hz:((((c.length:Int).toNat-k.toNat:Nat)):Int)=(c.length:Int)-k:=by omega
 rw [hz];refine .bifD (λhlt2=>?_) λhge => .pure ⟨⟨a3,by simp only [];omega⟩,a5,a7,λo=>?_⟩
 rotate_left
 ·rw [a8,show (k+k2).toNat=c.length by omega,List.take_length]
 have g1:d.getD (0+k.toNat+k2.toNat) default=c.getD (k+k2).toNat default:=by
  rw [gdq,gdq,a6 _ (by omega),show 0+k.toNat+k2.toNat=(k+k2).toNat by omega]
 have g2:d.getD (0+k.toNat+(k2-1).toNat) default=c.getD ((k+k2).toNat-1) default:=by
  rw [gdq,gdq,a6 _ (by omega),show 0+k.toNat+(k2-1).toNat=(k+k2).toNat-1 by omega]
 have hn1:(k+(k2+1)).toNat=(k+k2).toNat+1:=by omega
 refine Nk.bind (P:=λz=>(k<=z.2/\z.2<=k+k2)/\z.1.length=c.length/\(∀ j:Nat,k+k2<=(j:Int)->z.1[j]? = c[j]?)/\(z.1.take z.2.toNat).Pairwise ltL/\∀ o,o∈z.1.take z.2.toNat↔o∈c.take ((k+k2).toNat+1)) ?_ λz ⟨⟨z1,z2⟩,z3,z4,z5,z6⟩ => .gdI (by omega)<|.pure ⟨⟨⟨by simp only [];omega,by simp only [];omega⟩,⟨z1,by simp only [];omega⟩,z3,λj hj=>z4 j (by simp only [] at hj;omega),z5,by simp only [hn1];exact z6⟩,by simp only [];omega⟩;refine .gdD ⟨⟨by omega,by omega⟩,by omega⟩<|.gdI (by omega)<|.gdD ⟨⟨by omega,by omega⟩,by omega⟩ ?_;rw [g1,g2];refine (Fs _ _<|hrD _).bind λv hv=>?_;subst hv;rw [<- decide_not];refine .bifD (λhne=>?_) λhe2 => .pure ⟨⟨a3,by simp only [];omega⟩,a5,λj hj=>a6 j (by omega),a7,λo=>?_⟩
 ·have hkl:kk.toNat<d.length:=by omega
  refine .gdD ⟨by omega,by omega⟩<|.gdI (by omega)<|.pure ⟨⟨by simp only [];omega,by simp only [];omega⟩,by simp [a5],λj hj=>?_,?_⟩
  ·simp only [];rw [List.getElem?_set_ne (by omega)];exact a6 j (by omega)
  have e:(d.set kk.toNat<|c.getD (k+k2).toNat default).take (kk+1).toNat=d.take kk.toNat++[c.getD (k+k2).toNat default]:=by
   rw [show (kk+1).toNat=kk.toNat+1 by omega,QF,List.getElem?_set_self hkl,List.take_set_of_le (QC _)]
   rfl
  simp only [];rw [e];exact Cq hs a7 a8 (by omega) (by omega) hne
 simp only [];rw [a8];exact (Cr (by omega) (by omega) (Decidable.not_not.1 he2) o).symm
theorem tu {l:LL} (hl:l.length<=1099511627776) (hr:∀ r∈l,r.length<=1048576):Nk (aR l) (Sor l):=by
 unfold aR;refine Nk.bind (P:=(· = zR l)) ?_ λv hv=>?_
 ·unfold fg;exact .gdD (by omega)<|.pure rfl
 subst hv;have hp:=lS l;refine (Bf (vT l) (by rw [hp.length_eq];exact hl) λr h=>hr r<|hp.mem_iff.1 h).bind λv ⟨v1,v2,v3⟩ => .pure ⟨v1,λo=>(v2 o).trans hp.mem_iff,by rw [<- hp.length_eq];exact v3⟩
structure Iv (p:List (List Nf)) (u:Ng):Prop where
 up:u.p=p
 pc:∀ t:Nat,t<3->0<=Z3b.get u.pc t/\Z3b.get u.pc t<=((p.getD t default).length:Int)
 rv:∀ t g:Nat,t<3->g<3->0<=Z3b.get (Z33.get u.reg t) g/\Z3b.get (Z33.get u.reg t) g<=3
 mv:∀ l:Nat,l<3->0<=Z3b.get u.mem l/\Z3b.get u.mem l<=3
def qf (u:Ng) (t:Nat):Bool:=decide<|Z3b.get u.pc t<((u.p.getD t default).length:Int)
def Ef (u:Ng) (n:Nat):LI:=((Qv n).filter<|qf u).map Int.ofNat
def tv (u:Ng):LI:=Ef u u.p.length
def jl (u:Ng) (t:Int):Nf:=(u.p.getD t.toNat default).getD (Z3b.get u.pc t).toNat default
def tz (u:Ng) (n:Nat):LI:=(Qv n).flatMap λt:Nat=>(Qv 3).map λg:Nat=>Z3b.get (Z33.get u.reg t) g
def Ks (u:Ng):LI:=(Qv 3).map λl:Nat=>Z3b.get u.mem l
def xc (u:Ng):LI:=tz u u.p.length++Ks u
def keyL (u:Ng):LI:=[u.pc.x0,u.pc.x1,u.pc.x2,u.reg.x0.x0,u.reg.x0.x1,u.reg.x0.x2,u.reg.x1.x0,u.reg.x1.x1,u.reg.x1.x2,u.reg.x2.x0,u.reg.x2.x1,u.reg.x2.x2,u.mem.x0,u.mem.x1,u.mem.x2]
def KQ:Mac Nh where
 mv s:=tv s.values
 af s t:=⟨Fj s.values t<|jl s.values t⟩
 ky s:=strOfNums<|keyL s.values
 dn s:=(tv s.values).isEmpty
 oc s:=xc s.values
section
variable {p:List (List Nf)} {u:Ng}
theorem jm {n:Nat} {m:Int}:m∈Ef u n↔∃ t:Nat,t<n/\m=t/\qf u t=true:=by
 unfold Ef;rw [Qx]
 constructor
 ·rintro ⟨t,ht,rfl⟩;rw [List.mem_filter,QK] at ht;exact ⟨t,ht.1,rfl,ht.2⟩
 rintro ⟨t,h1,rfl,h2⟩;exact ⟨t,List.mem_filter.2 ⟨QK.2 h1,h2⟩,rfl⟩
theorem vV (n:Nat):Ef u (n+1)=if qf u n=true then Ef u n++[(n:Int)] else Ef u n:=by
 unfold Ef;rw [QG,List.filter_append,QO]
 split
 ·rename_i h;rw [List.filter_cons_of_pos h]
  rfl
 rename_i h;rw [List.filter_cons_of_neg h];simp
theorem Cs (n:Nat):(Ef u n).length<=n:=by
 unfold Ef;rw [llm];exact Nat.le_trans (List.length_filter_le _ _) (by simp)
theorem Bg (hp:PV p) (h:Iv p u) {t:Nat} (ht:t<p.length):Nk (bu u t) λv=>v.2=qf u t/\(v.2=true->v.1=jl u t):=by
 have hl:=hp.vs.1;have hr:=hp.vs.2 t;have h1:=h.pc t (by omega);unfold bu qf jl;rw [h.up];simp only [tnn];refine .gdD ⟨by omega,by omega⟩<|.gdI (by omega)<|.gdD ⟨by omega,by omega⟩<|.bifD (λhle => .pure ⟨?_,nofun⟩) λhle => .gdD ⟨h1.1,by omega⟩<|.pure ⟨?_,λ_=>rfl⟩
 ·rw [decide_eq_false (by omega)]
 rw [decide_eq_true (by omega)]
theorem KR (hp:PV p) (h:Iv p u):Nk (eB ⟨u⟩) (· = tv u):=by
 have hl:=hp.vs.1;unfold eB;refine Nk.bind (P:=(· = tv u)) ?_ λv hv => .pure hv;refine Nk.loop (λs=>(0<=s.2/\s.2<=(p.length:Int))/\s.1=Ef u s.2.toNat) (λs=>((p.length:Int)-s.2).toNat) ⟨⟨Qt _,by simp only [];omega⟩,rfl⟩ λs ⟨⟨h1,h2⟩,h3⟩ => ?_;unfold iZ;simp only [h.up];refine .bifD (λhlt=>?_) λhge => .pure ?_
 ·obtain ⟨l,i⟩:=s;simp only at h1 h2 h3 hlt;obtain ⟨n,rfl⟩:∃ n:Nat,i=n:=⟨i.toNat,by omega⟩;simp only [tnn] at h3;subst h3;have hln:=Cs (u:=u) n;refine Nk.bind (P:=(· = Ef u (n+1))) ?_ λv hv => .gdI (by omega)<|.pure ⟨⟨⟨by simp only [];omega,by simp only [];omega⟩,hv⟩,by simp only [];omega⟩;refine (Bg hp h<|by omega).bind λv ⟨e1,_⟩ => .bif (λhb => .gd (dY (by simp only [];omega) rfl)<|.pure ?_) λhb => .pure ?_
  ·rw [vV,if_pos (by rw [<- e1,hb])]
  rw [vV,if_neg (by rw [<- e1,hb];decide)]
 rw [h3];unfold tv;rw [h.up,show s.2.toNat=p.length by omega]
theorem KS (hp:PV p) (h:Iv p u):Nk (di ⟨u⟩) (· = (tv u).isEmpty):=by
 have hl:=hp.vs.1;unfold di;refine Nk.bind (P:=(· = (tv u).isEmpty)) ?_ λv hv => .pure hv;unfold bC;refine Nk.sum (PS:=λ_=>tv u=[]) (PW:=(· = (tv u).isEmpty)) ?_ λ_ hn => .pure (by rw [hn];rfl);refine Nk.loop (λi=>(0<=i/\i<=(p.length:Int))/\Ef u i.toNat=[]) (λi=>((p.length:Int)-i).toNat) ⟨⟨Qt _,by omega⟩,rfl⟩ λi ⟨⟨h1,h2⟩,h3⟩ => ?_;unfold jd;simp only [h.up];refine .bifD (λhlt=>?_) λhge => .pure ?_
 ·obtain ⟨n,rfl⟩:∃ n:Nat,i=n:=⟨i.toNat,by omega⟩;simp only [tnn] at h3;refine (Bg hp h<|by omega).bind λv ⟨e1,_⟩ => .bif (λhb => .pure ?_) λhb => .gdI (by omega)<|.pure ⟨⟨⟨by omega,by omega⟩,?_⟩,by omega⟩
  ·have hm:(n:Int)∈tv u:=jm.2 ⟨n,by rw [h.up];omega,rfl,by rw [<- e1,hb]⟩
   cases e:tv u with
   | nil=>rw [e] at hm;cases hm
   | cons a l=>rfl
  rw [show ((n:Int)+1).toNat=n+1 by omega,vV,if_neg (by rw [<- e1,hb];decide),h3]
 simp only [];unfold tv;rw [h.up,<- show i.toNat=p.length by omega,h3]
theorem xW (n:Nat):tz u (n+1)=tz u n++(Qv 3).map λg:Nat=>Z3b.get (Z33.get u.reg n) g:=by
 unfold tz;rw [show Qv (n+1)=Qv n++[n] from QG,List.flatMap_append];simp
theorem vW (n:Nat):(tz u n).length=3*n:=by
 induction n with
 | zero=>rfl
 | succ n ih=>rw [xW,lla,ih];simp;omega
theorem yH (hp:PV p) (h:Iv p u):Nk (aQ u) (· = xc u):=by
 have hl:=hp.vs.1;unfold aQ;refine Nk.bind (P:=(· = tz u p.length)) ?_ λv hv=>?_
 ·refine Nk.loop (λs=>(0<=s.2/\s.2<=(p.length:Int))/\s.1=tz u s.2.toNat) (λs=>((p.length:Int)-s.2).toNat) ⟨⟨Qt _,by simp only [];omega⟩,rfl⟩ λs ⟨⟨h1,h2⟩,h3⟩ => ?_;unfold cn;simp only [h.up];refine .bifD (λhlt=>?_) λhge => .pure ?_
  ·obtain ⟨l,i⟩:=s;simp only at h1 h2 h3 hlt;obtain ⟨n,rfl⟩:∃ n:Nat,i=n:=⟨i.toNat,by omega⟩;simp only [tnn] at h3;subst h3;have hln:=vW (u:=u) n;refine Nk.bind (P:=(· = tz u (n+1))) ?_ λv hv => .gdI (by omega)<|.pure ⟨⟨⟨by simp only [];omega,by simp only [];omega⟩,hv⟩,by simp only [];omega⟩;refine .gdD ⟨by omega,by omega⟩<|Nk.loop (λs=>(0<=s.2/\s.2<=3)/\s.1=tz u n++(Qv s.2.toNat).map λg:Nat=>Z3b.get (Z33.get u.reg n) g) (λs=>((3:Int)-s.2).toNat) ⟨⟨Qt _,(by decide:(0:Int)<=3)⟩,by simp⟩ λs ⟨⟨a1,a2⟩,a3⟩ => ?_;unfold eP;simp only [];refine .bifD (λhlt=>?_) λhge => .pure ?_
   ·obtain ⟨l,j⟩:=s;simp only at a1 a2 a3 hlt;obtain ⟨g,rfl⟩:∃ g:Nat,j=g:=⟨j.toNat,by omega⟩;simp only [tnn] at a3;subst a3;have hv:=h.rv n g (by omega) (by omega);refine .gdD ⟨by omega,hlt⟩<|.gdI (by first | omega | (simp only [];omega))<|.gd (dY (by simp;omega) rfl)<|.gdI (by omega)<|.pure ⟨⟨⟨by simp only [];omega,by simp only [];omega⟩,?_⟩,by simp only [];omega⟩;simp only [];rw [show ((g:Int)+1).toNat=g+1 by omega,QG,QO,<- QN]
    rfl
   rw [a3,xW,show s.2.toNat=3 by omega]
  rw [h3,show s.2.toNat=p.length by omega]
 subst hv;refine Nk.bind (P:=(· = xc u)) ?_ λv hv => .pure hv;have hln:=vW (u:=u) p.length;refine Nk.loop (λs=>(0<=s.2/\s.2<=3)/\s.1=tz u p.length++(Qv s.2.toNat).map λg:Nat=>Z3b.get u.mem g) (λs=>((3:Int)-s.2).toNat) ⟨⟨Qt _,(by decide:(0:Int)<=3)⟩,by simp⟩ λs ⟨⟨a1,a2⟩,a3⟩ => ?_;unfold bZ;refine .bifD (λhlt=>?_) λhge => .pure ?_
 ·obtain ⟨l,j⟩:=s;simp only at a1 a2 a3 hlt;obtain ⟨g,rfl⟩:∃ g:Nat,j=g:=⟨j.toNat,by omega⟩;simp only [tnn] at a3;subst a3;have hv:=h.mv g (by omega);refine .gdD ⟨by omega,hlt⟩<|.gdI (by first | omega | (simp only [];omega))<|.gd (dY (by simp;omega) rfl)<|.gdI (by omega)<|.pure ⟨⟨⟨by simp only [];omega,by simp only [];omega⟩,?_⟩,by simp only [];omega⟩;simp only [];rw [show ((g:Int)+1).toNat=g+1 by omega,QG,QO,<- QN]
  rfl
 rw [a3,show s.2.toNat=3 by omega];unfold xc Ks;rw [h.up]
theorem Ct (u:Ng):Nk (dh ⟨u⟩) (· = strOfNums (keyL u)):=by
 unfold dh bW;refine Nk.bind (P:=(· = strOfNums (keyL u))) (.gd rfl ?_) λv hv => .pure hv;refine Nk.bind (P:=λl=>l=[u.pc.x0,u.pc.x1,u.pc.x2,u.reg.x0.x0,u.reg.x0.x1,u.reg.x0.x2,u.reg.x1.x0,u.reg.x1.x1,u.reg.x1.x2,u.reg.x2.x0,u.reg.x2.x1,u.reg.x2.x2]) ?_ λv hv=>?_
 ·refine Nk.of (v:=[u.pc.x0,u.pc.x1,u.pc.x2,u.reg.x0.x0,u.reg.x0.x1,u.reg.x0.x2,u.reg.x1.x0,u.reg.x1.x1,u.reg.x1.x2,u.reg.x2.x0,u.reg.x2.x1,u.reg.x2.x2]) ?_ rfl
  exact rJ (step:=ib u) (λi=>match i with
   | 0=>([u.pc.x0,u.pc.x1,u.pc.x2],0)
   | 1=>([u.pc.x0,u.pc.x1,u.pc.x2,u.reg.x0.x0,u.reg.x0.x1,u.reg.x0.x2],1)
   | 2=>([u.pc.x0,u.pc.x1,u.pc.x2,u.reg.x0.x0,u.reg.x0.x1,u.reg.x0.x2,u.reg.x1.x0,u.reg.x1.x1,u.reg.x1.x2],2)
   | _=>([u.pc.x0,u.pc.x1,u.pc.x2,u.reg.x0.x0,u.reg.x0.x1,u.reg.x0.x2,u.reg.x1.x0,u.reg.x1.x1,u.reg.x1.x2,u.reg.x2.x0,u.reg.x2.x1,u.reg.x2.x2],3)) 3 (λi hi=>match i,hi with
   | 0,_=>rfl
   | 1,_=>rfl
   | 2,_=>rfl) rfl
 subst hv;exact .gd rfl<|.pure rfl
theorem nK:∀ {l k:LI},(∀ x∈l,0<=x/\x<=255)->(∀ x∈k,0<=x/\x<=255)->strOfNums l=strOfNums k->l=k:=λ{l k} hl hk h=>by
 have h1:(l.map λn=>UInt8.ofNat n.toNat)=k.map λn=>UInt8.ofNat n.toNat:=by
  rw [<- strOfNums_data,<- strOfNums_data,h]
 have h2:(l.map λn=>UInt8.ofNat n.toNat).map (λb=>(b.toNat:Int))=(k.map λn=>UInt8.ofNat n.toNat).map (λb=>(b.toNat:Int)):=by rw [h1]
 have back:∀ l:LI,(∀ x∈l,0<=x/\x<=255)->(l.map λn=>UInt8.ofNat n.toNat).map (λb=>(b.toNat:Int))=l:=λl hl=>by
  rw [QE]
  conv=>rhs;rw [<- QP l]
  refine QQ λx hx=>?_;have := hl x hx;simp only [Function.comp,UInt8.toNat_ofNat',id];omega
 rwa [back l hl,back k hk] at h2
theorem ME (a:Z3b):Z3b.get a ((0:Nat):Int)=a.x0:=rfl
theorem MF (a:Z3b):Z3b.get a ((1:Nat):Int)=a.x1:=rfl
theorem MG (a:Z3b):Z3b.get a ((2:Nat):Int)=a.x2:=rfl
theorem Iv.keyL (hp:PV p) (h:Iv p u):∃ d:List Nat,Go.Proofs.YtjcmfddobaplbaaGreat.keyL u=d.map Int.ofNat/\d.length=15/\∀ x∈d.zip [8,8,8,4,4,4,4,4,4,4,4,4,4,4,4],x.1<x.2:=by
 have e:∀ x:Int,0<=x->x=Int.ofNat x.toNat:=λx hx=>(Int.toNat_of_nonneg hx).symm;have hv:=hp.vs.2;have p0:=h.pc 0 (by decide);have p1:=h.pc 1 (by decide);have p2:=h.pc 2 (by decide);have v0:=hv 0;have v1:=hv 1;have v2:=hv 2;have r00:=h.rv 0 0 (by decide) (by decide);have r01:=h.rv 0 1 (by decide) (by decide);have r02:=h.rv 0 2 (by decide) (by decide);have r10:=h.rv 1 0 (by decide) (by decide);have r11:=h.rv 1 1 (by decide) (by decide);have r12:=h.rv 1 2 (by decide) (by decide);have r20:=h.rv 2 0 (by decide) (by decide);have r21:=h.rv 2 1 (by decide) (by decide);have r22:=h.rv 2 2 (by decide) (by decide);have m0:=h.mv 0 (by decide);have m1:=h.mv 1 (by decide);have m2:=h.mv 2 (by decide);change 0<=u.pc.x0/\u.pc.x0<=_ at p0;change 0<=u.pc.x1/\u.pc.x1<=_ at p1;change 0<=u.pc.x2/\u.pc.x2<=_ at p2;change 0<=u.reg.x0.x0/\u.reg.x0.x0<=_ at r00;change 0<=u.reg.x0.x1/\u.reg.x0.x1<=_ at r01;change 0<=u.reg.x0.x2/\u.reg.x0.x2<=_ at r02;change 0<=u.reg.x1.x0/\u.reg.x1.x0<=_ at r10;change 0<=u.reg.x1.x1/\u.reg.x1.x1<=_ at r11;change 0<=u.reg.x1.x2/\u.reg.x1.x2<=_ at r12;change 0<=u.reg.x2.x0/\u.reg.x2.x0<=_ at r20;change 0<=u.reg.x2.x1/\u.reg.x2.x1<=_ at r21;change 0<=u.reg.x2.x2/\u.reg.x2.x2<=_ at r22;change 0<=u.mem.x0/\u.mem.x0<=_ at m0;change 0<=u.mem.x1/\u.mem.x1<=_ at m1;change 0<=u.mem.x2/\u.mem.x2<=_ at m2;refine ⟨(Go.Proofs.YtjcmfddobaplbaaGreat.keyL u).map Int.toNat,?_,rfl,?_⟩
 ·unfold Go.Proofs.YtjcmfddobaplbaaGreat.keyL;simp only [List.map_cons,List.map_nil];rw [<- e _ p0.1,<- e _ p1.1,<- e _ p2.1,<- e _ r00.1,<- e _ r01.1,<- e _ r02.1,<- e _ r10.1,<- e _ r11.1,<- e _ r12.1,<- e _ r20.1,<- e _ r21.1,<- e _ r22.1,<- e _ m0.1,<- e _ m1.1,<- e _ m2.1]
 unfold Go.Proofs.YtjcmfddobaplbaaGreat.keyL;simp only [List.map_cons,List.map_nil,List.zip_cons_cons,List.zip_nil_left,List.mem_cons,List.not_mem_nil,or_false,forall_eq_or_imp,forall_eq];refine ⟨?_,?_,?_,?_,?_,?_,?_,?_,?_,?_,?_,?_,?_,?_,?_⟩ <;> omega
theorem uT {u v:Ng} (hp:u.p=v.p) (h:keyL u=keyL v):u=v:=by
 obtain ⟨p,⟨a0,a1,a2⟩,⟨⟨b0,b1,b2⟩,⟨c0,c1,c2⟩,⟨d0,d1,d2⟩⟩,⟨e0,e1,e2⟩⟩:=u;obtain ⟨p',⟨a0',a1',a2'⟩,⟨⟨b0',b1',b2'⟩,⟨c0',c1',c2'⟩,⟨d0',d1',d2'⟩⟩,⟨e0',e1',e2'⟩⟩:=v;simp only [keyL,List.cons.injEq,and_true] at h;obtain ⟨rfl,rfl,rfl,rfl,rfl,rfl,rfl,rfl,rfl,rfl,rfl,rfl,rfl,rfl,rfl⟩:=h;simp only at hp;subst hp
 rfl
end
section
variable {p:List (List Nf)} {u:Ng}
theorem Iv.ins (hp:PV p) (h:Iv p u) {t:Nat} (ht:t<p.length) (hc:qf u t=true):InR (jl u t):=by
 have hl:=hp.vs.1;have h1:=h.pc t (by omega);unfold qf at hc;rw [h.up] at hc;have hc:=of_decide_eq_true hc;unfold jl;rw [h.up,tnn];exact hp.ins t _ ht (by omega)
theorem KT (hp:PV p) (h:Iv p u) {t:Nat} (ht:t<p.length) (hc:qf u t=true):Nk (eC ⟨u⟩ t) (· = ⟨Fj u t<|jl u t⟩):=by
 have hl:=hp.vs.1;have hr7:=hp.vs.2 t;have h1:=h.pc t (by omega);have hx:=h.ins hp ht hc;unfold eC;refine (Bg hp h ht).bind λv ⟨e1,e2⟩ => ?_;have e3:=e2<|e1.trans hc;rw [<- e3] at hx ⊢;generalize v.1=x at hx ⊢;obtain ⟨x1,x2,x3,x4,x5,x6⟩:=hx;refine .gdD ⟨by omega,by omega⟩<|.gdY (by simp only [];omega) ?_;refine Nk.bind (P:=(· = sF u t x)) ?_ λv4 hv4=>?_
 ·unfold bI sF;refine .bif (λho => .gdD ⟨by omega,by omega⟩<|.gdD ⟨x3,by simp only [];omega⟩<|.pure ?_) λho => .gdY (by simp only [];omega) (.pure ?_)
  ·rw [if_pos (by simpa using ho)]
  rw [if_neg (by simpa using ho)]
 subst hv4;refine Nk.bind (P:=λw=>(⟨⟨w.1,w.2.1,w.2.2.1⟩,⟨w.2.2.2.1,w.2.2.2.2.1,w.2.2.2.2.2.1⟩,⟨w.2.2.2.2.2.2.1,w.2.2.2.2.2.2.2.1,w.2.2.2.2.2.2.2.2⟩⟩:Z33)=if Nl x=true then Z33.set u.reg t (Z3b.set (Z33.get u.reg t) x.Reg<|Z3b.get u.mem x.Loc) else u.reg) ?_ λw5 hw5=>?_
 ·refine (Fg _).bind λb hb=>?_;have hb':b=Nl x:=hb;refine .bif (λhc => .gdD ⟨x1,by omega⟩<|.gdD ⟨x3,by omega⟩<|.pure ?_) λhc => .pure ?_
  ·rw [if_pos (by rw [<- hb'];exact hc)]
  rw [if_neg (by rw [<- hb',hc];decide)]
 refine Nk.bind (P:=λw=>(⟨w.1,w.2.1,w.2.2⟩:Z3b)=if wrX x=true then Z3b.set u.mem x.Loc (sF u t x) else u.mem) ?_ λw10 hw10 => .pure ?_
 ·refine (Jn _).bind λb hb=>?_;have hb':b=wrX x:=hb;refine .bif (λhc => .gdD ⟨x1,by omega⟩<|.pure ?_) λhc => .pure ?_
  ·rw [if_pos (by rw [<- hb'];exact hc)]
  rw [if_neg (by rw [<- hb',hc];decide)]
 unfold Fj;rw [hw5,hw10]
theorem Iv.after (h:Iv p u) {t:Nat} (ht:t<3) (hc:qf u t=true) {x:Nf} (hx:InR x):Iv p (Fj u t x):=by
 obtain ⟨x1,x2,x3,x4,x5,x6⟩:=hx;obtain ⟨l,hlx⟩:∃ l:Nat,x.Loc=l:=⟨x.Loc.toNat,by omega⟩;obtain ⟨g,hgx⟩:∃ g:Nat,x.Reg=g:=⟨x.Reg.toNat,by omega⟩;unfold qf at hc;rw [h.up] at hc;have hc:=of_decide_eq_true hc;have hvv:0<=sF u t x/\sF u t x<=3:=by
  unfold sF
  split
  ·rw [hgx];exact h.rv t g ht (by omega)
  omega
 unfold Fj;refine ⟨h.up,λi hi=>?_,λt' g' ht' hg' => ?_,λl' hl' => ?_⟩
 ·simp only [];rw [lm _ _ _ _ (by omega) (by omega)]
  by_cases e:i=t
  ·subst e;have := h.pc i hi;rw [if_pos rfl];omega
  rw [if_neg (by omega)];exact h.pc i hi
 ·simp only []
  split
  ·rw [rP _ _ _ _ (by omega) (by omega)]
   by_cases e:t'=t
   ·subst e;rw [if_pos rfl,hgx,lm _ _ _ _ (by omega) (by omega)]
    by_cases e2:g'=g
    ·subst e2;rw [if_pos rfl,hlx];exact h.mv l (by omega)
    rw [if_neg (by omega)];exact h.rv t' g' ht' hg'
   rw [if_neg (by omega)];exact h.rv t' g' ht' hg'
  exact h.rv t' g' ht' hg'
 simp only []
 split
 ·rw [hlx,lm _ _ _ _ (by omega) (by omega)]
  split
  ·exact hvv
  exact h.mv l' hl'
 exact h.mv l' hl'
def v0 (p:List<|List Nf):Ng:=⟨p,⟨0,0,0⟩,⟨⟨0,0,0⟩,⟨0,0,0⟩,⟨0,0,0⟩⟩,⟨0,0,0⟩⟩
theorem z3 (i:Int):Z3b.get ⟨0,0,0⟩ i=0:=by
 simp only [Z3b.get]
 split <;> (try split) <;> rfl
theorem z33 (i:Int):Z33.get ⟨⟨0,0,0⟩,⟨0,0,0⟩,⟨0,0,0⟩⟩ i=⟨0,0,0⟩:=by
 simp only [Z33.get]
 split <;> (try split) <;> rfl
theorem Iv.start (p:List<|List Nf):Iv p (v0 p):=by
 refine ⟨rfl,λt _=>?_,λt g _ _=>?_,λl _=>?_⟩
 ·unfold v0;simp only [z3];omega
 ·unfold v0;simp only [z33,z3];decide
 unfold v0;simp only [z3];decide
theorem qy (hp:PV p) {s0 s:Nh} (h0:Iv p s0.values) (h:Rea KQ s0 s):Iv p s.values:=by
 induction h with
 | base=>exact h0
 | step _ hm ih=>
  obtain ⟨t,h1,rfl,h2⟩:=jm.1 hm;rw [ih.up] at h1;have hl:=hp.vs.1;exact ih.after (by omega) h2<|ih.ins hp h1 h2
def bas:List Nat:=[8,8,8,4,4,4,4,4,4,4,4,4,4,4,4]
def dig (u:Ng):List (Nat×Nat):=((keyL u).map Int.toNat).zip bas
theorem Bh (u:Ng):(dig u).map (·.2)=bas:=rfl
theorem Ft (u:Ng):(dig u).map (·.1)=(keyL u).map Int.toNat:=rfl
theorem Cu:∀ l:List (Nat×Nat),Dw l=(l.map (·.2)).foldr (· * ·) 1
 | []=>rfl
 | (_,b)::l=>congrArg (b * ·) (Cu l)
theorem GQ (u:Ng):Dw (dig u)=8589934592:=by
 rw [Cu,Bh]
 decide
theorem digits (hp:PV p) (h:Iv p u):∀ x∈dig u,x.1<x.2:=by
 obtain ⟨d,h1,_,h2⟩:=h.keyL hp;unfold dig;rw [h1,QE];have : d.map (Int.toNat ∘ Int.ofNat)=d:=by
  conv=>rhs;rw [<- QP d]
  exact QQ λ_ _=>rfl
 rw [this];exact h2
theorem Jr (hp:PV p) {u v:Ng} (hu:Iv p u) (hv:Iv p v) (h:qM (dig u)=qM (dig v)):(keyL u).map Int.toNat=(keyL v).map Int.toNat:=by
 rw [<- Ft,<- Ft,zS (dig u) (dig v) ((Bh u).trans (Bh v).symm) (digits hp hu) (digits hp hv) h]
theorem uk (hp:PV p) (h:Iv p u):∀ x∈keyL u,0<=x/\x<=255:=by
 obtain ⟨d,h1,h3,h2⟩:=h.keyL hp;rw [h1];intro x hx;obtain ⟨n,hn,rfl⟩:=Qx.1 hx;obtain ⟨j,hj,rfl⟩:=QR hn;have hz:j<(d.zip [8,8,8,4,4,4,4,4,4,4,4,4,4,4,4]).length:=by simp;omega
 have h4:=h2 _<|QA hz;rw [List.getElem_zip] at h4;have h5:∀ b∈[8,8,8,4,4,4,4,4,4,4,4,4,4,4,4],b<=8:=by decide
 have h6:=h5 _<|QA (l:=[8,8,8,4,4,4,4,4,4,4,4,4,4,4,4]) (n:=j) (by simp;omega);simp only at h4
 constructor
 ·exact Int.natCast_nonneg _
 show ((d[j]:Nat):Int)<=255;omega
theorem GR (hp:PV p) {u v:Ng} (hu:Iv p u) (hv:Iv p v) (h:(keyL u).map Int.toNat=(keyL v).map Int.toNat):keyL u=keyL v:=by
 have back:∀ l:LI,(∀ x∈l,0<=x/\x<=255)->(l.map Int.toNat).map Int.ofNat=l:=λl hl=>by
  rw [QE]
  conv=>rhs;rw [<- QP l]
  refine QQ λx hx=>?_;exact Int.toNat_of_nonneg (hl x hx).1
 rw [<- back _ (uk hp hu),<- back _ (uk hp hv),h]
theorem Js (hp:PV p) {s0:Nh} (h0:Iv p s0.values):Mok KQ s0 8589934592 where
 key:=λs t hs ht h=>by
  have h1:=qy hp h0 hs;have h2:=qy hp h0 ht;have := uT (h1.up.trans h2.up.symm)<|nK (uk hp h1) (uk hp h2) h
  cases s;cases t
  simp only at this;rw [this]
 cnt:=λV hn hV=>by
  have hI:∀ v∈V,Iv p v.values:=λv hv=>qy hp h0<|hV v hv;refine GN (λv=>qM<|dig v.values) _ V hn (λv hv=>?_) λs hs t ht h=>?_
  ·have := Co _<|digits hp<|hI v hv
   rwa [GQ] at this
  have h3:=Jr hp (hI s hs) (hI t ht) h;have := uT ((hI s hs).up.trans (hI t ht).up.symm)<|GR hp (hI s hs) (hI t ht) h3
  cases s;cases t
  simp only at this;rw [this]
theorem Jt (hp:PV p) {s0:Nh} (h0:Iv p s0.values):Mrt eB eC dh di (λs=>aQ s.values) KQ s0 where
 mv:=λs hs=>KR hp<|qy hp h0 hs
 af:=λs m hs hm=>by
  have h1:=qy hp h0 hs;obtain ⟨t,h2,rfl,h3⟩:=jm.1 hm;rw [h1.up] at h2;exact KT hp h1 h2 h3
 ky:=λs hs=>Ct s.values
 dn:=λs hs=>KS hp<|qy hp h0 hs
 oc:=λs hs _=>yH hp<|qy hp h0 hs
 len:=λs hs=>by
  have h1:=Cs (u:=s.values) s.values.p.length;have h2:=(qy hp h0 hs).up;have h3:=hp.vs.1;rw [h2] at h1;show (tv s.values).length<=_;unfold tv;rw [h2];omega
theorem uU (u:Ng):(xc u).length=3*u.p.length+3:=by
 unfold xc Ks;rw [lla,vW]
 rfl
def GU (p:List<|List Nf):LI->Prop:=Jo KQ ⟨v0 p⟩
end
end
end Go.Proofs.YtjcmfddobaplbaaGreat
