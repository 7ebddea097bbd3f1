/- Texts joined. No conditions. -/
import Derived.Test.YtjcmfddobaplbaaGreatZ5
namespace Go.Proofs.YtjcmfddobaplbaaGreat
noncomputable section
open _root_.Option renaming bind -> PR
open _root_.Int renaming le_refl -> PT
open _root_.List renaming mem_singleton -> PU, range -> PX, mem_append_left -> PY, mem_map -> PZ, mem_append -> P5, length_singleton -> P6, getElem_mem -> P7, mem_append_right -> P8, replicate -> Qb, map_map -> Qc, take_add_one -> Qd, range_succ -> Qe, mem_of_getElem? -> Qg, mem_range -> Qi, mem_cons_self -> Qj, mem_cons_of_mem -> Qk, append_assoc -> Ql, map_append -> Qm, map_id -> Qn, map_congr_left -> Qo, getElem_of_mem -> Qp
open _root_.Nat renaming le_refl -> Qa, mul_le_mul -> Qf, lt_or_ge -> Qh
open Go.RowKit
set_option maxRecDepth 100000
def rN (p:List<|List MI):Option MK:= some (⟨(⟨p,(⟨(0:Int),(0:Int),(0:Int)⟩:Z3b),(⟨(⟨(0:Int),(0:Int),(0:Int)⟩:Z3b),(⟨(0:Int),(0:Int),(0:Int)⟩:Z3b),(⟨(0:Int),(0:Int),(0:Int)⟩:Z3b)⟩:Z33),(⟨(0:Int),(0:Int),(0:Int)⟩:Z3b)⟩:MJ)⟩:MK)
def ia (v:MJ):LS ((LI)×Int) (LI):=λs6=>bif decide (s6.2<(3:Int)) then gd (decide<|0<=s6.2/\s6.2<3) <|gd (dI (s6.1.length+([(⟨(Z33.get v.reg s6.2).x0,(Z33.get v.reg s6.2).x1,(Z33.get v.reg s6.2).x2⟩:Z3b).x0,(⟨(Z33.get v.reg s6.2).x0,(Z33.get v.reg s6.2).x1,(Z33.get v.reg s6.2).x2⟩:Z3b).x1,(⟨(Z33.get v.reg s6.2).x0,(Z33.get v.reg s6.2).x1,(Z33.get v.reg s6.2).x2⟩:Z3b).x2]:LI).length) 1) <|gd (MG .i64<|s6.2+(1:Int)) <|some (.inl ((s6.1++([(⟨(Z33.get v.reg s6.2).x0,(Z33.get v.reg s6.2).x1,(Z33.get v.reg s6.2).x2⟩:Z3b).x0,(⟨(Z33.get v.reg s6.2).x0,(Z33.get v.reg s6.2).x1,(Z33.get v.reg s6.2).x2⟩:Z3b).x1,(⟨(Z33.get v.reg s6.2).x0,(Z33.get v.reg s6.2).x1,(Z33.get v.reg s6.2).x2⟩:Z3b).x2]:LI)),(s6.2+(1:Int)))) else some (.inr s6.1)
def bV (v:MJ):Option ByteArray:= gd (dI (([]:LI).length+([v.pc.x0,v.pc.x1,v.pc.x2]:LI).length) 1) <|PR (bA (ia v) ((([]:LI)++([v.pc.x0,v.pc.x1,v.pc.x2]:LI)),(0:Int))) λs2=>gd (dI (s2.length+([v.mem.x0,v.mem.x1,v.mem.x2]:LI).length) 1) <|some<|strOfNums<|s2++([v.mem.x0,v.mem.x1,v.mem.x2]:LI)
def df (s:MK):Option ByteArray:= PR (bV s.values) λv1=>some v1
def bu (v:MJ) (t:Int):Option (MI×Bool):= gd (decide<|0<=t/\t<3) <|gd (MG .i64<|Z3b.get v.pc t) <|gd (decide<|0<=t/\t<(v.p.length:Int)) <|bif decide (((v.p.getD t.toNat default).length:Int)<=(Z3b.get v.pc t)) then some ((⟨(0:Int),(0:Int),(0:Int),(0:Int)⟩:MI),false) else gd (decide<|0<=(Z3b.get v.pc t)/\(Z3b.get v.pc t)<((v.p.getD t.toNat default).length:Int)) <|some ((⟨((v.p.getD t.toNat default).getD (Z3b.get v.pc t).toNat default).Op,((v.p.getD t.toNat default).getD (Z3b.get v.pc t).toNat default).Loc,((v.p.getD t.toNat default).getD (Z3b.get v.pc t).toNat default).Reg,((v.p.getD t.toNat default).getD (Z3b.get v.pc t).toNat default).Val⟩:MI),true)
def jc (v:MJ):LS Int (Unit ⊕ Bool):=λs4=>bif decide (s4<(v.p.length:Int)) then PR (bu v s4) λv7=>bif v7.2 then some (.inr<|.inr false) else gd (MG .i64<|s4+(1:Int)) <|some (.inl<|s4+(1:Int)) else some (.inr<|.inl ())
def bC (v:MJ):Option Bool:= sumK (bA (jc v) (0:Int)) λs1=>some true
def di (s:MK):Option Bool:= PR (bC s.values) λv1=>some v1
def eQ (v:MJ) (s7:(LI)×Int):LS ((LI)×Int) (LI):=λs20=>bif decide (s20.2<(3:Int)) then gd (decide<|0<=s20.2/\s20.2<3) <|gd (MG .i64<|Z3b.get (Z33.get v.reg s7.2) s20.2) <|gd (dI (s20.1.length+1) 8) <|gd (MG .i64<|s20.2+(1:Int)) <|some (.inl ((s20.1++[(Z3b.get (Z33.get v.reg s7.2) s20.2)]),(s20.2+(1:Int)))) else some (.inr s20.1)
def cn (v:MJ):LS ((LI)×Int) (LI):=λs7=>bif decide (s7.2<(v.p.length:Int)) then PR (gd (decide<|0<=s7.2/\s7.2<3) <|bA (eQ v s7) (s7.1,(0:Int))) λs13=>gd (MG .i64<|s7.2+(1:Int)) <|some (.inl (s13,(s7.2+(1:Int)))) else some (.inr s7.1)
def bY (v:MJ):LS ((LI)×Int) (LI):=λs43=>bif decide (s43.2<(3:Int)) then gd (decide<|0<=s43.2/\s43.2<3) <|gd (MG .i64<|Z3b.get v.mem s43.2) <|gd (dI (s43.1.length+1) 8) <|gd (MG .i64<|s43.2+(1:Int)) <|some (.inl ((s43.1++[(Z3b.get v.mem s43.2)]),(s43.2+(1:Int)))) else some (.inr s43.1)
def aQ (v:MJ):Option (LI):= PR (bA (cn v) (([]:LI),(0:Int))) λs1=>PR (bA (bY v) (s1,(0:Int))) λs37=>some s37
def iY (s:MK):LS ((LI)×Int) (LI):=λs7=>bif decide (s7.2<(s.values.p.length:Int)) then PR (PR (bu s.values s7.2) λv14=>bif v14.2 then gd (dI (s7.1.length+1) 8) <|some (s7.1++[s7.2]) else some s7.1) λs13=>gd (MG .i64<|s7.2+(1:Int)) <|some (.inl (s13,(s7.2+(1:Int)))) else some (.inr s7.1)
def eD (s:MK):Option (LI):= PR (bA (iY s) (([]:LI),(0:Int))) λs1=>some s1
def bH (v:MJ) (t:Int) (x:MI):Option Int:= bif (x.Op==(3:Int)) then gd (decide<|0<=t/\t<3) <|gd (decide<|0<=x.Reg/\x.Reg<3) <|some (Z3b.get (Z33.get v.reg t) x.Reg) else gd (MG .u8 x.Val) <|some x.Val
def dz (x:MI):Option Bool:= PR (bif (x.Op==(1:Int)) then some true else some (x.Op==(5:Int))) λs1=>some s1
def fJ (x:MI):Option Bool:= PR (bif (x.Op==(2:Int)) then some true else some (x.Op==(3:Int))) λs1=>PR (bif s1 then some true else some (x.Op==(5:Int))) λs3=>some s3
def eF (s:MK) (t:Int):Option MK:= PR (bu s.values t) λv1=>gd (decide<|0<=t/\t<3) <|gd (MG .u8<|(Z3b.get s.values.pc t)+(1:Int)) <|PR (bH s.values t (⟨v1.1.Op,v1.1.Loc,v1.1.Reg,v1.1.Val⟩:MI)) λv4=>PR (PR (dz (⟨v1.1.Op,v1.1.Loc,v1.1.Reg,v1.1.Val⟩:MI)) λv6=>bif v6 then gd (decide<|0<=v1.1.Loc/\v1.1.Loc<3) <|gd (decide<|0<=v1.1.Reg/\v1.1.Reg<3) <|some (((Z33.set s.values.reg t<|Z3b.set (Z33.get s.values.reg t) v1.1.Reg<|Z3b.get s.values.mem v1.1.Loc).x0).x0,((Z33.set s.values.reg t<|Z3b.set (Z33.get s.values.reg t) v1.1.Reg<|Z3b.get s.values.mem v1.1.Loc).x0).x1,((Z33.set s.values.reg t<|Z3b.set (Z33.get s.values.reg t) v1.1.Reg<|Z3b.get s.values.mem v1.1.Loc).x0).x2,((Z33.set s.values.reg t<|Z3b.set (Z33.get s.values.reg t) v1.1.Reg<|Z3b.get s.values.mem v1.1.Loc).x1).x0,((Z33.set s.values.reg t<|Z3b.set (Z33.get s.values.reg t) v1.1.Reg<|Z3b.get s.values.mem v1.1.Loc).x1).x1,((Z33.set s.values.reg t<|Z3b.set (Z33.get s.values.reg t) v1.1.Reg<|Z3b.get s.values.mem v1.1.Loc).x1).x2,((Z33.set s.values.reg t<|Z3b.set (Z33.get s.values.reg t) v1.1.Reg<|Z3b.get s.values.mem v1.1.Loc).x2).x0,((Z33.set s.values.reg t<|Z3b.set (Z33.get s.values.reg t) v1.1.Reg<|Z3b.get s.values.mem v1.1.Loc).x2).x1,((Z33.set s.values.reg t<|Z3b.set (Z33.get s.values.reg t) v1.1.Reg<|Z3b.get s.values.mem v1.1.Loc).x2).x2) else some (s.values.reg.x0.x0,s.values.reg.x0.x1,s.values.reg.x0.x2,s.values.reg.x1.x0,s.values.reg.x1.x1,s.values.reg.x1.x2,s.values.reg.x2.x0,s.values.reg.x2.x1,s.values.reg.x2.x2)) λs5=>PR (PR (fJ (⟨v1.1.Op,v1.1.Loc,v1.1.Reg,v1.1.Val⟩:MI)) λv11=>bif v11 then gd (decide<|0<=v1.1.Loc/\v1.1.Loc<3) <|some ((Z3b.set s.values.mem v1.1.Loc v4).x0,(Z3b.set s.values.mem v1.1.Loc v4).x1,(Z3b.set s.values.mem v1.1.Loc v4).x2) else some (s.values.mem.x0,s.values.mem.x1,s.values.mem.x2)) λs10=>some (⟨(⟨s.values.p,(⟨(Z3b.set s.values.pc t<|(Z3b.get s.values.pc t)+(1:Int)).x0,(Z3b.set s.values.pc t<|(Z3b.get s.values.pc t)+(1:Int)).x1,(Z3b.set s.values.pc t<|(Z3b.get s.values.pc t)+(1:Int)).x2⟩:Z3b),(⟨(⟨s5.1,s5.2.1,s5.2.2.1⟩:Z3b),(⟨s5.2.2.2.1,s5.2.2.2.2.1,s5.2.2.2.2.2.1⟩:Z3b),(⟨s5.2.2.2.2.2.2.1,s5.2.2.2.2.2.2.2.1,s5.2.2.2.2.2.2.2.2⟩:Z3b)⟩:Z33),(⟨s10.1,s10.2.1,s10.2.2⟩:Z3b)⟩:MJ)⟩:MK)
def iO (s1_:LI) (s2_:LI):LS Int (Unit ⊕ Bool):=λs5=>bif decide (s5<(s1_.length:Int)) then gd (decide<|0<=s5/\s5<(s1_.length:Int)) <|gd (decide<|0<=s5/\s5<(s2_.length:Int)) <|bif ((s1_.getD s5.toNat default) != (s2_.getD s5.toNat default)) then some (.inr<|.inr false) else gd (MG .i64<|s5+(1:Int)) <|some (.inl<|s5+(1:Int)) else some (.inr<|.inl ())
def dX (s1_:LI) (s2_:LI):Option Bool:= bif ((s1_.length:Int) != (s2_.length:Int)) then some false else sumK (bA (iO s1_ s2_) (0:Int)) λs2=>some true
def cE (a:LI) (b:LI):Option Bool:= PR (dX a b) λv1=>some v1
def aS (s8:(LL)×Int):LS ((LL)×Int×Int) ((LL)×Int):=λs25=>bif decide (s25.2.1<((((s8.1.length:Int).toNat-s8.2.toNat):Nat):Int)) then PR (gd (decide<|(0<=s25.2.1/\s25.2.1<((((s8.1.length:Int).toNat-s8.2.toNat):Nat):Int))/\((0+s8.2.toNat)+s25.2.1.toNat)<s25.1.length) <|gd (MG .i64<|s25.2.1-(1:Int)) <|gd (decide<|(0<=(s25.2.1-(1:Int))/\(s25.2.1-(1:Int))<((((s8.1.length:Int).toNat-s8.2.toNat):Nat):Int))/\((0+s8.2.toNat)+(s25.2.1-(1:Int)).toNat)<s25.1.length) <|PR (cE (s25.1.getD ((0+s8.2.toNat)+s25.2.1.toNat) default)<|s25.1.getD ((0+s8.2.toNat)+(s25.2.1-(1:Int)).toNat) default) λv33=>bif !v33 then gd (decide<|0<=s25.2.2/\s25.2.2<(s25.1.length:Int)) <|gd (MG .i64<|s25.2.2+(1:Int)) <|some ((s25.1.set s25.2.2.toNat<|s25.1.getD ((0+s8.2.toNat)+s25.2.1.toNat) default),(s25.2.2+(1:Int))) else some (s25.1,s25.2.2)) λs29=>gd (MG .i64<|s25.2.1+(1:Int)) <|some (.inl (s29.1,(s25.2.1+(1:Int)),s29.2)) else some (.inr (s25.1,s25.2.2))
def aV:LS ((LL)×Int) ((LL) ⊕ (LL)):=λs8=>bif decide (s8.2<(s8.1.length:Int)) then sumK (gd (decide<|0<=s8.2/\s8.2<(s8.1.length:Int)) <|gd (MG .i64<|s8.2-(1:Int)) <|gd (decide<|0<=(s8.2-(1:Int))/\(s8.2-(1:Int))<(s8.1.length:Int)) <|PR (cE (s8.1.getD s8.2.toNat default)<|s8.1.getD ((s8.2-(1:Int)).toNat) default) λv18=>bif v18 then gd (decide<|0<=s8.2/\s8.2<=(s8.1.length:Int)/\(s8.1.length:Int)<=(s8.1.length:Int)) <|PR (bA (aS s8) (s8.1,(1:Int),s8.2)) λs21=>gd (decide<|0<=s21.2/\s21.2<=(s21.1.length:Int)/\(s21.1.length:Int)<=(s21.1.length:Int)) <|gd (decide<|0<=(0:Int)/\(0:Int)<=s21.2/\s21.2<=(s21.1.length:Int)) <|some (.inr<|.inr<|.inr<|((cpy s21.1 (0+s21.2.toNat) (Qb ((s21.1.length:Int).toNat-s21.2.toNat) (default:LI))<|(s21.1.length:Int).toNat-s21.2.toNat).drop (0:Int).toNat).take<|s21.2.toNat-(0:Int).toNat) else some (.inl ())) λs14=>gd (MG .i64<|s8.2+(1:Int)) <|some (.inl (s8.1,(s8.2+(1:Int)))) else some (.inr<|.inl s8.1)
def aN (s:LL):Option (LL):= bif decide ((s.length:Int)<(2:Int)) then some s else sumK (bA aV (s,(1:Int))) λs2=>some s2
def aR (list:LL):Option (LL):= PR (fo list) λv1=>PR (aN v1) λv2=>some v2
def iD (s9:(List<|ByteArray×Bool)×(LL)×(List MK)) (s19:(LL)) (v27:(LI)):LS ((List<|ByteArray×Bool)×(List MK)×Int) (((List<|ByteArray×Bool)×(LL)×(List MK)) ⊕ ((List<|ByteArray×Bool)×(LL))):=λs31=>bif decide (s31.2.2<(v27.length:Int)) then PR (gd (decide<|0<=s31.2.2/\s31.2.2<(v27.length:Int)) <|PR (eF (s9.2.2.getD (((s9.2.2.length:Int)-(1:Int)).toNat) default)<|v27.getD s31.2.2.toNat default) λv37=>PR (df v37) λv38=>bif !((zm s31.1 v38).getD false) then gd (dI (s31.2.1.length+1) 16) <|some ((um s31.1 v38 true),(s31.2.1++[v37])) else some (s31.1,s31.2.1)) λs35=>gd (MG .i64<|s31.2.2+(1:Int)) <|some (.inl (s35.1,s35.2,(s31.2.2+(1:Int)))) else some (.inr<|.inl (s31.1,s19,s31.2.1))
def iE:LS ((List<|ByteArray×Bool)×(LL)×(List MK)) ((List<|ByteArray×Bool)×(LL)):=λs9=>bif decide ((0:Int)<(s9.2.2.length:Int)) then gd (MG .i64<|(s9.2.2.length:Int)-(1:Int)) <|gd (decide<|0<=((s9.2.2.length:Int)-(1:Int))/\((s9.2.2.length:Int)-(1:Int))<(s9.2.2.length:Int)) <|gd (decide<|0<=(0:Int)/\(0:Int)<=((s9.2.2.length:Int)-(1:Int))/\((s9.2.2.length:Int)-(1:Int))<=(s9.2.2.length:Int)) <|PR (PR (di<|s9.2.2.getD (((s9.2.2.length:Int)-(1:Int)).toNat) default) λv20=>bif v20 then PR (aQ<|(s9.2.2.getD (((s9.2.2.length:Int)-(1:Int)).toNat) default).values) λv22=>gd (dI (s9.2.1.length+1) 24) <|some (s9.2.1++[v22]) else some s9.2.1) λs19=>PR (eD<|s9.2.2.getD (((s9.2.2.length:Int)-(1:Int)).toNat) default) λv27=>bA (iD s9 s19 v27) (s9.1,((s9.2.2.drop (0:Int).toNat).take<|((s9.2.2.length:Int)-(1:Int)).toNat-(0:Int).toNat),(0:Int)) else some (.inr (s9.1,s9.2.1))
def gD (start:MK):Option ((LL)×Int):= PR (df start) λv1=>PR (bA iE ((um ([]:List<|ByteArray×Bool) v1 true),([]:LL),([start]:List MK))) λs2=>PR (aR s2.2) λv46=>some (v46,(s2.1.length:Int))
def jk (p:List<|List MI):Option (LL):= PR (aA p) λv1=>bif !v1 then some ([]:LL) else PR (rN p) λv3=>PR (gD v3) λv4=>some v4.1
def iy (p:List<|List MI) (split:Bool):Option aj:= gd (decide<|0<=(p.length:Int)/\(p.length:Int)<=(p.length:Int)/\(p.length:Int)*((24:Nat):Int)<=140737488355328/\(p.length:Int)<=140737488355328) <|PR (bif split then gd (MG .i64<|(3:Int)*(p.length:Int)) <|gd (decide<|0<=((3:Int)*(p.length:Int))/\((3:Int)*(p.length:Int))<=((3:Int)*(p.length:Int))/\((3:Int)*(p.length:Int))*((24:Nat):Int)<=140737488355328/\((3:Int)*(p.length:Int))<=140737488355328) <|some (Qb ((3:Int)*(p.length:Int)).toNat ([]:LI)) else some (Qb (p.length:Int).toNat ([]:LI))) λs2=>some (⟨(⟨p,(⟨(0:Int),(0:Int),(0:Int)⟩:Z3b),(⟨(⟨(0:Int),(0:Int),(0:Int)⟩:Z3b),(⟨(0:Int),(0:Int),(0:Int)⟩:Z3b),(⟨(0:Int),(0:Int),(0:Int)⟩:Z3b)⟩:Z33),(⟨(0:Int),(0:Int),(0:Int)⟩:Z3b)⟩:MJ),split,s2⟩:aj)
def ib (s:aj):LS ((LI)×Int) (LI):=λs7=>bif decide (s7.2<(s.waits.length:Int)) then gd (decide<|0<=s7.2/\s7.2<(s.waits.length:Int)) <|gd (MG .u8 ((s.waits.getD s7.2.toNat default).length:Int)) <|gd (dI (s7.1.length+1) 1) <|gd (dI ((s7.1++[((s.waits.getD s7.2.toNat default).length:Int)]).length+(s.waits.getD s7.2.toNat default).length) 1) <|gd (MG .i64<|s7.2+(1:Int)) <|some (.inl (((s7.1++[((s.waits.getD s7.2.toNat default).length:Int)])++(s.waits.getD s7.2.toNat default)),(s7.2+(1:Int)))) else some (.inr s7.1)
def cF (s:aj):Option ByteArray:= PR (bV s.values) λv1=>gd (decide<|v1.size<=35184372088832) <|PR (bA (ib s) ((kU v1),(0:Int))) λs3=>some<|strOfNums s3
def kH (waits:LI):Option Bool:= some<|decide<|(0:Int)<(waits.length:Int)
def bJ (s:LL):LS Int (Unit ⊕ Int):=λs4=>bif decide (s4<(s.length:Int)) then gd (decide<|0<=s4/\s4<(s.length:Int)) <|PR (kH<|s.getD s4.toNat default) λv8=>bif v8 then some (.inr<|.inr s4) else gd (MG .i64<|s4+(1:Int)) <|some (.inl<|s4+(1:Int)) else some (.inr<|.inl ())
def bh (s:LL):Option Int:= sumK (bA (bJ s) (0:Int)) λs1=>some (-1:Int)
def aY (s:LL):Option Bool:= PR (bh s) λv1=>some<|decide<|(0:Int)<=v1
def cZ (s:aj):Option Bool:= PR (bC s.values) λv1=>PR (bif v1 then PR (aY s.waits) λv4=>some (!v4) else some false) λs2=>some s2
def dm (s:aj) (t:Int) (loc:Int):Option Int:= bif s.split then gd (MG .i64<|(3:Int)*t) <|gd (MG .i64<|((3:Int)*t)+loc) <|some (((3:Int)*t)+loc) else some t
def iP (s:aj) (t:Int):LS Int (Unit ⊕ Bool):=λs4=>bif decide (s4<(3:Int)) then PR (dm s t s4) λv7=>gd (decide<|0<=v7/\v7<(s.waits.length:Int)) <|bif decide ((0:Int)<((s.waits.getD v7.toNat default).length:Int)) then some (.inr<|.inr false) else gd (MG .i64<|s4+(1:Int)) <|some (.inl<|s4+(1:Int)) else some (.inr<|.inl ())
def dY (s:aj) (t:Int):Option Bool:= sumK (bA (iP s t) (0:Int)) λs1=>some true
def fK (s:aj):LS ((LI)×Int) (LI):=λs7=>bif decide (s7.2<(s.values.p.length:Int)) then PR (PR (bu s.values s7.2) λv14=>PR (bif v14.2 then PR (bif (v14.1.Op != (4:Int)) then some (v14.1.Op != (5:Int)) else some false) λs17=>PR (bif s17 then some true else PR (dY s s7.2) λv21=>some v21) λs19=>some s19 else some false) λs15=>bif s15 then gd (dI (s7.1.length+1) 8) <|some (s7.1++[s7.2]) else some s7.1) λs13=>gd (MG .i64<|s7.2+(1:Int)) <|some (.inl (s13,(s7.2+(1:Int)))) else some (.inr s7.1)
def fq (s:aj):LS ((LI)×Int) (LI):=λs37=>bif decide (s37.2<(s.waits.length:Int)) then PR (gd (decide<|0<=s37.2/\s37.2<(s.waits.length:Int)) <|bif decide ((0:Int)<((s.waits.getD s37.2.toNat default).length:Int)) then gd (MG .i64<|(s.values.p.length:Int)+s37.2) <|gd (dI (s37.1.length+1) 8) <|some (s37.1++[((s.values.p.length:Int)+s37.2)]) else some s37.1) λs43=>gd (MG .i64<|s37.2+(1:Int)) <|some (.inl (s43,(s37.2+(1:Int)))) else some (.inr s37.1)
def cH (s:aj):Option (LI):= PR (bA (fK s) (([]:LI),(0:Int))) λs1=>PR (bA (fq s) (s1,(0:Int))) λs31=>some s31
def eT (s:LL):Option (LL):= nilK (s.isEmpty) (some ([]:LL)) (gd (dI (([]:LL).length+s.length) 24) <|some<|([]:LL)++s)
def fu (s:LI):Option (LI):= nilK (s.isEmpty) (some ([]:LI)) (gd (dI (([]:LI).length+s.length) 1) <|some<|([]:LI)++s)
def cJ (s:aj) (move:Int):Option aj:= PR (eT s.waits) λv1=>bif decide ((s.values.p.length:Int)<=move) then gd (MG .i64<|move-(s.values.p.length:Int)) <|gd (decide<|0<=(move-(s.values.p.length:Int))/\(move-(s.values.p.length:Int))<(s.waits.length:Int)) <|gd (decide<|0<=(0:Int)/\(0:Int)<((s.waits.getD (move-(s.values.p.length:Int)).toNat default).length:Int)) <|gd (decide<|0<=(1:Int)/\(1:Int)<=((s.waits.getD (move-(s.values.p.length:Int)).toNat default).length:Int)/\((s.waits.getD (move-(s.values.p.length:Int)).toNat default).length:Int)<=((s.waits.getD (move-(s.values.p.length:Int)).toNat default).length:Int)) <|gd (decide<|0<=(move-(s.values.p.length:Int))/\(move-(s.values.p.length:Int))<(v1.length:Int)) <|gd (decide<|(16:Int)≠0) <|gd (MG .u8<|((s.waits.getD (move-(s.values.p.length:Int)).toNat default).getD (0:Int).toNat default).tdiv (16:Int)) <|gd (decide<|0<=(((s.waits.getD (move-(s.values.p.length:Int)).toNat default).getD (0:Int).toNat default).tdiv (16:Int))/\(((s.waits.getD (move-(s.values.p.length:Int)).toNat default).getD (0:Int).toNat default).tdiv (16:Int))<3) <|some (⟨(⟨s.values.p,(⟨s.values.pc.x0,s.values.pc.x1,s.values.pc.x2⟩:Z3b),(⟨(⟨s.values.reg.x0.x0,s.values.reg.x0.x1,s.values.reg.x0.x2⟩:Z3b),(⟨s.values.reg.x1.x0,s.values.reg.x1.x1,s.values.reg.x1.x2⟩:Z3b),(⟨s.values.reg.x2.x0,s.values.reg.x2.x1,s.values.reg.x2.x2⟩:Z3b)⟩:Z33),(⟨(Z3b.set s.values.mem (((s.waits.getD (move-(s.values.p.length:Int)).toNat default).getD (0:Int).toNat default).tdiv (16:Int))<|((s.waits.getD (move-(s.values.p.length:Int)).toNat default).getD (0:Int).toNat default).tmod (16:Int)).x0,(Z3b.set s.values.mem (((s.waits.getD (move-(s.values.p.length:Int)).toNat default).getD (0:Int).toNat default).tdiv (16:Int))<|((s.waits.getD (move-(s.values.p.length:Int)).toNat default).getD (0:Int).toNat default).tmod (16:Int)).x1,(Z3b.set s.values.mem (((s.waits.getD (move-(s.values.p.length:Int)).toNat default).getD (0:Int).toNat default).tdiv (16:Int))<|((s.waits.getD (move-(s.values.p.length:Int)).toNat default).getD (0:Int).toNat default).tmod (16:Int)).x2⟩:Z3b)⟩:MJ),s.split,(v1.set ((move-(s.values.p.length:Int)).toNat)<|((s.waits.getD (move-(s.values.p.length:Int)).toNat default).drop (1:Int).toNat).take<|((s.waits.getD (move-(s.values.p.length:Int)).toNat default).length:Int).toNat-(1:Int).toNat)⟩:aj) else PR (bu s.values move) λv14=>gd (decide<|0<=move/\move<3) <|gd (MG .u8<|(Z3b.get s.values.pc move)+(1:Int)) <|PR (PR (dz (⟨v14.1.Op,v14.1.Loc,v14.1.Reg,v14.1.Val⟩:MI)) λv18=>bif v18 then PR (dR s move v14.1.Loc) λv20=>gd (decide<|0<=v14.1.Reg/\v14.1.Reg<3) <|some (((Z33.set s.values.reg move<|Z3b.set (Z33.get s.values.reg move) v14.1.Reg v20).x0).x0,((Z33.set s.values.reg move<|Z3b.set (Z33.get s.values.reg move) v14.1.Reg v20).x0).x1,((Z33.set s.values.reg move<|Z3b.set (Z33.get s.values.reg move) v14.1.Reg v20).x0).x2,((Z33.set s.values.reg move<|Z3b.set (Z33.get s.values.reg move) v14.1.Reg v20).x1).x0,((Z33.set s.values.reg move<|Z3b.set (Z33.get s.values.reg move) v14.1.Reg v20).x1).x1,((Z33.set s.values.reg move<|Z3b.set (Z33.get s.values.reg move) v14.1.Reg v20).x1).x2,((Z33.set s.values.reg move<|Z3b.set (Z33.get s.values.reg move) v14.1.Reg v20).x2).x0,((Z33.set s.values.reg move<|Z3b.set (Z33.get s.values.reg move) v14.1.Reg v20).x2).x1,((Z33.set s.values.reg move<|Z3b.set (Z33.get s.values.reg move) v14.1.Reg v20).x2).x2,v1) else some (s.values.reg.x0.x0,s.values.reg.x0.x1,s.values.reg.x0.x2,s.values.reg.x1.x0,s.values.reg.x1.x1,s.values.reg.x1.x2,s.values.reg.x2.x0,s.values.reg.x2.x1,s.values.reg.x2.x2,v1)) λs17=>PR (PR (bif (v14.1.Op==(2:Int)) then some (v14.1.Op==(2:Int)) else some (v14.1.Op==(3:Int))) λs26=>bif s26 then PR (dm s move v14.1.Loc) λv29=>gd (decide<|0<=v29/\v29<(s.waits.length:Int)) <|gd (MG .u8 v14.1.Loc) <|gd (MG .u8<|v14.1.Loc*(16:Int)) <|PR (fu<|s.waits.getD v29.toNat default) λv33=>PR (bH s.values move (⟨v14.1.Op,v14.1.Loc,v14.1.Reg,v14.1.Val⟩:MI)) λv37=>gd (MG .u8<|(v14.1.Loc*(16:Int))+v37) <|gd (dI (v33.length+1) 1) <|gd (decide<|0<=v29/\v29<(s17.2.2.2.2.2.2.2.2.2.length:Int)) <|some (s.values.mem.x0,s.values.mem.x1,s.values.mem.x2,(s17.2.2.2.2.2.2.2.2.2.set v29.toNat<|v33++[((v14.1.Loc*(16:Int))+v37)])) else bif (v14.1.Op==(5:Int)) then gd (MG .u8 v14.1.Val) <|gd (decide<|0<=v14.1.Loc/\v14.1.Loc<3) <|some ((Z3b.set s.values.mem v14.1.Loc v14.1.Val).x0,(Z3b.set s.values.mem v14.1.Loc v14.1.Val).x1,(Z3b.set s.values.mem v14.1.Loc v14.1.Val).x2,s17.2.2.2.2.2.2.2.2.2) else some (s.values.mem.x0,s.values.mem.x1,s.values.mem.x2,s17.2.2.2.2.2.2.2.2.2)) λs25=>some (⟨(⟨s.values.p,(⟨(Z3b.set s.values.pc move<|(Z3b.get s.values.pc move)+(1:Int)).x0,(Z3b.set s.values.pc move<|(Z3b.get s.values.pc move)+(1:Int)).x1,(Z3b.set s.values.pc move<|(Z3b.get s.values.pc move)+(1:Int)).x2⟩:Z3b),(⟨(⟨s17.1,s17.2.1,s17.2.2.1⟩:Z3b),(⟨s17.2.2.2.1,s17.2.2.2.2.1,s17.2.2.2.2.2.1⟩:Z3b),(⟨s17.2.2.2.2.2.2.1,s17.2.2.2.2.2.2.2.1,s17.2.2.2.2.2.2.2.2.1⟩:Z3b)⟩:Z33),(⟨s25.1,s25.2.1,s25.2.2.1⟩:Z3b)⟩:MJ),s.split,s25.2.2.2⟩:aj)
def fG (s9:(List<|ByteArray×Bool)×(LL)×(List aj)) (s19:(LL)) (v27:(LI)):LS ((List<|ByteArray×Bool)×(List aj)×Int) (((List<|ByteArray×Bool)×(LL)×(List aj)) ⊕ ((List<|ByteArray×Bool)×(LL))):=λs31=>bif decide (s31.2.2<(v27.length:Int)) then PR (gd (decide<|0<=s31.2.2/\s31.2.2<(v27.length:Int)) <|PR (cJ (s9.2.2.getD (((s9.2.2.length:Int)-(1:Int)).toNat) default)<|v27.getD s31.2.2.toNat default) λv37=>PR (cF v37) λv38=>bif !((zm s31.1 v38).getD false) then gd (dI (s31.2.1.length+1) 16) <|some ((um s31.1 v38 true),(s31.2.1++[v37])) else some (s31.1,s31.2.1)) λs35=>gd (MG .i64<|s31.2.2+(1:Int)) <|some (.inl (s35.1,s35.2,(s31.2.2+(1:Int)))) else some (.inr<|.inl (s31.1,s19,s31.2.1))
def fH:LS ((List<|ByteArray×Bool)×(LL)×(List aj)) ((List<|ByteArray×Bool)×(LL)):=λs9=>bif decide ((0:Int)<(s9.2.2.length:Int)) then gd (MG .i64<|(s9.2.2.length:Int)-(1:Int)) <|gd (decide<|0<=((s9.2.2.length:Int)-(1:Int))/\((s9.2.2.length:Int)-(1:Int))<(s9.2.2.length:Int)) <|gd (decide<|0<=(0:Int)/\(0:Int)<=((s9.2.2.length:Int)-(1:Int))/\((s9.2.2.length:Int)-(1:Int))<=(s9.2.2.length:Int)) <|PR (PR (cZ<|s9.2.2.getD (((s9.2.2.length:Int)-(1:Int)).toNat) default) λv20=>bif v20 then PR (aQ<|(s9.2.2.getD (((s9.2.2.length:Int)-(1:Int)).toNat) default).values) λv22=>gd (dI (s9.2.1.length+1) 24) <|some (s9.2.1++[v22]) else some s9.2.1) λs19=>PR (cH<|s9.2.2.getD (((s9.2.2.length:Int)-(1:Int)).toNat) default) λv27=>bA (fG s9 s19 v27) (s9.1,((s9.2.2.drop (0:Int).toNat).take<|((s9.2.2.length:Int)-(1:Int)).toNat-(0:Int).toNat),(0:Int)) else some (.inr (s9.1,s9.2.1))
def ez (start:aj):Option ((LL)×Int):= PR (cF start) λv1=>PR (bA fH ((um ([]:List<|ByteArray×Bool) v1 true),([]:LL),([start]:List aj))) λs2=>PR (aR s2.2) λv46=>some (v46,(s2.1.length:Int))
def fA (p:List<|List MI) (split:Bool):Option ((LL)×Int):= PR (aA p) λv1=>bif !v1 then some (([]:LL),(0:Int)) else PR (iy p split) λv3=>PR (ez v3) λv4=>some (v4.1,v4.2)
def nG (p:List<|List MI):Option (LL):= PR (fA p false) λv1=>some v1.1
def nH (p:List<|List MI):Option (LL):= PR (fA p true) λv1=>some v1.1
def mf:LS ((List ai)×(List ai)×(List ai)×Int) ((List ai)×(List ai)×(List ai)):=λs5=>bif decide (s5.2.2.2<(3:Int)) then gd (decide<|0<=s5.2.2.2/\s5.2.2.2<3) <|gd (MG .i64<|s5.2.2.2+(1:Int)) <|some (.inl ((ae.set (⟨s5.1,s5.2.1,s5.2.2.1⟩:ae) s5.2.2.2 ([(⟨(0:Int),false,(⟨(0:Int),(0:Int),(0:Int)⟩:ah)⟩:ai)]:List ai)).x0,(ae.set (⟨s5.1,s5.2.1,s5.2.2.1⟩:ae) s5.2.2.2 ([(⟨(0:Int),false,(⟨(0:Int),(0:Int),(0:Int)⟩:ah)⟩:ai)]:List ai)).x1,(ae.set (⟨s5.1,s5.2.1,s5.2.2.1⟩:ae) s5.2.2.2 ([(⟨(0:Int),false,(⟨(0:Int),(0:Int),(0:Int)⟩:ah)⟩:ai)]:List ai)).x2,(s5.2.2.2+(1:Int)))) else some (.inr (s5.1,s5.2.1,s5.2.2.1))
def jl (p:List<|List MI):Option au:= PR (bA mf ([],[],[],(0:Int))) λs1=>some (⟨(⟨p,(⟨(0:Int),(0:Int),(0:Int)⟩:Z3b),(⟨(⟨(0:Int),(0:Int),(0:Int)⟩:Z3b),(⟨(0:Int),(0:Int),(0:Int)⟩:Z3b),(⟨(0:Int),(0:Int),(0:Int)⟩:Z3b)⟩:Z33),(⟨(0:Int),(0:Int),(0:Int)⟩:Z3b)⟩:MJ),(⟨s1.1,s1.2.1,s1.2.2⟩:ae),(⟨(⟨(0:Int),(0:Int),(0:Int)⟩:ah),(⟨(0:Int),(0:Int),(0:Int)⟩:ah),(⟨(0:Int),(0:Int),(0:Int)⟩:ah)⟩:aa)⟩:au)
def iG (s:au) (s7:(LI)×Int):LS ((LI)×Int) (LI):=λs18=>bif decide (s18.2<((ae.get s.lists s7.2).length:Int)) then gd (decide<|0<=s18.2/\s18.2<((ae.get s.lists s7.2).length:Int)) <|PR (bif ((ae.get s.lists s7.2).getD s18.2.toNat default).taken then some (1:Int) else some (0:Int)) λs23=>gd (dI (s18.1.length+([(⟨((ae.get s.lists s7.2).getD s18.2.toNat default).value,((ae.get s.lists s7.2).getD s18.2.toNat default).taken,(⟨(((ae.get s.lists s7.2).getD s18.2.toNat default).view).x0,(((ae.get s.lists s7.2).getD s18.2.toNat default).view).x1,(((ae.get s.lists s7.2).getD s18.2.toNat default).view).x2⟩:ah)⟩:ai).value,s23]:LI).length) 1) <|gd (dI ((s18.1++([(⟨((ae.get s.lists s7.2).getD s18.2.toNat default).value,((ae.get s.lists s7.2).getD s18.2.toNat default).taken,(⟨(((ae.get s.lists s7.2).getD s18.2.toNat default).view).x0,(((ae.get s.lists s7.2).getD s18.2.toNat default).view).x1,(((ae.get s.lists s7.2).getD s18.2.toNat default).view).x2⟩:ah)⟩:ai).value,s23]:LI)).length+([((⟨((ae.get s.lists s7.2).getD s18.2.toNat default).value,((ae.get s.lists s7.2).getD s18.2.toNat default).taken,(⟨(((ae.get s.lists s7.2).getD s18.2.toNat default).view).x0,(((ae.get s.lists s7.2).getD s18.2.toNat default).view).x1,(((ae.get s.lists s7.2).getD s18.2.toNat default).view).x2⟩:ah)⟩:ai).view).x0,((⟨((ae.get s.lists s7.2).getD s18.2.toNat default).value,((ae.get s.lists s7.2).getD s18.2.toNat default).taken,(⟨(((ae.get s.lists s7.2).getD s18.2.toNat default).view).x0,(((ae.get s.lists s7.2).getD s18.2.toNat default).view).x1,(((ae.get s.lists s7.2).getD s18.2.toNat default).view).x2⟩:ah)⟩:ai).view).x1,((⟨((ae.get s.lists s7.2).getD s18.2.toNat default).value,((ae.get s.lists s7.2).getD s18.2.toNat default).taken,(⟨(((ae.get s.lists s7.2).getD s18.2.toNat default).view).x0,(((ae.get s.lists s7.2).getD s18.2.toNat default).view).x1,(((ae.get s.lists s7.2).getD s18.2.toNat default).view).x2⟩:ah)⟩:ai).view).x2]:LI).length) 1) <|gd (MG .i64<|s18.2+(1:Int)) <|some (.inl (((s18.1++([(⟨((ae.get s.lists s7.2).getD s18.2.toNat default).value,((ae.get s.lists s7.2).getD s18.2.toNat default).taken,(⟨(((ae.get s.lists s7.2).getD s18.2.toNat default).view).x0,(((ae.get s.lists s7.2).getD s18.2.toNat default).view).x1,(((ae.get s.lists s7.2).getD s18.2.toNat default).view).x2⟩:ah)⟩:ai).value,s23]:LI))++([((⟨((ae.get s.lists s7.2).getD s18.2.toNat default).value,((ae.get s.lists s7.2).getD s18.2.toNat default).taken,(⟨(((ae.get s.lists s7.2).getD s18.2.toNat default).view).x0,(((ae.get s.lists s7.2).getD s18.2.toNat default).view).x1,(((ae.get s.lists s7.2).getD s18.2.toNat default).view).x2⟩:ah)⟩:ai).view).x0,((⟨((ae.get s.lists s7.2).getD s18.2.toNat default).value,((ae.get s.lists s7.2).getD s18.2.toNat default).taken,(⟨(((ae.get s.lists s7.2).getD s18.2.toNat default).view).x0,(((ae.get s.lists s7.2).getD s18.2.toNat default).view).x1,(((ae.get s.lists s7.2).getD s18.2.toNat default).view).x2⟩:ah)⟩:ai).view).x1,((⟨((ae.get s.lists s7.2).getD s18.2.toNat default).value,((ae.get s.lists s7.2).getD s18.2.toNat default).taken,(⟨(((ae.get s.lists s7.2).getD s18.2.toNat default).view).x0,(((ae.get s.lists s7.2).getD s18.2.toNat default).view).x1,(((ae.get s.lists s7.2).getD s18.2.toNat default).view).x2⟩:ah)⟩:ai).view).x2]:LI)),(s18.2+(1:Int)))) else some (.inr s18.1)
def iZ (s:au):LS ((LI)×Int) (LI):=λs7=>bif decide (s7.2<(3:Int)) then PR (gd (decide<|0<=s7.2/\s7.2<3) <|gd (MG .u8 ((ae.get s.lists s7.2).length:Int)) <|gd (dI (s7.1.length+1) 1) <|bA (iG s s7) ((s7.1++[((ae.get s.lists s7.2).length:Int)]),(0:Int))) λs11=>gd (MG .i64<|s7.2+(1:Int)) <|some (.inl (s11,(s7.2+(1:Int)))) else some (.inr s7.1)
def iH (s:au):LS ((LI)×Int) (LI):=λs35=>bif decide (s35.2<(3:Int)) then gd (decide<|0<=s35.2/\s35.2<3) <|gd (dI (s35.1.length+([(⟨(aa.get s.own s35.2).x0,(aa.get s.own s35.2).x1,(aa.get s.own s35.2).x2⟩:ah).x0,(⟨(aa.get s.own s35.2).x0,(aa.get s.own s35.2).x1,(aa.get s.own s35.2).x2⟩:ah).x1,(⟨(aa.get s.own s35.2).x0,(aa.get s.own s35.2).x1,(aa.get s.own s35.2).x2⟩:ah).x2]:LI).length) 1) <|gd (MG .i64<|s35.2+(1:Int)) <|some (.inl ((s35.1++([(⟨(aa.get s.own s35.2).x0,(aa.get s.own s35.2).x1,(aa.get s.own s35.2).x2⟩:ah).x0,(⟨(aa.get s.own s35.2).x0,(aa.get s.own s35.2).x1,(aa.get s.own s35.2).x2⟩:ah).x1,(⟨(aa.get s.own s35.2).x0,(aa.get s.own s35.2).x1,(aa.get s.own s35.2).x2⟩:ah).x2]:LI)),(s35.2+(1:Int)))) else some (.inr s35.1)
def cN (s:au):Option ByteArray:= PR (bV s.values) λv1=>gd (decide<|v1.size<=35184372088832) <|PR (bA (iZ s) ((kU v1),(0:Int))) λs3=>PR (bA (iH s) (s3,(0:Int))) λs31=>some<|strOfNums s31
def da (s:au):Option Bool:= PR (bC s.values) λv1=>some v1
def gP (v:MJ) (s7:(LI)×Int):LS ((LI)×Int) (LI):=λs20=>bif decide (s20.2<(3:Int)) then gd (decide<|0<=s20.2/\s20.2<3) <|gd (MG .i64<|Z3b.get (Z33.get v.reg s7.2) s20.2) <|gd (dI (s20.1.length+1) 8) <|gd (MG .i64<|s20.2+(1:Int)) <|some (.inl ((s20.1++[(Z3b.get (Z33.get v.reg s7.2) s20.2)]),(s20.2+(1:Int)))) else some (.inr s20.1)
def dS (v:MJ):LS ((LI)×Int) (LI):=λs7=>bif decide (s7.2<(v.p.length:Int)) then PR (gd (decide<|0<=s7.2/\s7.2<3) <|bA (gP v s7) (s7.1,(0:Int))) λs13=>gd (MG .i64<|s7.2+(1:Int)) <|some (.inl (s13,(s7.2+(1:Int)))) else some (.inr s7.1)
def dK (v:MJ):LS ((LI)×Int) (LI):=λs43=>bif decide (s43.2<(3:Int)) then gd (decide<|0<=s43.2/\s43.2<3) <|gd (MG .i64<|Z3b.get v.mem s43.2) <|gd (dI (s43.1.length+1) 8) <|gd (MG .i64<|s43.2+(1:Int)) <|some (.inl ((s43.1++[(Z3b.get v.mem s43.2)]),(s43.2+(1:Int)))) else some (.inr s43.1)
def dA (v:MJ):Option (MJ×(LI)):= PR (bA (dS v) (([]:LI),(0:Int))) λs1=>PR (bA (dK v) (s1,(0:Int))) λs37=>some ((⟨v.p,(⟨v.pc.x0,v.pc.x1,v.pc.x2⟩:Z3b),(⟨(⟨v.reg.x0.x0,v.reg.x0.x1,v.reg.x0.x2⟩:Z3b),(⟨v.reg.x1.x0,v.reg.x1.x1,v.reg.x1.x2⟩:Z3b),(⟨v.reg.x2.x0,v.reg.x2.x1,v.reg.x2.x2⟩:Z3b)⟩:Z33),(⟨v.mem.x0,v.mem.x1,v.mem.x2⟩:Z3b)⟩:MJ),s37)
def jm (s:au):LS (Int×Int×Int×Int) (Int×Int×Int):=λs5=>bif decide (s5.2.2.2<(3:Int)) then gd (decide<|0<=s5.2.2.2/\s5.2.2.2<3) <|gd (MG .i64<|((ae.get s.lists s5.2.2.2).length:Int)-(1:Int)) <|gd (decide<|0<=(((ae.get s.lists s5.2.2.2).length:Int)-(1:Int))/\(((ae.get s.lists s5.2.2.2).length:Int)-(1:Int))<((ae.get s.lists s5.2.2.2).length:Int)) <|gd (MG .i64<|s5.2.2.2+(1:Int)) <|some (.inl ((Z3b.set (⟨s5.1,s5.2.1,s5.2.2.1⟩:Z3b) s5.2.2.2<|((ae.get s.lists s5.2.2.2).getD (((ae.get s.lists s5.2.2.2).length:Int)-(1:Int)).toNat default).value).x0,(Z3b.set (⟨s5.1,s5.2.1,s5.2.2.1⟩:Z3b) s5.2.2.2<|((ae.get s.lists s5.2.2.2).getD (((ae.get s.lists s5.2.2.2).length:Int)-(1:Int)).toNat default).value).x1,(Z3b.set (⟨s5.1,s5.2.1,s5.2.2.1⟩:Z3b) s5.2.2.2<|((ae.get s.lists s5.2.2.2).getD (((ae.get s.lists s5.2.2.2).length:Int)-(1:Int)).toNat default).value).x2,(s5.2.2.2+(1:Int)))) else some (.inr (s5.1,s5.2.1,s5.2.2.1))
def bT (s:au):Option (LI):= PR (bA (jm s) (s.values.mem.x0,s.values.mem.x1,s.values.mem.x2,(0:Int))) λs1=>PR (dA (⟨s.values.p,(⟨s.values.pc.x0,s.values.pc.x1,s.values.pc.x2⟩:Z3b),(⟨(⟨s.values.reg.x0.x0,s.values.reg.x0.x1,s.values.reg.x0.x2⟩:Z3b),(⟨s.values.reg.x1.x0,s.values.reg.x1.x1,s.values.reg.x1.x2⟩:Z3b),(⟨s.values.reg.x2.x0,s.values.reg.x2.x1,s.values.reg.x2.x2⟩:Z3b)⟩:Z33),(⟨s1.1,s1.2.1,s1.2.2⟩:Z3b)⟩:MJ)) λv12=>some v12.2
def fM (s:au) (t:Int) (v1:MI×Bool):LS ((LI)×Int) (LI):=λs13=>bif decide (s13.2<=((ae.get s.lists v1.1.Loc).length:Int)) then PR (PR (bif (v1.1.Op==(1:Int)) then some (decide<|s13.2<((ae.get s.lists v1.1.Loc).length:Int)) else bif (v1.1.Op==(5:Int)) then PR (bif decide (s13.2<((ae.get s.lists v1.1.Loc).length:Int)) then gd (decide<|0<=s13.2/\s13.2<((ae.get s.lists v1.1.Loc).length:Int)) <|some (!(((ae.get s.lists v1.1.Loc).getD s13.2.toNat default).taken)) else some false) λs23=>some s23 else PR (bif decide ((ah.get (aa.get s.own t) v1.1.Loc)<s13.2) then gd (MG .i64<|s13.2-(1:Int)) <|gd (decide<|0<=(s13.2-(1:Int))/\(s13.2-(1:Int))<((ae.get s.lists v1.1.Loc).length:Int)) <|some (!(((ae.get s.lists v1.1.Loc).getD (s13.2-(1:Int)).toNat default).taken)) else some false) λs26=>some s26) λs20=>bif s20 then gd (dI (s13.1.length+1) 8) <|some (s13.1++[s13.2]) else some s13.1) λs19=>gd (MG .i64<|s13.2+(1:Int)) <|some (.inl (s19,(s13.2+(1:Int)))) else some (.inr s13.1)
def fO (s:au) (t:Int):Option (LI):= PR (bu s.values t) λv1=>bif !v1.2 then some ([]:LI) else bif (v1.1.Op==(4:Int)) then some ([(0:Int)]:LI) else gd (decide<|0<=v1.1.Loc/\v1.1.Loc<3) <|gd (decide<|0<=t/\t<3) <|gd (MG .i64<|ah.get (aa.get s.own t) v1.1.Loc) <|PR (bA (fM s t v1) (([]:LI),(ah.get (aa.get s.own t) v1.1.Loc))) λs7=>some s7
def gF (s7:(LI)×Int) (v14:(LI)):LS ((LI)×Int) (LI):=λs20=>bif decide (s20.2<(v14.length:Int)) then gd (decide<|0<=s20.2/\s20.2<(v14.length:Int)) <|gd (MG .i64<|(3:Int)*(v14.getD s20.2.toNat default)) <|gd (MG .i64<|((3:Int)*(v14.getD s20.2.toNat default))+s7.2) <|gd (dI (s20.1.length+1) 8) <|gd (MG .i64<|s20.2+(1:Int)) <|some (.inl ((s20.1++[(((3:Int)*(v14.getD s20.2.toNat default))+s7.2)]),(s20.2+(1:Int)))) else some (.inr s20.1)
def ic (s:au):LS ((LI)×Int) (LI):=λs7=>bif decide (s7.2<(s.values.p.length:Int)) then PR (PR (fO s s7.2) λv14=>bA (gF s7 v14) (s7.1,(0:Int))) λs13=>gd (MG .i64<|s7.2+(1:Int)) <|some (.inl (s13,(s7.2+(1:Int)))) else some (.inr s7.1)
def bW (s:au):Option (LI):= PR (bA (ic s) (([]:LI),(0:Int))) λs1=>PR (lc s1) λv38=>some v38
def aX (s:List ai):Option (List ai):= nilK (s.isEmpty) (some ([]:List ai)) (gd (dI (([]:List ai).length+s.length) 5) <|some<|([]:List ai)++s)
def kI (o_:ah):LS (Int×Int×Int×Int) (Int×Int×Int):=λs5=>bif decide (s5.2.2.2<(3:Int)) then gd (decide<|0<=s5.2.2.2/\s5.2.2.2<3) <|gd (MG .i64<|s5.2.2.2+(1:Int)) <|some (.inl ((ah.set (⟨s5.1,s5.2.1,s5.2.2.1⟩:ah) s5.2.2.2<|if (ah.get o_ s5.2.2.2)>(ah.get (⟨s5.1,s5.2.1,s5.2.2.1⟩:ah) s5.2.2.2) then (ah.get o_ s5.2.2.2) else (ah.get (⟨s5.1,s5.2.1,s5.2.2.1⟩:ah) s5.2.2.2)).x0,(ah.set (⟨s5.1,s5.2.1,s5.2.2.1⟩:ah) s5.2.2.2<|if (ah.get o_ s5.2.2.2)>(ah.get (⟨s5.1,s5.2.1,s5.2.2.1⟩:ah) s5.2.2.2) then (ah.get o_ s5.2.2.2) else (ah.get (⟨s5.1,s5.2.1,s5.2.2.1⟩:ah) s5.2.2.2)).x1,(ah.set (⟨s5.1,s5.2.1,s5.2.2.1⟩:ah) s5.2.2.2<|if (ah.get o_ s5.2.2.2)>(ah.get (⟨s5.1,s5.2.1,s5.2.2.1⟩:ah) s5.2.2.2) then (ah.get o_ s5.2.2.2) else (ah.get (⟨s5.1,s5.2.1,s5.2.2.1⟩:ah) s5.2.2.2)).x2,(s5.2.2.2+(1:Int)))) else some (.inr (s5.1,s5.2.1,s5.2.2.1))
def gQ (v:ah) (o_:ah):Option ah:= PR (bA (kI o_) (v.x0,v.x1,v.x2,(0:Int))) λs1=>some (⟨s1.1,s1.2.1,s1.2.2⟩:ah)
def aO (v:ah) (loc:Int) (place:Int):Option ah:= PR (gd (decide<|0<=loc/\loc<3) <|bif decide (place<=(ah.get v loc)) then gd (MG .u8<|(ah.get v loc)+(1:Int)) <|some ((ah.set v loc<|(ah.get v loc)+(1:Int)).x0,(ah.set v loc<|(ah.get v loc)+(1:Int)).x1,(ah.set v loc<|(ah.get v loc)+(1:Int)).x2) else some (v.x0,v.x1,v.x2)) λs1=>some (⟨s1.1,s1.2.1,s1.2.2⟩:ah)
def gG (move:Int) (v21:MI×Bool) (s24:Int×Int×Int×Int×Int×Int×Int×Int×Int×Int×Int×Int×Int×Int×Int×Int×Int×Int×(List ai)×(List ai)×(List ai)):LS ((List ai)×Int) (List ai):=λs52=>bif decide (s52.2<(s24.2.2.2.2.2.2.2.2.2.2.2.2.2.2.2.2.2.2.1.length:Int)) then gd (decide<|0<=s52.2/\s52.2<(s52.1.length:Int)) <|PR (aO ((s52.1.getD s52.2.toNat default).view) v21.1.Loc<|move.tdiv (3:Int)) λv59=>gd (MG .i64<|s52.2+(1:Int)) <|some (.inl ((s52.1.set s52.2.toNat<|{ (s52.1.getD s52.2.toNat default) with view:=v59 }),(s52.2+(1:Int)))) else some (.inr s52.1)
def gH (move:Int) (v21:MI×Bool) (s24:Int×Int×Int×Int×Int×Int×Int×Int×Int×Int×Int×Int×Int×Int×Int×Int×Int×Int×(List ai)×(List ai)×(List ai)):LS ((List ai)×Int) (List ai):=λs70=>bif decide (s70.2<(s24.2.2.2.2.2.2.2.2.2.2.2.2.2.2.2.2.2.2.2.1.length:Int)) then gd (decide<|0<=s70.2/\s70.2<(s70.1.length:Int)) <|PR (aO ((s70.1.getD s70.2.toNat default).view) v21.1.Loc<|move.tdiv (3:Int)) λv77=>gd (MG .i64<|s70.2+(1:Int)) <|some (.inl ((s70.1.set s70.2.toNat<|{ (s70.1.getD s70.2.toNat default) with view:=v77 }),(s70.2+(1:Int)))) else some (.inr s70.1)
def gI (move:Int) (v21:MI×Bool) (s24:Int×Int×Int×Int×Int×Int×Int×Int×Int×Int×Int×Int×Int×Int×Int×Int×Int×Int×(List ai)×(List ai)×(List ai)):LS ((List ai)×Int) (List ai):=λs88=>bif decide (s88.2<(s24.2.2.2.2.2.2.2.2.2.2.2.2.2.2.2.2.2.2.2.2.length:Int)) then gd (decide<|0<=s88.2/\s88.2<(s88.1.length:Int)) <|PR (aO ((s88.1.getD s88.2.toNat default).view) v21.1.Loc<|move.tdiv (3:Int)) λv95=>gd (MG .i64<|s88.2+(1:Int)) <|some (.inl ((s88.1.set s88.2.toNat<|{ (s88.1.getD s88.2.toNat default) with view:=v95 }),(s88.2+(1:Int)))) else some (.inr s88.1)
def fP (move:Int) (v21:MI×Bool) (s24:Int×Int×Int×Int×Int×Int×Int×Int×Int×Int×Int×Int×Int×Int×Int×Int×Int×Int×(List ai)×(List ai)×(List ai)):LS ((List ai)×Int) (List ai):=λm9=>bif decide (m9.2<(s24.2.2.2.2.2.2.2.2.2.2.2.2.2.2.2.2.2.2.1.length:Int)) then gd (decide<|0<=m9.2/\m9.2<(m9.1.length:Int)) <|PR (aO ((m9.1.getD m9.2.toNat default).view) v21.1.Loc<|(move.tdiv (3:Int))+(1:Int)) λv136=>gd (MG .i64<|m9.2+(1:Int)) <|some (.inl ((m9.1.set m9.2.toNat<|{ (m9.1.getD m9.2.toNat default) with view:=v136 }),(m9.2+(1:Int)))) else some (.inr m9.1)
def fQ (move:Int) (v21:MI×Bool) (s24:Int×Int×Int×Int×Int×Int×Int×Int×Int×Int×Int×Int×Int×Int×Int×Int×Int×Int×(List ai)×(List ai)×(List ai)):LS ((List ai)×Int) (List ai):=λng=>bif decide (ng.2<(s24.2.2.2.2.2.2.2.2.2.2.2.2.2.2.2.2.2.2.2.1.length:Int)) then gd (decide<|0<=ng.2/\ng.2<(ng.1.length:Int)) <|PR (aO ((ng.1.getD ng.2.toNat default).view) v21.1.Loc<|(move.tdiv (3:Int))+(1:Int)) λv154=>gd (MG .i64<|ng.2+(1:Int)) <|some (.inl ((ng.1.set ng.2.toNat<|{ (ng.1.getD ng.2.toNat default) with view:=v154 }),(ng.2+(1:Int)))) else some (.inr ng.1)
def fS (move:Int) (v21:MI×Bool) (s24:Int×Int×Int×Int×Int×Int×Int×Int×Int×Int×Int×Int×Int×Int×Int×Int×Int×Int×(List ai)×(List ai)×(List ai)):LS ((List ai)×Int) (List ai):=λni=>bif decide (ni.2<(s24.2.2.2.2.2.2.2.2.2.2.2.2.2.2.2.2.2.2.2.2.length:Int)) then gd (decide<|0<=ni.2/\ni.2<(ni.1.length:Int)) <|PR (aO ((ni.1.getD ni.2.toNat default).view) v21.1.Loc<|(move.tdiv (3:Int))+(1:Int)) λv172=>gd (MG .i64<|ni.2+(1:Int)) <|some (.inl ((ni.1.set ni.2.toNat<|{ (ni.1.getD ni.2.toNat default) with view:=v172 }),(ni.2+(1:Int)))) else some (.inr ni.1)
def bX (s:au) (move:Int):Option au:= gd (decide<|0<=(0:Int)/\(0:Int)<3) <|PR (aX<|ae.get s.lists (0:Int)) λv2=>gd (MG .i64<|(0:Int)+(1:Int)) <|gd (decide<|0<=(1:Int)/\(1:Int)<3) <|PR (aX<|ae.get s.lists (1:Int)) λv8=>gd (MG .i64<|(1:Int)+(1:Int)) <|gd (decide<|0<=(2:Int)/\(2:Int)<3) <|PR (aX<|ae.get s.lists (2:Int)) λv14=>gd (MG .i64<|(2:Int)+(1:Int)) <|gd (decide<|(3:Int)≠0) <|gd (MG .i64<|move.tdiv (3:Int)) <|PR (bu s.values<|move.tmod (3:Int)) λv21=>gd (decide<|0<=(move.tmod (3:Int))/\(move.tmod (3:Int))<3) <|gd (MG .u8<|(Z3b.get s.values.pc<|move.tmod (3:Int))+(1:Int)) <|PR (PR (dz (⟨v21.1.Op,v21.1.Loc,v21.1.Reg,v21.1.Val⟩:MI)) λv25=>bif v25 then gd (decide<|0<=v21.1.Loc/\v21.1.Loc<3) <|gd (decide<|0<=(move.tdiv (3:Int))/\(move.tdiv (3:Int))<((ae.get s.lists v21.1.Loc).length:Int)) <|gd (decide<|0<=v21.1.Reg/\v21.1.Reg<3) <|PR (gQ (aa.get s.own<|move.tmod (3:Int))<|((ae.get s.lists v21.1.Loc).getD (move.tdiv (3:Int)).toNat default).view) λv30=>some (((Z33.set s.values.reg (move.tmod (3:Int))<|Z3b.set (Z33.get s.values.reg<|move.tmod (3:Int)) v21.1.Reg<|((ae.get s.lists v21.1.Loc).getD (move.tdiv (3:Int)).toNat default).value).x0).x0,((Z33.set s.values.reg (move.tmod (3:Int))<|Z3b.set (Z33.get s.values.reg<|move.tmod (3:Int)) v21.1.Reg<|((ae.get s.lists v21.1.Loc).getD (move.tdiv (3:Int)).toNat default).value).x0).x1,((Z33.set s.values.reg (move.tmod (3:Int))<|Z3b.set (Z33.get s.values.reg<|move.tmod (3:Int)) v21.1.Reg<|((ae.get s.lists v21.1.Loc).getD (move.tdiv (3:Int)).toNat default).value).x0).x2,((Z33.set s.values.reg (move.tmod (3:Int))<|Z3b.set (Z33.get s.values.reg<|move.tmod (3:Int)) v21.1.Reg<|((ae.get s.lists v21.1.Loc).getD (move.tdiv (3:Int)).toNat default).value).x1).x0,((Z33.set s.values.reg (move.tmod (3:Int))<|Z3b.set (Z33.get s.values.reg<|move.tmod (3:Int)) v21.1.Reg<|((ae.get s.lists v21.1.Loc).getD (move.tdiv (3:Int)).toNat default).value).x1).x1,((Z33.set s.values.reg (move.tmod (3:Int))<|Z3b.set (Z33.get s.values.reg<|move.tmod (3:Int)) v21.1.Reg<|((ae.get s.lists v21.1.Loc).getD (move.tdiv (3:Int)).toNat default).value).x1).x2,((Z33.set s.values.reg (move.tmod (3:Int))<|Z3b.set (Z33.get s.values.reg<|move.tmod (3:Int)) v21.1.Reg<|((ae.get s.lists v21.1.Loc).getD (move.tdiv (3:Int)).toNat default).value).x2).x0,((Z33.set s.values.reg (move.tmod (3:Int))<|Z3b.set (Z33.get s.values.reg<|move.tmod (3:Int)) v21.1.Reg<|((ae.get s.lists v21.1.Loc).getD (move.tdiv (3:Int)).toNat default).value).x2).x1,((Z33.set s.values.reg (move.tmod (3:Int))<|Z3b.set (Z33.get s.values.reg<|move.tmod (3:Int)) v21.1.Reg<|((ae.get s.lists v21.1.Loc).getD (move.tdiv (3:Int)).toNat default).value).x2).x2,((aa.set s.own (move.tmod (3:Int)) v30).x0).x0,((aa.set s.own (move.tmod (3:Int)) v30).x0).x1,((aa.set s.own (move.tmod (3:Int)) v30).x0).x2,((aa.set s.own (move.tmod (3:Int)) v30).x1).x0,((aa.set s.own (move.tmod (3:Int)) v30).x1).x1,((aa.set s.own (move.tmod (3:Int)) v30).x1).x2,((aa.set s.own (move.tmod (3:Int)) v30).x2).x0,((aa.set s.own (move.tmod (3:Int)) v30).x2).x1,((aa.set s.own (move.tmod (3:Int)) v30).x2).x2,v2,v8,v14) else some (s.values.reg.x0.x0,s.values.reg.x0.x1,s.values.reg.x0.x2,s.values.reg.x1.x0,s.values.reg.x1.x1,s.values.reg.x1.x2,s.values.reg.x2.x0,s.values.reg.x2.x1,s.values.reg.x2.x2,s.own.x0.x0,s.own.x0.x1,s.own.x0.x2,s.own.x1.x0,s.own.x1.x1,s.own.x1.x2,s.own.x2.x0,s.own.x2.x1,s.own.x2.x2,v2,v8,v14)) λs24=>PR (PR (bif (v21.1.Op==(2:Int)) then some (v21.1.Op==(2:Int)) else some (v21.1.Op==(3:Int))) λs41=>bif s41 then gd (MG .u8<|move.tdiv (3:Int)) <|PR (bH s.values (move.tmod (3:Int)) (⟨v21.1.Op,v21.1.Loc,v21.1.Reg,v21.1.Val⟩:MI)) λv45=>PR (bA (gG move v21 s24) (s24.2.2.2.2.2.2.2.2.2.2.2.2.2.2.2.2.2.2.1,(0:Int))) λs46=>PR (bA (gH move v21 s24) (s24.2.2.2.2.2.2.2.2.2.2.2.2.2.2.2.2.2.2.2.1,(0:Int))) λs64=>PR (bA (gI move v21 s24) (s24.2.2.2.2.2.2.2.2.2.2.2.2.2.2.2.2.2.2.2.2,(0:Int))) λs82=>PR (aO (⟨s24.2.2.2.2.2.2.2.2.2.1,s24.2.2.2.2.2.2.2.2.2.2.1,s24.2.2.2.2.2.2.2.2.2.2.2.1⟩:ah) v21.1.Loc<|move.tdiv (3:Int)) λaH=>PR (aO (⟨s24.2.2.2.2.2.2.2.2.2.2.2.2.1,s24.2.2.2.2.2.2.2.2.2.2.2.2.2.1,s24.2.2.2.2.2.2.2.2.2.2.2.2.2.2.1⟩:ah) v21.1.Loc<|move.tdiv (3:Int)) λaI=>PR (aO (⟨s24.2.2.2.2.2.2.2.2.2.2.2.2.2.2.2.1,s24.2.2.2.2.2.2.2.2.2.2.2.2.2.2.2.2.1,s24.2.2.2.2.2.2.2.2.2.2.2.2.2.2.2.2.2.1⟩:ah) v21.1.Loc<|move.tdiv (3:Int)) λaJ=>gd (decide<|0<=v21.1.Loc/\v21.1.Loc<3) <|bif decide (v21.1.Loc=(0:Int)) then PR (cK s46 (move.tdiv (3:Int)) ([(⟨v45,false,(aa.get (⟨((aa.set (⟨aH,aI,aJ⟩:aa) (move.tmod (3:Int))<|ah.set (aa.get (⟨aH,aI,aJ⟩:aa)<|move.tmod (3:Int)) v21.1.Loc<|move.tdiv (3:Int)).x0),((aa.set (⟨aH,aI,aJ⟩:aa) (move.tmod (3:Int))<|ah.set (aa.get (⟨aH,aI,aJ⟩:aa)<|move.tmod (3:Int)) v21.1.Loc<|move.tdiv (3:Int)).x1),((aa.set (⟨aH,aI,aJ⟩:aa) (move.tmod (3:Int))<|ah.set (aa.get (⟨aH,aI,aJ⟩:aa)<|move.tmod (3:Int)) v21.1.Loc<|move.tdiv (3:Int)).x2)⟩:aa)<|move.tmod (3:Int))⟩:ai)]:List ai)) λv105=>some (((aa.set (⟨aH,aI,aJ⟩:aa) (move.tmod (3:Int))<|ah.set (aa.get (⟨aH,aI,aJ⟩:aa)<|move.tmod (3:Int)) v21.1.Loc<|move.tdiv (3:Int)).x0).x0,((aa.set (⟨aH,aI,aJ⟩:aa) (move.tmod (3:Int))<|ah.set (aa.get (⟨aH,aI,aJ⟩:aa)<|move.tmod (3:Int)) v21.1.Loc<|move.tdiv (3:Int)).x0).x1,((aa.set (⟨aH,aI,aJ⟩:aa) (move.tmod (3:Int))<|ah.set (aa.get (⟨aH,aI,aJ⟩:aa)<|move.tmod (3:Int)) v21.1.Loc<|move.tdiv (3:Int)).x0).x2,((aa.set (⟨aH,aI,aJ⟩:aa) (move.tmod (3:Int))<|ah.set (aa.get (⟨aH,aI,aJ⟩:aa)<|move.tmod (3:Int)) v21.1.Loc<|move.tdiv (3:Int)).x1).x0,((aa.set (⟨aH,aI,aJ⟩:aa) (move.tmod (3:Int))<|ah.set (aa.get (⟨aH,aI,aJ⟩:aa)<|move.tmod (3:Int)) v21.1.Loc<|move.tdiv (3:Int)).x1).x1,((aa.set (⟨aH,aI,aJ⟩:aa) (move.tmod (3:Int))<|ah.set (aa.get (⟨aH,aI,aJ⟩:aa)<|move.tmod (3:Int)) v21.1.Loc<|move.tdiv (3:Int)).x1).x2,((aa.set (⟨aH,aI,aJ⟩:aa) (move.tmod (3:Int))<|ah.set (aa.get (⟨aH,aI,aJ⟩:aa)<|move.tmod (3:Int)) v21.1.Loc<|move.tdiv (3:Int)).x2).x0,((aa.set (⟨aH,aI,aJ⟩:aa) (move.tmod (3:Int))<|ah.set (aa.get (⟨aH,aI,aJ⟩:aa)<|move.tmod (3:Int)) v21.1.Loc<|move.tdiv (3:Int)).x2).x1,((aa.set (⟨aH,aI,aJ⟩:aa) (move.tmod (3:Int))<|ah.set (aa.get (⟨aH,aI,aJ⟩:aa)<|move.tmod (3:Int)) v21.1.Loc<|move.tdiv (3:Int)).x2).x2,v105,s64,s82) else bif decide (v21.1.Loc=(1:Int)) then PR (cK s64 (move.tdiv (3:Int)) ([(⟨v45,false,(aa.get (⟨((aa.set (⟨aH,aI,aJ⟩:aa) (move.tmod (3:Int))<|ah.set (aa.get (⟨aH,aI,aJ⟩:aa)<|move.tmod (3:Int)) v21.1.Loc<|move.tdiv (3:Int)).x0),((aa.set (⟨aH,aI,aJ⟩:aa) (move.tmod (3:Int))<|ah.set (aa.get (⟨aH,aI,aJ⟩:aa)<|move.tmod (3:Int)) v21.1.Loc<|move.tdiv (3:Int)).x1),((aa.set (⟨aH,aI,aJ⟩:aa) (move.tmod (3:Int))<|ah.set (aa.get (⟨aH,aI,aJ⟩:aa)<|move.tmod (3:Int)) v21.1.Loc<|move.tdiv (3:Int)).x2)⟩:aa)<|move.tmod (3:Int))⟩:ai)]:List ai)) λv110=>some (((aa.set (⟨aH,aI,aJ⟩:aa) (move.tmod (3:Int))<|ah.set (aa.get (⟨aH,aI,aJ⟩:aa)<|move.tmod (3:Int)) v21.1.Loc<|move.tdiv (3:Int)).x0).x0,((aa.set (⟨aH,aI,aJ⟩:aa) (move.tmod (3:Int))<|ah.set (aa.get (⟨aH,aI,aJ⟩:aa)<|move.tmod (3:Int)) v21.1.Loc<|move.tdiv (3:Int)).x0).x1,((aa.set (⟨aH,aI,aJ⟩:aa) (move.tmod (3:Int))<|ah.set (aa.get (⟨aH,aI,aJ⟩:aa)<|move.tmod (3:Int)) v21.1.Loc<|move.tdiv (3:Int)).x0).x2,((aa.set (⟨aH,aI,aJ⟩:aa) (move.tmod (3:Int))<|ah.set (aa.get (⟨aH,aI,aJ⟩:aa)<|move.tmod (3:Int)) v21.1.Loc<|move.tdiv (3:Int)).x1).x0,((aa.set (⟨aH,aI,aJ⟩:aa) (move.tmod (3:Int))<|ah.set (aa.get (⟨aH,aI,aJ⟩:aa)<|move.tmod (3:Int)) v21.1.Loc<|move.tdiv (3:Int)).x1).x1,((aa.set (⟨aH,aI,aJ⟩:aa) (move.tmod (3:Int))<|ah.set (aa.get (⟨aH,aI,aJ⟩:aa)<|move.tmod (3:Int)) v21.1.Loc<|move.tdiv (3:Int)).x1).x2,((aa.set (⟨aH,aI,aJ⟩:aa) (move.tmod (3:Int))<|ah.set (aa.get (⟨aH,aI,aJ⟩:aa)<|move.tmod (3:Int)) v21.1.Loc<|move.tdiv (3:Int)).x2).x0,((aa.set (⟨aH,aI,aJ⟩:aa) (move.tmod (3:Int))<|ah.set (aa.get (⟨aH,aI,aJ⟩:aa)<|move.tmod (3:Int)) v21.1.Loc<|move.tdiv (3:Int)).x2).x1,((aa.set (⟨aH,aI,aJ⟩:aa) (move.tmod (3:Int))<|ah.set (aa.get (⟨aH,aI,aJ⟩:aa)<|move.tmod (3:Int)) v21.1.Loc<|move.tdiv (3:Int)).x2).x2,s46,v110,s82) else bif decide (v21.1.Loc=(2:Int)) then PR (cK s82 (move.tdiv (3:Int)) ([(⟨v45,false,(aa.get (⟨((aa.set (⟨aH,aI,aJ⟩:aa) (move.tmod (3:Int))<|ah.set (aa.get (⟨aH,aI,aJ⟩:aa)<|move.tmod (3:Int)) v21.1.Loc<|move.tdiv (3:Int)).x0),((aa.set (⟨aH,aI,aJ⟩:aa) (move.tmod (3:Int))<|ah.set (aa.get (⟨aH,aI,aJ⟩:aa)<|move.tmod (3:Int)) v21.1.Loc<|move.tdiv (3:Int)).x1),((aa.set (⟨aH,aI,aJ⟩:aa) (move.tmod (3:Int))<|ah.set (aa.get (⟨aH,aI,aJ⟩:aa)<|move.tmod (3:Int)) v21.1.Loc<|move.tdiv (3:Int)).x2)⟩:aa)<|move.tmod (3:Int))⟩:ai)]:List ai)) λv115=>some (((aa.set (⟨aH,aI,aJ⟩:aa) (move.tmod (3:Int))<|ah.set (aa.get (⟨aH,aI,aJ⟩:aa)<|move.tmod (3:Int)) v21.1.Loc<|move.tdiv (3:Int)).x0).x0,((aa.set (⟨aH,aI,aJ⟩:aa) (move.tmod (3:Int))<|ah.set (aa.get (⟨aH,aI,aJ⟩:aa)<|move.tmod (3:Int)) v21.1.Loc<|move.tdiv (3:Int)).x0).x1,((aa.set (⟨aH,aI,aJ⟩:aa) (move.tmod (3:Int))<|ah.set (aa.get (⟨aH,aI,aJ⟩:aa)<|move.tmod (3:Int)) v21.1.Loc<|move.tdiv (3:Int)).x0).x2,((aa.set (⟨aH,aI,aJ⟩:aa) (move.tmod (3:Int))<|ah.set (aa.get (⟨aH,aI,aJ⟩:aa)<|move.tmod (3:Int)) v21.1.Loc<|move.tdiv (3:Int)).x1).x0,((aa.set (⟨aH,aI,aJ⟩:aa) (move.tmod (3:Int))<|ah.set (aa.get (⟨aH,aI,aJ⟩:aa)<|move.tmod (3:Int)) v21.1.Loc<|move.tdiv (3:Int)).x1).x1,((aa.set (⟨aH,aI,aJ⟩:aa) (move.tmod (3:Int))<|ah.set (aa.get (⟨aH,aI,aJ⟩:aa)<|move.tmod (3:Int)) v21.1.Loc<|move.tdiv (3:Int)).x1).x2,((aa.set (⟨aH,aI,aJ⟩:aa) (move.tmod (3:Int))<|ah.set (aa.get (⟨aH,aI,aJ⟩:aa)<|move.tmod (3:Int)) v21.1.Loc<|move.tdiv (3:Int)).x2).x0,((aa.set (⟨aH,aI,aJ⟩:aa) (move.tmod (3:Int))<|ah.set (aa.get (⟨aH,aI,aJ⟩:aa)<|move.tmod (3:Int)) v21.1.Loc<|move.tdiv (3:Int)).x2).x1,((aa.set (⟨aH,aI,aJ⟩:aa) (move.tmod (3:Int))<|ah.set (aa.get (⟨aH,aI,aJ⟩:aa)<|move.tmod (3:Int)) v21.1.Loc<|move.tdiv (3:Int)).x2).x2,s46,s64,v115) else none else bif (v21.1.Op==(5:Int)) then gd (MG .i64<|(move.tdiv (3:Int))+(1:Int)) <|gd (MG .u8<|(move.tdiv (3:Int))+(1:Int)) <|gd (MG .u8 v21.1.Val) <|PR (bA (fP move v21 s24) (s24.2.2.2.2.2.2.2.2.2.2.2.2.2.2.2.2.2.2.1,(0:Int))) λl6=>PR (bA (fQ move v21 s24) (s24.2.2.2.2.2.2.2.2.2.2.2.2.2.2.2.2.2.2.2.1,(0:Int))) λnR=>PR (bA (fS move v21 s24) (s24.2.2.2.2.2.2.2.2.2.2.2.2.2.2.2.2.2.2.2.2,(0:Int))) λqp=>PR (aO (⟨s24.2.2.2.2.2.2.2.2.2.1,s24.2.2.2.2.2.2.2.2.2.2.1,s24.2.2.2.2.2.2.2.2.2.2.2.1⟩:ah) v21.1.Loc<|(move.tdiv (3:Int))+(1:Int)) λaB=>PR (aO (⟨s24.2.2.2.2.2.2.2.2.2.2.2.2.1,s24.2.2.2.2.2.2.2.2.2.2.2.2.2.1,s24.2.2.2.2.2.2.2.2.2.2.2.2.2.2.1⟩:ah) v21.1.Loc<|(move.tdiv (3:Int))+(1:Int)) λaC=>PR (aO (⟨s24.2.2.2.2.2.2.2.2.2.2.2.2.2.2.2.1,s24.2.2.2.2.2.2.2.2.2.2.2.2.2.2.2.2.1,s24.2.2.2.2.2.2.2.2.2.2.2.2.2.2.2.2.2.1⟩:ah) v21.1.Loc<|(move.tdiv (3:Int))+(1:Int)) λaD=>gd (decide<|0<=v21.1.Loc/\v21.1.Loc<3) <|bif decide (v21.1.Loc=(0:Int)) then PR (cK l6 ((move.tdiv (3:Int))+(1:Int)) ([(⟨v21.1.Val,false,(aa.get (⟨((aa.set (⟨aB,aC,aD⟩:aa) (move.tmod (3:Int))<|ah.set (aa.get (⟨aB,aC,aD⟩:aa)<|move.tmod (3:Int)) v21.1.Loc<|(move.tdiv (3:Int))+(1:Int)).x0),((aa.set (⟨aB,aC,aD⟩:aa) (move.tmod (3:Int))<|ah.set (aa.get (⟨aB,aC,aD⟩:aa)<|move.tmod (3:Int)) v21.1.Loc<|(move.tdiv (3:Int))+(1:Int)).x1),((aa.set (⟨aB,aC,aD⟩:aa) (move.tmod (3:Int))<|ah.set (aa.get (⟨aB,aC,aD⟩:aa)<|move.tmod (3:Int)) v21.1.Loc<|(move.tdiv (3:Int))+(1:Int)).x2)⟩:aa)<|move.tmod (3:Int))⟩:ai)]:List ai)) λv182=>gd (decide<|0<=(move.tdiv (3:Int))/\(move.tdiv (3:Int))<(v182.length:Int)) <|some (((aa.set (⟨aB,aC,aD⟩:aa) (move.tmod (3:Int))<|ah.set (aa.get (⟨aB,aC,aD⟩:aa)<|move.tmod (3:Int)) v21.1.Loc<|(move.tdiv (3:Int))+(1:Int)).x0).x0,((aa.set (⟨aB,aC,aD⟩:aa) (move.tmod (3:Int))<|ah.set (aa.get (⟨aB,aC,aD⟩:aa)<|move.tmod (3:Int)) v21.1.Loc<|(move.tdiv (3:Int))+(1:Int)).x0).x1,((aa.set (⟨aB,aC,aD⟩:aa) (move.tmod (3:Int))<|ah.set (aa.get (⟨aB,aC,aD⟩:aa)<|move.tmod (3:Int)) v21.1.Loc<|(move.tdiv (3:Int))+(1:Int)).x0).x2,((aa.set (⟨aB,aC,aD⟩:aa) (move.tmod (3:Int))<|ah.set (aa.get (⟨aB,aC,aD⟩:aa)<|move.tmod (3:Int)) v21.1.Loc<|(move.tdiv (3:Int))+(1:Int)).x1).x0,((aa.set (⟨aB,aC,aD⟩:aa) (move.tmod (3:Int))<|ah.set (aa.get (⟨aB,aC,aD⟩:aa)<|move.tmod (3:Int)) v21.1.Loc<|(move.tdiv (3:Int))+(1:Int)).x1).x1,((aa.set (⟨aB,aC,aD⟩:aa) (move.tmod (3:Int))<|ah.set (aa.get (⟨aB,aC,aD⟩:aa)<|move.tmod (3:Int)) v21.1.Loc<|(move.tdiv (3:Int))+(1:Int)).x1).x2,((aa.set (⟨aB,aC,aD⟩:aa) (move.tmod (3:Int))<|ah.set (aa.get (⟨aB,aC,aD⟩:aa)<|move.tmod (3:Int)) v21.1.Loc<|(move.tdiv (3:Int))+(1:Int)).x2).x0,((aa.set (⟨aB,aC,aD⟩:aa) (move.tmod (3:Int))<|ah.set (aa.get (⟨aB,aC,aD⟩:aa)<|move.tmod (3:Int)) v21.1.Loc<|(move.tdiv (3:Int))+(1:Int)).x2).x1,((aa.set (⟨aB,aC,aD⟩:aa) (move.tmod (3:Int))<|ah.set (aa.get (⟨aB,aC,aD⟩:aa)<|move.tmod (3:Int)) v21.1.Loc<|(move.tdiv (3:Int))+(1:Int)).x2).x2,(v182.set ((move.tdiv (3:Int)).toNat)<|{ (v182.getD ((move.tdiv (3:Int)).toNat) default) with taken:=true }),nR,qp) else bif decide (v21.1.Loc=(1:Int)) then PR (cK nR ((move.tdiv (3:Int))+(1:Int)) ([(⟨v21.1.Val,false,(aa.get (⟨((aa.set (⟨aB,aC,aD⟩:aa) (move.tmod (3:Int))<|ah.set (aa.get (⟨aB,aC,aD⟩:aa)<|move.tmod (3:Int)) v21.1.Loc<|(move.tdiv (3:Int))+(1:Int)).x0),((aa.set (⟨aB,aC,aD⟩:aa) (move.tmod (3:Int))<|ah.set (aa.get (⟨aB,aC,aD⟩:aa)<|move.tmod (3:Int)) v21.1.Loc<|(move.tdiv (3:Int))+(1:Int)).x1),((aa.set (⟨aB,aC,aD⟩:aa) (move.tmod (3:Int))<|ah.set (aa.get (⟨aB,aC,aD⟩:aa)<|move.tmod (3:Int)) v21.1.Loc<|(move.tdiv (3:Int))+(1:Int)).x2)⟩:aa)<|move.tmod (3:Int))⟩:ai)]:List ai)) λv188=>gd (decide<|0<=(move.tdiv (3:Int))/\(move.tdiv (3:Int))<(v188.length:Int)) <|some (((aa.set (⟨aB,aC,aD⟩:aa) (move.tmod (3:Int))<|ah.set (aa.get (⟨aB,aC,aD⟩:aa)<|move.tmod (3:Int)) v21.1.Loc<|(move.tdiv (3:Int))+(1:Int)).x0).x0,((aa.set (⟨aB,aC,aD⟩:aa) (move.tmod (3:Int))<|ah.set (aa.get (⟨aB,aC,aD⟩:aa)<|move.tmod (3:Int)) v21.1.Loc<|(move.tdiv (3:Int))+(1:Int)).x0).x1,((aa.set (⟨aB,aC,aD⟩:aa) (move.tmod (3:Int))<|ah.set (aa.get (⟨aB,aC,aD⟩:aa)<|move.tmod (3:Int)) v21.1.Loc<|(move.tdiv (3:Int))+(1:Int)).x0).x2,((aa.set (⟨aB,aC,aD⟩:aa) (move.tmod (3:Int))<|ah.set (aa.get (⟨aB,aC,aD⟩:aa)<|move.tmod (3:Int)) v21.1.Loc<|(move.tdiv (3:Int))+(1:Int)).x1).x0,((aa.set (⟨aB,aC,aD⟩:aa) (move.tmod (3:Int))<|ah.set (aa.get (⟨aB,aC,aD⟩:aa)<|move.tmod (3:Int)) v21.1.Loc<|(move.tdiv (3:Int))+(1:Int)).x1).x1,((aa.set (⟨aB,aC,aD⟩:aa) (move.tmod (3:Int))<|ah.set (aa.get (⟨aB,aC,aD⟩:aa)<|move.tmod (3:Int)) v21.1.Loc<|(move.tdiv (3:Int))+(1:Int)).x1).x2,((aa.set (⟨aB,aC,aD⟩:aa) (move.tmod (3:Int))<|ah.set (aa.get (⟨aB,aC,aD⟩:aa)<|move.tmod (3:Int)) v21.1.Loc<|(move.tdiv (3:Int))+(1:Int)).x2).x0,((aa.set (⟨aB,aC,aD⟩:aa) (move.tmod (3:Int))<|ah.set (aa.get (⟨aB,aC,aD⟩:aa)<|move.tmod (3:Int)) v21.1.Loc<|(move.tdiv (3:Int))+(1:Int)).x2).x1,((aa.set (⟨aB,aC,aD⟩:aa) (move.tmod (3:Int))<|ah.set (aa.get (⟨aB,aC,aD⟩:aa)<|move.tmod (3:Int)) v21.1.Loc<|(move.tdiv (3:Int))+(1:Int)).x2).x2,l6,(v188.set ((move.tdiv (3:Int)).toNat)<|{ (v188.getD ((move.tdiv (3:Int)).toNat) default) with taken:=true }),qp) else bif decide (v21.1.Loc=(2:Int)) then PR (cK qp ((move.tdiv (3:Int))+(1:Int)) ([(⟨v21.1.Val,false,(aa.get (⟨((aa.set (⟨aB,aC,aD⟩:aa) (move.tmod (3:Int))<|ah.set (aa.get (⟨aB,aC,aD⟩:aa)<|move.tmod (3:Int)) v21.1.Loc<|(move.tdiv (3:Int))+(1:Int)).x0),((aa.set (⟨aB,aC,aD⟩:aa) (move.tmod (3:Int))<|ah.set (aa.get (⟨aB,aC,aD⟩:aa)<|move.tmod (3:Int)) v21.1.Loc<|(move.tdiv (3:Int))+(1:Int)).x1),((aa.set (⟨aB,aC,aD⟩:aa) (move.tmod (3:Int))<|ah.set (aa.get (⟨aB,aC,aD⟩:aa)<|move.tmod (3:Int)) v21.1.Loc<|(move.tdiv (3:Int))+(1:Int)).x2)⟩:aa)<|move.tmod (3:Int))⟩:ai)]:List ai)) λv194=>gd (decide<|0<=(move.tdiv (3:Int))/\(move.tdiv (3:Int))<(v194.length:Int)) <|some (((aa.set (⟨aB,aC,aD⟩:aa) (move.tmod (3:Int))<|ah.set (aa.get (⟨aB,aC,aD⟩:aa)<|move.tmod (3:Int)) v21.1.Loc<|(move.tdiv (3:Int))+(1:Int)).x0).x0,((aa.set (⟨aB,aC,aD⟩:aa) (move.tmod (3:Int))<|ah.set (aa.get (⟨aB,aC,aD⟩:aa)<|move.tmod (3:Int)) v21.1.Loc<|(move.tdiv (3:Int))+(1:Int)).x0).x1,((aa.set (⟨aB,aC,aD⟩:aa) (move.tmod (3:Int))<|ah.set (aa.get (⟨aB,aC,aD⟩:aa)<|move.tmod (3:Int)) v21.1.Loc<|(move.tdiv (3:Int))+(1:Int)).x0).x2,((aa.set (⟨aB,aC,aD⟩:aa) (move.tmod (3:Int))<|ah.set (aa.get (⟨aB,aC,aD⟩:aa)<|move.tmod (3:Int)) v21.1.Loc<|(move.tdiv (3:Int))+(1:Int)).x1).x0,((aa.set (⟨aB,aC,aD⟩:aa) (move.tmod (3:Int))<|ah.set (aa.get (⟨aB,aC,aD⟩:aa)<|move.tmod (3:Int)) v21.1.Loc<|(move.tdiv (3:Int))+(1:Int)).x1).x1,((aa.set (⟨aB,aC,aD⟩:aa) (move.tmod (3:Int))<|ah.set (aa.get (⟨aB,aC,aD⟩:aa)<|move.tmod (3:Int)) v21.1.Loc<|(move.tdiv (3:Int))+(1:Int)).x1).x2,((aa.set (⟨aB,aC,aD⟩:aa) (move.tmod (3:Int))<|ah.set (aa.get (⟨aB,aC,aD⟩:aa)<|move.tmod (3:Int)) v21.1.Loc<|(move.tdiv (3:Int))+(1:Int)).x2).x0,((aa.set (⟨aB,aC,aD⟩:aa) (move.tmod (3:Int))<|ah.set (aa.get (⟨aB,aC,aD⟩:aa)<|move.tmod (3:Int)) v21.1.Loc<|(move.tdiv (3:Int))+(1:Int)).x2).x1,((aa.set (⟨aB,aC,aD⟩:aa) (move.tmod (3:Int))<|ah.set (aa.get (⟨aB,aC,aD⟩:aa)<|move.tmod (3:Int)) v21.1.Loc<|(move.tdiv (3:Int))+(1:Int)).x2).x2,l6,nR,(v194.set ((move.tdiv (3:Int)).toNat)<|{ (v194.getD ((move.tdiv (3:Int)).toNat) default) with taken:=true })) else none else some (s24.2.2.2.2.2.2.2.2.2.1,s24.2.2.2.2.2.2.2.2.2.2.1,s24.2.2.2.2.2.2.2.2.2.2.2.1,s24.2.2.2.2.2.2.2.2.2.2.2.2.1,s24.2.2.2.2.2.2.2.2.2.2.2.2.2.1,s24.2.2.2.2.2.2.2.2.2.2.2.2.2.2.1,s24.2.2.2.2.2.2.2.2.2.2.2.2.2.2.2.1,s24.2.2.2.2.2.2.2.2.2.2.2.2.2.2.2.2.1,s24.2.2.2.2.2.2.2.2.2.2.2.2.2.2.2.2.2.1,s24.2.2.2.2.2.2.2.2.2.2.2.2.2.2.2.2.2.2.1,s24.2.2.2.2.2.2.2.2.2.2.2.2.2.2.2.2.2.2.2.1,s24.2.2.2.2.2.2.2.2.2.2.2.2.2.2.2.2.2.2.2.2)) λs40=>some (⟨(⟨s.values.p,(⟨(Z3b.set s.values.pc (move.tmod (3:Int))<|(Z3b.get s.values.pc<|move.tmod (3:Int))+(1:Int)).x0,(Z3b.set s.values.pc (move.tmod (3:Int))<|(Z3b.get s.values.pc<|move.tmod (3:Int))+(1:Int)).x1,(Z3b.set s.values.pc (move.tmod (3:Int))<|(Z3b.get s.values.pc<|move.tmod (3:Int))+(1:Int)).x2⟩:Z3b),(⟨(⟨s24.1,s24.2.1,s24.2.2.1⟩:Z3b),(⟨s24.2.2.2.1,s24.2.2.2.2.1,s24.2.2.2.2.2.1⟩:Z3b),(⟨s24.2.2.2.2.2.2.1,s24.2.2.2.2.2.2.2.1,s24.2.2.2.2.2.2.2.2.1⟩:Z3b)⟩:Z33),(⟨s.values.mem.x0,s.values.mem.x1,s.values.mem.x2⟩:Z3b)⟩:MJ),(⟨s40.2.2.2.2.2.2.2.2.2.1,s40.2.2.2.2.2.2.2.2.2.2.1,s40.2.2.2.2.2.2.2.2.2.2.2⟩:ae),(⟨(⟨s40.1,s40.2.1,s40.2.2.1⟩:ah),(⟨s40.2.2.2.1,s40.2.2.2.2.1,s40.2.2.2.2.2.1⟩:ah),(⟨s40.2.2.2.2.2.2.1,s40.2.2.2.2.2.2.2.1,s40.2.2.2.2.2.2.2.2.1⟩:ah)⟩:aa)⟩:au)
def gT (s9:(List<|ByteArray×Bool)×(LL)×(List au)) (s19:(LL)) (v27:(LI)):LS ((List<|ByteArray×Bool)×(List au)×Int) (((List<|ByteArray×Bool)×(LL)×(List au)) ⊕ ((List<|ByteArray×Bool)×(LL))):=λs31=>bif decide (s31.2.2<(v27.length:Int)) then PR (gd (decide<|0<=s31.2.2/\s31.2.2<(v27.length:Int)) <|PR (bX (s9.2.2.getD (((s9.2.2.length:Int)-(1:Int)).toNat) default)<|v27.getD s31.2.2.toNat default) λv37=>PR (cN v37) λv38=>bif !((zm s31.1 v38).getD false) then gd (dI (s31.2.1.length+1) 16) <|some ((um s31.1 v38 true),(s31.2.1++[v37])) else some (s31.1,s31.2.1)) λs35=>gd (MG .i64<|s31.2.2+(1:Int)) <|some (.inl (s35.1,s35.2,(s31.2.2+(1:Int)))) else some (.inr<|.inl (s31.1,s19,s31.2.1))
def gV:LS ((List<|ByteArray×Bool)×(LL)×(List au)) ((List<|ByteArray×Bool)×(LL)):=λs9=>bif decide ((0:Int)<(s9.2.2.length:Int)) then gd (MG .i64<|(s9.2.2.length:Int)-(1:Int)) <|gd (decide<|0<=((s9.2.2.length:Int)-(1:Int))/\((s9.2.2.length:Int)-(1:Int))<(s9.2.2.length:Int)) <|gd (decide<|0<=(0:Int)/\(0:Int)<=((s9.2.2.length:Int)-(1:Int))/\((s9.2.2.length:Int)-(1:Int))<=(s9.2.2.length:Int)) <|PR (PR (da<|s9.2.2.getD (((s9.2.2.length:Int)-(1:Int)).toNat) default) λv20=>bif v20 then PR (bT<|s9.2.2.getD (((s9.2.2.length:Int)-(1:Int)).toNat) default) λv22=>gd (dI (s9.2.1.length+1) 24) <|some (s9.2.1++[v22]) else some s9.2.1) λs19=>PR (bW<|s9.2.2.getD (((s9.2.2.length:Int)-(1:Int)).toNat) default) λv27=>bA (gT s9 s19 v27) (s9.1,((s9.2.2.drop (0:Int).toNat).take<|((s9.2.2.length:Int)-(1:Int)).toNat-(0:Int).toNat),(0:Int)) else some (.inr (s9.1,s9.2.1))
def fB (start:au):Option ((LL)×Int):= PR (cN start) λv1=>PR (bA gV ((um ([]:List<|ByteArray×Bool) v1 true),([]:LL),([start]:List au))) λs2=>PR (aR s2.2) λv46=>some (v46,(s2.1.length:Int))
def mg (p:List<|List MI):Option (LL):= PR (aA p) λv1=>bif !v1 then some ([]:LL) else PR (jl p) λv3=>PR (fB v3) λv4=>some v4.1
def aK (p:List<|List MI) (name:ByteArray):Option (LL):= bif decide (name=(⟨#[115,101,113]⟩:ByteArray)) then PR (jk p) λv2=>some v2 else bif decide (name=(⟨#[116,115,111]⟩:ByteArray)) then PR (nG p) λv4=>some v4 else bif decide (name=(⟨#[112,115,111]⟩:ByteArray)) then PR (nH p) λv6=>some v6 else bif decide (name=(⟨#[114,97]⟩:ByteArray)) then PR (mg p) λv8=>some v8 else some ([]:LL)
def MN {α:Type} (x:Option α) (P:α->Prop):Prop:=∃ v,x=some v/\P v
section
variable {α β S E:Type} {P:α->Prop} {Q:β->Prop} {x y:Option α}
theorem MN.pure {v:α} (h:P v):MN (some v) P:=⟨v,rfl,h⟩
theorem MN.mono {P':α->Prop} (h:MN x P) (k:∀ v,P v->P' v):MN x P':=by
 obtain ⟨v,e,p⟩:=h;exact ⟨v,e,k v p⟩
theorem MN.bind {o:Option α} {f:α->Option β} (h:MN o P) (k:∀ v,P v->MN (f v) Q):MN (o.bind f) Q:=by
 obtain ⟨v,rfl,p⟩:=h;exact k v p
theorem MN.gd {b:Bool} (hb:b=true) (h:MN x P):MN (gd b x) P:=by rw [kQ hb];exact h
theorem MN.gdD {A:Prop} [Decidable A] (hb:A) (h:MN x P):MN (Go.Proofs.YtjcmfddobaplbaaGreat.gd (decide A) x) P:=MN.gd (decide_eq_true hb) h
theorem MN.gdI {n:Int} (hb : -9223372036854775808<=n/\n<=9223372036854775807) (h:MN x P):MN (Go.Proofs.YtjcmfddobaplbaaGreat.gd (MG .i64 n) x) P:=MN.gd (HZ hb) h
theorem MN.gdY {n:Int} (hb:0<=n/\n<=255) (h:MN x P):MN (Go.Proofs.YtjcmfddobaplbaaGreat.gd (MG .u8 n) x) P:=MN.gd (J9 hb) h
theorem Gj {n m:Nat} (hn:n<=1048576) (hm:Nat.ble m 1000=true):dI n m=true:=by
 have h1:=nlb hm;have h2:n*m<=1048576*1000:=Qf hn h1;exact decide_eq_true ⟨by omega,by omega⟩
theorem MN.gdC {n m:Nat} (hn:n<=1048576) (hm:Nat.ble m 1000=true) (h:MN x P):MN (Go.Proofs.YtjcmfddobaplbaaGreat.gd (dI n m) x) P:=MN.gd (Gj hn hm) h
theorem MN.bif {b:Bool} (h1:b=true->MN x P) (h2:b=false->MN y P):MN (bif b then x else y) P:=by
 cases b with
 | true=>exact h1 rfl
 | false=>exact h2 rfl
theorem MN.bifD {A:Prop} [Decidable A] (h1:A->MN x P) (h2 : ¬ A->MN y P):MN (_root_.cond (decide A) x y) P:=
 MN.bif (λh=>h1<|of_decide_eq_true h) (λh=>h2<|of_decide_eq_false h)
theorem MN.sum {W:Type} {PS:S->Prop} {PW:W->Prop} {a:Option (S ⊕ W)} {f:S->Option W} (h:MN a λz=>match z with
  | .inl s=>PS s
  | .inr w=>PW w) (k:∀ s,PS s->MN (f s) PW):MN (sumK a f) PW:=by
 obtain ⟨v,rfl,p⟩:=h
 match v,p with
 | .inl s,p=>exact k s p
 | .inr w,p=>exact ⟨w,rfl,p⟩
theorem MN.loop {step:S->Option (S ⊕ E)} {R:E->Prop} (J:S->Prop) (mu:S->Nat) {s0:S} (h0:J s0) (h:∀ s,J s->MN (step s) λz=>match z with
  | .inl s'=>J s'/\mu s'<mu s
  | .inr x=>R x):MN (bA step s0) R:=by
 have key:∀ (n:Nat) (s:S),mu s=n->J s->MN (bA step s) R:=by
  intro n
  induction n using Nat.strongRecOn with
  | _ n ih=>
   intro s hs hj;obtain ⟨z,e,hz⟩:=h s hj;rw [uJ,e]
   match z,hz with
   | .inl s',hz=>exact ih (mu s') (by omega) s' rfl hz.1
   | .inr x,hz=>exact ⟨x,rfl,hz⟩
 exact key _ s0 rfl h0
theorem MN.eq {v:α} (h:MN x (· = v)):x=some v:=by
 obtain ⟨u,e,rfl⟩:=h;exact e
theorem MN.of {v:α} (h:x=some v) (p:P v):MN x P:=⟨v,h,p⟩
end
section
variable {α β:Type} {x x' y y':Option α}
end
def rdX (x:MI):Bool:=x.Op==1||x.Op==5
def wrX (x:MI):Bool:=x.Op==2||x.Op==3||x.Op==5
theorem EK (x:MI):MN (dz x) (· = rdX x):=by
 unfold dz rdX;exact MN.bind (P:=(· = (x.Op==1||x.Op==5))) (.bif (λh => .pure<|by rw [h];rfl) λh => .pure<|by rw [h];rfl) λv hv => .pure hv
theorem I1 (x:MI):MN (fJ x) (· = wrX x):=by
 unfold fJ wrX;exact MN.bind (P:=(· = (x.Op==2||x.Op==3))) (.bif (λh => .pure<|by rw [h];rfl) λh => .pure<|by rw [h];rfl) λv hv=>MN.bind (P:=(· = (x.Op==2||x.Op==3||x.Op==5))) (.bif (λh => .pure<|by rw [<- hv,h];rfl) λh => .pure<|by rw [<- hv,h];rfl) λv hv => .pure hv
def Vs (p:List<|List MI):Prop:=p.length<=3/\∀ n,(p.getD n default).length<=7
theorem Vs.of {p:List (List MI)} (h:dh (p.map λr=>r.map gq)=true):Vs p/\∀ t k:Nat,t<p.length->k<(p.getD t default).length->jh (gq<|(p.getD t default).getD k default)=true:=by
 simp only [dh,mb,bae,dte,List.all_eq_true,rowOk] at h;have hl:p.length<=3:=by simpa using h.1.1.1.1
 have hr:=h.1.1.1.2;refine ⟨⟨hl,λn=>?_⟩,λt k ht hk=>?_⟩
 ·by_cases hn:n<p.length
  ·have e:p.getD n default=p[n]:=by simp [hn]
   rw [e];have := (hr (p[n].map gq)<|PZ.2 ⟨p[n],P7 hn,rfl⟩).1;simpa using this
  rw [gdq,gen (by omega)];exact Nat.zero_le _
 have e:p.getD t default=p[t]:=by simp [ht]
 rw [e] at hk ⊢;have h1:=(hr (p[t].map gq)<|PZ.2 ⟨p[t],P7 ht,rfl⟩).2;have e2:p[t].getD k default=p[t][k]:=by simp [hk]
 rw [e2];exact h1 _<|PZ.2 ⟨_,P7 hk,rfl⟩
def InR (x:MI):Prop:=0<=x.Loc/\x.Loc<=2/\0<=x.Reg/\x.Reg<=2/\0<=x.Val/\x.Val<=3
theorem EL {x:MI} (h:jh (gq x)=true):InR x:=by
 obtain ⟨o,l,r,v⟩:=x;unfold InR;simp only;unfold jh gq at h;simp only [MM] at h
 split at h
 ·simp only [bae,dte,beq_iff_eq] at h;omega
 split at h
 ·simp only [bae,dte,beq_iff_eq] at h;omega
 split at h
 ·simp only [bae,dte,beq_iff_eq] at h;omega
 split at h
 ·simp only [bae,dte] at h;omega
 cases h
structure PV (p:List (List MI)):Prop where
 vs:Vs p
 pos:0<p.length
 ins:∀ t k:Nat,t<p.length->k<(p.getD t default).length->InR ((p.getD t default).getD k default)
theorem PV.of {p:List (List MI)} (h:dh (p.map λr=>r.map gq)=true):PV p:=by
 have h1:=Vs.of h;refine ⟨h1.1,?_,λt k ht hk=>EL<|h1.2 t k ht hk⟩;simp only [dh,bae,dte,llm] at h;exact h.1.2
theorem dZ {n m:Nat} (hn:n<=4000000) (hm:Nat.ble m 1000=true):dI n m=true:=by
 have h1:=nlb hm;have h2:n*m<=4000000*1000:=Qf hn h1;exact decide_eq_true ⟨by omega,by omega⟩
theorem lg (a:Z3b) (q i v:Int) (hq:0<=q/\q<=2) (hi:0<=i/\i<=2):Z3b.get (Z3b.set a q v) i=if i=q then v else Z3b.get a i:=by
 obtain ⟨x,y,z⟩:=a;have h1:q=0\/q=1\/q=2:=by omega
 have h2:i=0\/i=1\/i=2:=by omega
 rcases h1 with rfl | rfl | rfl <;> rcases h2 with rfl | rfl | rfl <;> rfl
theorem rO (a:Z33) (q i:Int) (v:Z3b) (hq:0<=q/\q<=2) (hi:0<=i/\i<=2):Z33.get (Z33.set a q v) i=if i=q then v else Z33.get a i:=by
 obtain ⟨x,y,z⟩:=a;have h1:q=0\/q=1\/q=2:=by omega
 have h2:i=0\/i=1\/i=2:=by omega
 rcases h1 with rfl | rfl | rfl <;> rcases h2 with rfl | rfl | rfl <;> rfl
def su (u:MJ) (t:Int) (x:MI):Int:=if x.Op=3 then Z3b.get (Z33.get u.reg t) x.Reg else x.Val
def EM (u:MJ) (t:Int) (x:MI):MJ:=
 ⟨u.p,Z3b.set u.pc t<|Z3b.get u.pc t+1,if rdX x=true then Z33.set u.reg t (Z3b.set (Z33.get u.reg t) x.Reg<|Z3b.get u.mem x.Loc) else u.reg,if wrX x=true then Z3b.set u.mem x.Loc (su u t x) else u.mem⟩
structure Mac (σ:Type) where
 mv:σ->LI
 af:σ->Int->σ
 ky:σ->ByteArray
 dn:σ->Bool
 oc:σ->LI
section
variable {σ:Type} (M:Mac σ)
inductive Rea (s0:σ):σ->Prop
 | base:Rea s0 s0
 | step {s:σ} {m:Int} (h:Rea s0 s) (hm:m∈M.mv s):Rea s0 (M.af s m)
def I2 (s0:σ) (o:LI):Prop:=∃ s,Rea M s0 s/\M.dn s=true/\M.oc s=o
structure Mok (s0:σ) (N:Nat):Prop where
 key:∀ s t,Rea M s0 s->Rea M s0 t->M.ky s=M.ky t->s=t
 cnt:∀ V:List σ,V.Nodup->(∀ v∈V,Rea M s0 v)->V.length<=N
variable {M} {s0:σ} {N:Nat}
def kys (M:Mac σ) (V:List σ):List (ByteArray×Bool):=V.map λv=>(M.ky v,true)
theorem BN (V:List σ) (k:ByteArray):(∃ j,sI (kys M V) k=some j)↔∃ v∈V,M.ky v=k:=by
 unfold sI kys;rw [Qc]
 cases h:List.findIdx? (λx=>decide<|x=k) (V.map<|(λx:ByteArray×Bool=>x.1) ∘ λv=>(M.ky v,true)) with
 | none=>
  rw [List.findIdx?_eq_none_iff] at h;refine ⟨λ⟨j,hj⟩=>(by cases hj),λ⟨v,hv,e⟩ => ?_⟩;have := h (M.ky v)<|PZ.2 ⟨v,hv,rfl⟩;rw [e] at this;simp at this
 | some j=>
  refine ⟨λ_=>?_,λ_=>⟨j,rfl⟩⟩;obtain ⟨h1,h2,_⟩:=List.findIdx?_eq_some_iff_getElem.1 h;have hj:j<V.length:=by simpa using h1
  refine ⟨V[j],P7 hj,?_⟩;simpa using h2
theorem BO (V:List σ) (k:ByteArray):((zm (kys M V) k).getD false)=true↔∃ v∈V,M.ky v=k:=by
 rw [<- BN];unfold zm
 cases h:sI (kys M V) k with
 | none=>simp
 | some j=>
  obtain ⟨hj,v,hv⟩:=vG h;rw [Option.bind_some,hv];have : (k,v)∈kys M V:=Qg hv;unfold kys at this;obtain ⟨u,_,e⟩:=PZ.1 this;injection e with _ e;subst e;simp
theorem I3 {V:List σ} {s:σ} (h : ¬ ∃ v∈V,M.ky v=M.ky s):um (kys M V) (M.ky s) true=kys M (V++[s]):=by
 unfold um
 cases hm:sI (kys M V) (M.ky s) with
 | some j=>exact absurd ((BN V _).1 ⟨j,hm⟩) h
 | none=>simp [kys]
def Done (M:Mac σ) (V:List σ) (outs:LL) (v:σ):Prop:=(∀ m∈M.mv v,M.af v m∈V)/\(M.dn v=true->M.oc v∈outs)
structure Srch (M:Mac σ) (s0:σ) (V stack:List σ) (outs:List (List Int)) (cur:Option (σ×Nat)):Prop where
 rea:∀ v∈V,Rea M s0 v
 base:s0∈V
 nd:V.Nodup
 sub:∀ v∈stack,v∈V
 all:∀ v∈V,v∈stack\/(∃ n,cur=some (v,n))\/Done M V outs v
 out:∀ o∈outs,∃ v∈V,M.dn v=true/\M.oc v=o
 len:outs.length+stack.length<=V.length
 cur_:∀ s n,cur=some (s,n)->s∈V/\(M.dn s=true->M.oc s∈outs)/\∀ j,j<n->∀ m,(M.mv s)[j]? = some m->M.af s m∈V
theorem Srch.start:Srch M s0 [s0] [s0] [] none where
 rea:=λv hv=>by rw [PU.1 hv];exact .base
 base:=PU.2 rfl
 nd:=by simp
 sub:=λv hv=>hv
 all:=λv hv => .inl hv
 out:=nofun
 len:=by simp
 cur_:=nofun
theorem Srch.pop {V stack:List σ} {s:σ} {outs:LL} (h:Srch M s0 V (stack++[s]) outs none) {outs':LL} (ho:outs'=if M.dn s then outs++[M.oc s] else outs):Srch M s0 V stack outs' (some (s,0)) where
 rea:=h.rea
 base:=h.base
 nd:=h.nd
 sub:=λv hv=>h.sub v<|PY _ hv
 all:=λv hv=>by
  rcases h.all v hv with h1 | ⟨n,h1⟩ | ⟨h1,h2⟩
  ·rcases P5.1 h1 with h1 | h1
   ·exact .inl h1
   rw [PU.1 h1];exact .inr<|.inl ⟨0,rfl⟩
  ·cases h1
  refine .inr<|.inr ⟨h1,λhd=>?_⟩;rw [ho]
  split
  ·exact PY _<|h2 hd
  exact h2 hd
 out:=λo hm=>by
  rw [ho] at hm
  split at hm
  ·rename_i hd;rcases P5.1 hm with hm | hm
   ·exact h.out o hm
   rw [PU.1 hm];exact ⟨s,h.sub s<|P8 _<|PU.2 rfl,hd,rfl⟩
  exact h.out o hm
 len:=by
  have := h.len;rw [lla,P6] at this;rw [ho]
  split
  ·rw [lla,P6];omega
  omega
 cur_:=λt n e=>by
  injection e with e;injection e with e1 e2;subst e1 e2;refine ⟨h.sub s<|P8 _<|PU.2 rfl,λhd=>?_,λj hj=>absurd hj<|by omega⟩;rw [ho,if_pos hd];exact P8 _<|PU.2 rfl
theorem Srch.old {V stack:List σ} {s:σ} {outs:LL} {n:Nat} {m:Int} (h:Srch M s0 V stack outs<|some (s,n)) (hm:(M.mv s)[n]? = some m) (hv:M.af s m∈V):Srch M s0 V stack outs (some (s,n+1)) where
 rea:=h.rea
 base:=h.base
 nd:=h.nd
 sub:=h.sub
 all:=λv hv=>by
  rcases h.all v hv with h1 | ⟨k,h1⟩ | h1
  ·exact .inl h1
  ·injection h1 with h1;injection h1 with h1 _;subst h1;exact .inr<|.inl ⟨n+1,rfl⟩
  exact .inr<|.inr h1
 out:=h.out
 len:=h.len
 cur_:=λt k e=>by
  injection e with e;injection e with e1 e2;subst e1 e2;obtain ⟨g1,g2,g3⟩:=h.cur_ s n rfl;refine ⟨g1,g2,λj hj m' hm' => ?_⟩;rcases Qh j n with h' | h'
  ·exact g3 j h' m' hm'
  obtain rfl:j=n:=by omega
  rw [hm] at hm';obtain rfl:=osl hm';exact hv
theorem Srch.new {V stack:List σ} {s:σ} {outs:LL} {n:Nat} {m:Int} (h:Srch M s0 V stack outs<|some (s,n)) (hm:(M.mv s)[n]? = some m) (hv:M.af s m∉V):Srch M s0 (V++[M.af s m]) (stack++[M.af s m]) outs (some (s,n+1)) where
 rea:=λv hv=>by
  rcases P5.1 hv with hv | hv
  ·exact h.rea v hv
  rw [PU.1 hv];exact .step (h.rea s (h.cur_ s n rfl).1)<|Qg hm
 base:=PY _ h.base
 nd:=by
  rw [List.nodup_append];exact ⟨h.nd,by simp,λa ha b hb e=>hv<|by rw [<- PU.1 hb,<- e];exact ha⟩
 sub:=λv hv=>by
  rcases P5.1 hv with hv | hv
  ·exact PY _<|h.sub v hv
  exact P8 _ hv
 all:=λv hv=>by
  rcases P5.1 hv with hv | hv
  ·rcases h.all v hv with h1 | ⟨k,h1⟩ | ⟨h1,h2⟩
   ·exact .inl<|PY _ h1
   ·injection h1 with h1;injection h1 with h1 _;subst h1;exact .inr<|.inl ⟨n+1,rfl⟩
   exact .inr<|.inr ⟨λm hm=>PY _<|h1 m hm,h2⟩
  exact .inl<|P8 _ hv
 out:=λo ho=>by
  obtain ⟨v,g1,g2⟩:=h.out o ho;exact ⟨v,PY _ g1,g2⟩
 len:=by
  have := h.len;simp only [lla,P6];omega
 cur_:=λt k e=>by
  injection e with e;injection e with e1 e2;subst e1 e2;obtain ⟨g1,g2,g3⟩:=h.cur_ s n rfl;refine ⟨PY _ g1,g2,λj hj m' hm' => ?_⟩;rcases Qh j n with h' | h'
  ·exact PY _<|g3 j h' m' hm'
  obtain rfl:j=n:=by omega
  rw [hm] at hm';obtain rfl:=osl hm';exact P8 _<|PU.2 rfl
theorem Srch.fin {V stack:List σ} {s:σ} {outs:LL} {n:Nat} (h:Srch M s0 V stack outs<|some (s,n)) (hn:(M.mv s).length<=n):Srch M s0 V stack outs none where
 rea:=h.rea
 base:=h.base
 nd:=h.nd
 sub:=h.sub
 all:=λv hv=>by
  rcases h.all v hv with h1 | ⟨k,h1⟩ | h1
  ·exact .inl h1
  ·injection h1 with h1;injection h1 with h1 _;subst h1;obtain ⟨_,g2,g3⟩:=h.cur_ s n rfl;refine .inr<|.inr ⟨λm hm=>?_,g2⟩;obtain ⟨j,hj⟩:=List.getElem?_of_mem hm;exact g3 j (by have := (ges hj).1;omega) m hj
  exact .inr<|.inr h1
 out:=h.out
 len:=h.len
 cur_:=nofun
theorem Srch.ends {V:List σ} {outs:LL} (h:Srch M s0 V [] outs none):(∀ o,o∈outs↔I2 M s0 o)/\∀ v,v∈V↔Rea M s0 v:=by
 have all:∀ v,Rea M s0 v->v∈V:=λv hv=>by
  induction hv with
  | base=>exact h.base
  | step _ hm ih=>
   rcases h.all _ ih with h1 | ⟨_,h1⟩ | h1
   ·cases h1
   ·cases h1
   exact h1.1 _ hm
 refine ⟨λo=>⟨λho=>?_,λ⟨s,h1,h2,h3⟩ => ?_⟩,λv=>⟨h.rea v,all v⟩⟩
 ·obtain ⟨v,g1,g2,g3⟩:=h.out o ho;exact ⟨v,h.rea v g1,g2,g3⟩
 rcases h.all s (all s h1) with h4 | ⟨_,h4⟩ | h4
 ·cases h4
 ·cases h4
 rw [<- h3];exact h4.2 h2
end
section
variable {σ:Type} [Inhabited σ] (mv:σ->Option (LI)) (af:σ->Int->Option σ) (ky:σ->Option ByteArray) (dn:σ->Option Bool) (oc:σ->Option (LI)) (srt:LL->Option (LL))
def Ly (s9:(List<|ByteArray×Bool)×(LL)×(List σ)) (s19:(LL)) (v27:(LI)):((List<|ByteArray×Bool)×(List σ)×Int)->Option (((List<|ByteArray×Bool)×(List σ)×Int) ⊕ (((List<|ByteArray×Bool)×(LL)×(List σ)) ⊕ ((List<|ByteArray×Bool)×(LL)))):=λs31=>
 bif decide (s31.2.2<(v27.length:Int)) then
  PR (
   gd (decide<|0<=s31.2.2/\s31.2.2<(v27.length:Int)) <|
   PR (af (s9.2.2.getD (((s9.2.2.length:Int)-(1:Int)).toNat) default)<|v27.getD s31.2.2.toNat default) λv37=>
   PR (ky v37) λv38=>
   bif !((zm s31.1 v38).getD false) then
    gd (dI (s31.2.1.length+1) 16) <|
    some ((um s31.1 v38 true),(s31.2.1++[v37]))
   else
    some (s31.1,s31.2.1)
  ) λs35=>
  gd (MG .i64<|s31.2.2+(1:Int)) <|
  some (.inl (s35.1,s35.2,(s31.2.2+(1:Int))))
 else
  some (.inr<|.inl (s31.1,s19,s31.2.1))
def LY:((List<|ByteArray×Bool)×(LL)×(List σ))->Option (((List<|ByteArray×Bool)×(LL)×(List σ)) ⊕ ((List<|ByteArray×Bool)×(LL))):=λs9=>
 bif decide ((0:Int)<(s9.2.2.length:Int)) then
  gd (MG .i64<|(s9.2.2.length:Int)-(1:Int)) <|
  gd (decide<|0<=((s9.2.2.length:Int)-(1:Int))/\((s9.2.2.length:Int)-(1:Int))<(s9.2.2.length:Int)) <|
  gd (decide<|0<=(0:Int)/\(0:Int)<=((s9.2.2.length:Int)-(1:Int))/\((s9.2.2.length:Int)-(1:Int))<=(s9.2.2.length:Int)) <|
  PR (
   PR (dn<|s9.2.2.getD (((s9.2.2.length:Int)-(1:Int)).toNat) default) λv20=>
   bif v20 then
    PR (oc<|s9.2.2.getD (((s9.2.2.length:Int)-(1:Int)).toNat) default) λv22=>
    gd (dI (s9.2.1.length+1) 24) <|
    some (s9.2.1++[v22])
   else
    some s9.2.1
  ) λs19=>
  PR (mv<|s9.2.2.getD (((s9.2.2.length:Int)-(1:Int)).toNat) default) λv27=>
  bA (Ly af ky s9 s19 v27) (s9.1,((s9.2.2.drop (0:Int).toNat).take<|((s9.2.2.length:Int)-(1:Int)).toNat-(0:Int).toNat),(0:Int))
 else
  some (.inr (s9.1,s9.2.1))
def Kj (start:σ):Option ((LL)×Int):=
 PR (ky start) λv1=>
 PR (
  bA (LY mv af ky dn oc) ((um ([]:List<|ByteArray×Bool) v1 true),([]:LL),([start]:List σ))
 ) λs2=>
 PR (srt s2.2) λv46=>
 some (v46,(s2.1.length:Int))
variable {mv af ky dn oc srt} {M:Mac σ} {s0:σ} {N:Nat}
structure Mrt (mv:σ->Option (List Int)) (af:σ->Int->Option σ) (ky:σ->Option ByteArray) (dn:σ->Option Bool) (oc:σ->Option (List Int)) (M:Mac σ) (s0:σ):Prop where
 mv:∀ s,Rea M s0 s->MN (mv s) (· = M.mv s)
 af:∀ s m,Rea M s0 s->m∈M.mv s->MN (af s m) (· = M.af s m)
 ky:∀ s,Rea M s0 s->MN (ky s) (· = M.ky s)
 dn:∀ s,Rea M s0 s->MN (dn s) (· = M.dn s)
 oc:∀ s,Rea M s0 s->M.dn s=true->MN (oc s) (· = M.oc s)
 len:∀ s,Rea M s0 s->(M.mv s).length<=1048576
theorem LZ {n m:Nat} (hn:n<=1099511627776) (hm:Nat.ble m 32=true):dI n m=true:=by
 have h1:=nlb hm;have h2:n*m<=1099511627776*32:=Qf hn h1;exact decide_eq_true ⟨by omega,by omega⟩
theorem Gm (K:Mok M s0 N) (R:Mrt mv af ky dn oc M s0) (hN:N<1099511627776) {V stk:List σ} {s:σ} {outs outs':LL} (h:Srch M s0 V stk outs'<|some (s,0)) :
  MN (bA (Ly af ky (kys M V,outs,stk++[s]) outs'<|M.mv s) (kys M V,stk,(0:Int))) λz=>∃ V' stk',z = .inl (kys M V',outs',stk')/\Srch M s0 V' stk' outs' none/\V.length<=V'.length/\2*V.length+stk'.length<=2*V'.length+stk.length:=by
 have hsV:=(h.cur_ s 0 rfl).1;have hs:=h.rea s hsV;have hcur:(stk++[s]).getD ((((stk++[s]).length:Int)-1).toNat) default=s:=by
  rw [lla,P6,show (((stk.length+1:Nat):Int)-1).toNat=stk.length by omega,gdq,gar (Qa _)];simp
 have hlen:=R.len s hs;refine MN.loop (λz=>∃ V',z.1=kys M V'/\(0<=z.2.2/\z.2.2<=((M.mv s).length:Int))/\Srch M s0 V' z.2.1 outs' (some (s,z.2.2.toNat))/\V.length<=V'.length/\2*V.length+z.2.1.length<=2*V'.length+stk.length) (λz=>(((M.mv s).length:Int)-z.2.2).toNat) ⟨V,rfl,⟨PT _,by simp⟩,h,Qa _,Qa _⟩ λz ⟨V',h1,h2,h3,h4,h5⟩ => ?_;unfold Ly;simp only [hcur];refine .bifD (λhlt=>?_) λhge => .pure ⟨V',z.2.1,by rw [h1],h3.fin (by omega),h4,h5⟩;have hj:z.2.2.toNat<(M.mv s).length:=by omega
 have hm:(M.mv s)[z.2.2.toNat]? = some ((M.mv s).getD z.2.2.toNat default):=by simp [geq hj]
 have hmm:=Qg hm;have hi1:(z.2.2+1).toNat=z.2.2.toNat+1:=by omega
 have hV':=K.cnt V' h3.nd h3.rea;have hl:=h3.len;refine MN.bind (P:=λw=>∃ V2,w.1=kys M V2/\Srch M s0 V2 w.2 outs' (some (s,z.2.2.toNat+1))/\V.length<=V2.length/\2*V.length+w.2.length<=2*V2.length+stk.length) ?_ λw ⟨V2,w1,w2,w3,w4⟩ => .gdI (by omega)<|.pure ⟨⟨V2,w1,⟨by simp only [];omega,by simp only [];omega⟩,by simp only [hi1];exact w2,w3,w4⟩,by simp only [];omega⟩;refine .gdD ⟨h2.1,hlt⟩<|(R.af s _ hs hmm).bind λv37 e37=>?_;subst e37;refine (R.ky _<|.step hs hmm).bind λv38 e38=>?_;subst e38;refine .bif (λhb => .gd (LZ (by omega) rfl)<|.pure ?_) λhb => .pure ?_
 ·have hn : ¬ ∃ v∈V',M.ky v=M.ky (M.af s<|(M.mv s).getD z.2.2.toNat default):=λhh=>by
   rw [h1,(BO V' _).2 hh] at hb
   cases hb
  refine ⟨V'++[M.af s ((M.mv s).getD z.2.2.toNat default)],?_,h3.new hm λhv=>hn ⟨_,hv,rfl⟩,?_,?_⟩
  ·simp only [h1];exact I3 hn
  ·simp;omega
  simp;omega
 have hy:∃ v∈V',M.ky v=M.ky (M.af s<|(M.mv s).getD z.2.2.toNat default):=by
  rw [<- BO,<- h1];simpa using hb
 obtain ⟨v,hv,e⟩:=hy;have := K.key v _ (h3.rea v hv) (.step hs hmm) e;refine ⟨V',h1,h3.old hm<|this ▸ hv,h4,h5⟩
theorem AL (K:Mok M s0 N) (R:Mrt mv af ky dn oc M s0) (hN:N<1099511627776) {Q:LL->LL->Prop} (hs:∀ l:LL,l.length<=N->(∀ o∈l,I2 M s0 o)->MN (srt l) (Q l)) :
  MN (Kj mv af ky dn oc srt s0) λq=>∃ l,Q l q.1/\(∀ o,o∈l↔I2 M s0 o)/\∃ V:List σ,V.Nodup/\(∀ v,v∈V↔Rea M s0 v)/\q.2=(V.length:Int):=by
 unfold Kj;refine (R.ky s0 .base).bind λv1 e1=>?_;subst e1;refine MN.bind (P:=λw=>∃ V,w.1=kys M V/\Srch M s0 V [] w.2 none) ?_ λw ⟨V,w1,w2⟩ => ?_
 ·refine MN.loop (λz=>∃ V,z.1=kys M V/\Srch M s0 V z.2.2 z.2.1 none) (λz=>2*(N-z.1.length)+z.2.2.length) ⟨[s0],rfl,.start⟩ λz ⟨V,h1,h2⟩ => ?_;have hV:=K.cnt V h2.nd h2.rea;have hl:=h2.len;obtain ⟨kk,outs,stk⟩:=z;simp only at h1 h2 hl;subst h1;unfold LY;simp only [];refine .bifD (λhlt=>?_) λhge=>?_
  ·obtain ⟨stk',s,rfl⟩:∃ stk' s,stk=stk'++[s]:=⟨_,_,(List.dropLast_concat_getLast<|by rintro rfl;simp at hlt).symm⟩;have hcur:(stk'++[s]).getD ((((stk'++[s]).length:Int)-1).toNat) default=s:=by
    rw [lla,P6,show (((stk'.length+1:Nat):Int)-1).toNat=stk'.length by omega,gdq,gar (Qa _)];simp
   have hcut:((stk'++[s]).drop (0:Int).toNat).take ((((stk'++[s]).length:Int)-1).toNat-(0:Int).toNat)=stk':=by
    rw [lla,P6,show (((stk'.length+1:Nat):Int)-1).toNat-(0:Int).toNat=stk'.length by omega];simp
   have hre:=h2.rea s<|h2.sub s<|P8 _<|PU.2 rfl;rw [lla,P6] at hl;refine .gdI (by simp;omega) (.gdD ⟨by simp,by omega⟩<|.gdD ⟨PT _,by simp,by omega⟩ ?_);rw [hcur,hcut];refine MN.bind (P:=λo=>o=if M.dn s then outs++[M.oc s] else outs) ?_ λo ho=>?_
   ·refine (R.dn s hre).bind λb hb=>?_;subst hb;refine .bif (λhb=>(R.oc s hre hb).bind λo ho => .gd (LZ (by omega) rfl)<|.pure ?_) λhb => .pure ?_
    ·rw [if_pos hb,ho]
    rw [if_neg (by rw [hb];decide)]
   have h3:=h2.pop ho;refine (R.mv s hre).bind λv27 e27=>?_;subst e27;refine (Gm K R hN (outs:=outs) h3).mono λz ⟨V',stk2,e,g1,g2,g3⟩ => ?_;subst e;have hV2:=K.cnt V' g1.nd g1.rea;refine ⟨⟨V',rfl,g1⟩,?_⟩;simp only [kys,llm,lla,P6];omega
  refine .pure ⟨V,rfl,?_⟩;have : stk=[]:=List.eq_nil_of_length_eq_zero (by omega);subst this;exact h2
 have hV:=K.cnt V w2.nd w2.rea;have hl:=w2.len;refine (hs w.2 (by omega) λo ho=>(w2.ends.1 o).1 ho).bind λq hq => .pure ⟨w.2,hq,w2.ends.1,V,w2.nd,w2.ends.2,?_⟩;rw [w1];simp [kys]
end
theorem Gn {σ:Type} (f:σ->Nat) (m:Nat):∀ (V:List σ),V.Nodup->(∀ v∈V,f v<m)->(∀ u∈V,∀ v∈V,f u=f v->u=v)->V.length<=m:=λV hn hl hi=>by
 have h1:(V.map f).Nodup:=by
  rw [List.nodup_iff_pairwise_ne] at hn ⊢;rw [List.pairwise_map];exact hn.imp_of_mem λ{a b} ha hb hne e=>hne<|hi a ha b hb e
 have := List.Nodup.length_le_of_subset h1 (l₂:=PX m) λx hx=>by
  obtain ⟨v,hv,rfl⟩:=PZ.1 hx;exact Qi.2<|hl v hv
 simpa using this
def qM:List (Nat×Nat)->Nat
 | []=>0
 | (d,b)::l=>d+b*qM l
def CZ:List (Nat×Nat)->Nat
 | []=>1
 | (_,b)::l=>b*CZ l
theorem BP:∀ (l:List<|Nat×Nat),(∀ x∈l,x.1<x.2)->qM l<CZ l
 | [],_=>Nat.one_pos
 | (d,b)::l,h=>by
  have h1:d<b:=h _ Qj;have h2:=BP l λx hx=>h x<|Qk _ hx;show d+b*qM l<b*CZ l;have h3:b*(qM l+1)<=b*CZ l:=Nat.mul_le_mul_left _ h2;rw [Nat.mul_add,Nat.mul_one] at h3;omega
theorem zF:∀ (l k:List<|Nat×Nat),l.map (·.2)=k.map (·.2)->(∀ x∈l,x.1<x.2)->(∀ x∈k,x.1<x.2)->qM l=qM k->l=k
 | [],[],_,_,_,_=>rfl
 | [],_::_,h,_,_,_=>by cases h
 | _::_,[],h,_,_,_=>by cases h
 | (d,b)::l,(d',b')::k,h,hl,hk,e=>by
  injection h with hb ht;simp only at hb;subst hb;have h1:d<b:=hl _ Qj;have h2:d'<b:=hk _ Qj;have e:d+b*qM l=d'+b*qM k:=e;have hd:d=d':=by
   have := congrArg (· % b) e;simp only [Nat.add_mul_mod_self_left,Nat.mod_eq_of_lt h1,Nat.mod_eq_of_lt h2] at this;exact this
  subst hd;have hc:qM l=qM k:=Nat.eq_of_mul_eq_mul_left (by omega) (by omega:b*qM l=b*qM k);rw [zF l k ht (λx hx=>hl x<|Qk _ hx) (λx hx=>hk x<|Qk _ hx) hc]
def ltL (x y:LI):Prop:=cmpL x y<0
theorem I4 {x y:LI}:leL x y=true↔ltL x y\/x=y:=by
 unfold leL ltL;rw [dte];rcases p5 x y with h | h | h
 ·exact ⟨λ_ => .inl h,λ_=>by have := pX x y;omega⟩
 ·exact ⟨λ_ => .inr h,λ_=>by rw [h,mQ];decide⟩
 refine ⟨λg=>absurd h g,λg=>?_⟩;rcases g with g | g
 ·have := pX x y;omega
 rw [g,mQ] at h;exact absurd h (by decide)
theorem Kl {x y:LI} (h:ltL x y):x≠y:=by
 rintro rfl;unfold ltL at h;rw [mQ] at h;exact absurd h (by decide)
structure Sor (l q:List (List Int)):Prop where
 lt:q.Pairwise ltL
 mem:∀ o,o∈q↔o∈l
 len:q.length<=l.length
theorem BQ {l c:LL} {n:Nat} (hs:l.Pairwise λx y=>leL x y=true) (h:c.Pairwise ltL) (hm:∀ o,o∈c↔o∈l.take n) (h0:0<n) (hn:n<l.length) (hne:l.getD n default≠l.getD (n-1) default) :
  (c++[l.getD n default]).Pairwise ltL/\∀ o,o∈c++[l.getD n default]↔o∈l.take (n+1):=by
 have e1:l.getD n default=l[n]:=by simp [hn]
 have e2:l.getD (n-1) default=l[n-1]:=by simp [List.getD,show n-1<l.length by omega]
 rw [e1] at hne ⊢;rw [e2] at hne;have hp:=List.pairwise_iff_getElem.1 hs;refine ⟨List.pairwise_append.2 ⟨h,by simp,λy hy x hx=>?_⟩,λo=>?_⟩
 ·rw [PU.1 hx];obtain ⟨j,hj,rfl⟩:=Qp<|(hm y).1 hy;have hjn:j<n:=Nat.lt_of_lt_of_le (show j<min n l.length by simpa using hj)<|Nat.min_le_left _ _;rw [List.getElem_take];rcases I4.1 (hp j n (by omega) hn hjn) with g | g
  ·exact g
  exfalso;apply hne
  by_cases hj1:j=n-1
  ·subst hj1;exact g.symm
  exact BM _ _ (g ▸ hp j (n-1) (by omega) (by omega) (by omega))<|hp (n-1) n (by omega) hn (by omega)
 rw [P5,hm,Qd,P5,geq hn];simp
theorem BR {l:LL} {n:Nat} (h0:0<n) (hn:n<l.length) (he:l.getD n default=l.getD (n-1) default) (o:LI):o∈l.take (n+1)↔o∈l.take n:=by
 have e1:l.getD n default=l[n]:=by simp [hn]
 have e2:l.getD (n-1) default=l[n-1]:=by simp [List.getD,show n-1<l.length by omega]
 rw [e1,e2] at he;rw [Qd,P5,geq hn];refine ⟨λh=>h.elim id λh=>?_,.inl⟩;have : o=l[n-1]:=by simpa [he] using h
 rw [this];exact List.mem_iff_getElem.2 ⟨n-1,by simp;omega,by simp⟩
theorem EN (a b:LI) (ha:a.length<=1048576):MN (dX a b) (· = decide (a=b)):=by
 unfold dX;refine .bif (λh => .pure ?_) λh=>?_
 ·have h:a.length≠b.length:=by
   intro e;rw [e] at h;simp at h
  rw [decide_eq_false (λe=>h<|by rw [e])]
 have h:a.length=b.length:=by
  have : (a.length:Int)=(b.length:Int):=by simpa using h
  omega
 refine MN.sum (PS:=λ_=>a=b) (PW:=λv=>v=decide (a=b)) ?_ λ_ he => .pure (by rw [decide_eq_true he]);refine MN.loop (λi=>0<=i/\i<=(a.length:Int)/\∀ j:Nat,(j:Int)<i->a[j]? = b[j]?) (λi=>((a.length:Int)-i).toNat) ⟨PT _,by omega,λj hj=>absurd hj<|by omega⟩ λi ⟨h1,h2,h3⟩ => ?_;unfold iO;refine .bifD (λhlt => .gdD ⟨h1,hlt⟩<|.gdD ⟨h1,by omega⟩ ?_) λhge => .pure ?_
 ·have hi:i.toNat<a.length:=by omega
  have hib:i.toNat<b.length:=by omega
  have ea:a.getD i.toNat default=a[i.toNat]:=by simp [hi]
  have eb:b.getD i.toNat default=b[i.toNat]:=by simp [hib]
  rw [ea,eb];refine .bif (λhb => .pure ?_) λhb => .gdI (by omega)<|.pure ⟨⟨by omega,by omega,λj hj=>?_⟩,by omega⟩
  ·simp only [bne_iff_ne] at hb;have : a≠b:=λe=>hb (by simp [e]);simp only [];rw [decide_eq_false this]
  by_cases ej:j=i.toNat
  ·subst ej;rw [geq hi,geq hib];have : a[i.toNat]=b[i.toNat]:=by simpa using hb
   rw [this]
  exact h3 j (by omega)
 simp only [];apply List.ext_getElem?;intro j;rcases Qh j a.length with g | g
 ·exact h3 j (by omega)
 rw [gen g,gen (by omega)]
theorem EO (a b:LI) (ha:a.length<=1048576):MN (cE a b) (· = decide (a=b)):=by
 unfold cE;exact (EN a b ha).bind λv hv => .pure hv
theorem AO {l:LL} (hs:l.Pairwise λx y=>leL x y=true) (hl:l.length<=1099511627776) (hr:∀ r∈l,r.length<=1048576):MN (aN l) (Sor l):=by
 have hrD:∀ n,(l.getD n default).length<=1048576:=λn=>by
  by_cases hn:n<l.length
  ·have : l.getD n default=l[n]:=by simp [hn]
   rw [this];exact hr _<|P7 hn
  rw [gdq,gen (by omega)];exact Nat.zero_le _
 unfold aN;refine .bifD (λh => .pure ⟨?_,λ_=>Iff.rfl,Qa _⟩) λh=>?_
 ·match l,h with
  | [],_=>exact .nil
  | [x],_=>simp
  | _::_::_,h=>simp at h;omega
 have h2:2<=l.length:=by omega
 refine MN.sum (PS:=λq=>Sor l q) (PW:=λq=>Sor l q) ?_ λq hq => .pure hq;refine MN.loop (λs=>s.1=l/\1<=s.2/\s.2<=(l.length:Int)/\(l.take s.2.toNat).Pairwise ltL) (λs=>((l.length:Int)-s.2).toNat) ⟨rfl,PT _,by simp only [];omega,?_⟩ λs ⟨e,h1,h3,h4⟩ => ?_
 ·match l,h2 with
  | x::_,_=>simp
 obtain ⟨c,k⟩:=s;simp only at e h1 h3 h4;subst e;unfold aV;simp only [];refine .bifD (λhlt=>?_) λhge => .pure ?_
 rotate_left
 ·have : k.toNat=c.length:=by omega
  rw [this,List.take_length] at h4;exact ⟨h4,λ_=>Iff.rfl,Qa _⟩
 have hk1:(k-1).toNat=k.toNat-1:=by omega
 refine MN.sum (PS:=λ_=>c.getD k.toNat default≠c.getD (k.toNat-1) default) ?_ λ_ hne => .gdI (by omega)<|.pure ⟨⟨rfl,by simp only [];omega,by simp only [];omega,?_⟩,by simp only [];omega⟩
 rotate_left
 ·have := (BQ hs h4 (λ_=>Iff.rfl) (by omega) (by omega) hne).1;simp only [];rw [show (k+1).toNat=k.toNat+1 by omega,Qd,geq (by omega)];rw [show c.getD k.toNat default=c[k.toNat]'(by omega) by simp [show k.toNat<c.length by omega]] at this;simpa using this
 refine .gdD ⟨by omega,hlt⟩<|.gdI (by omega)<|.gdD ⟨by omega,by omega⟩<|(EO _ _<|hrD _).bind λv hv=>?_;subst hv;rw [hk1];refine .bifD (λhe=>?_) λhne => .pure hne;refine .gdD ⟨by omega,by omega,PT _⟩ ?_;refine MN.bind (P:=λz=>(k<=z.2/\z.2<=(c.length:Int))/\z.1.length=c.length/\(z.1.take z.2.toNat).Pairwise ltL/\∀ o,o∈z.1.take z.2.toNat↔o∈c) ?_ λz ⟨⟨z1,z2⟩,z3,z4,z5⟩ => .gdD ⟨by omega,by omega,PT _⟩<|.gdD ⟨PT _,by omega,by omega⟩<|.pure ?_
 rotate_left
 ·have e1:(((cpy z.1 (0+z.2.toNat) (Qb ((z.1.length:Int).toNat-z.2.toNat) (default:LI))<|(z.1.length:Int).toNat-z.2.toNat).drop (0:Int).toNat).take<|z.2.toNat-(0:Int).toNat)=z.1.take z.2.toNat:=by
   simp only [cpy,Nat.zero_add,show (0:Int).toNat=0 from rfl,List.drop_zero,Nat.sub_zero];rw [if_pos (by omega),Ql,List.take_append_of_le_length (by rw [List.length_take];omega),List.take_take,Nat.min_self]
  simp only [];rw [e1];exact ⟨z4,z5,by simp;omega⟩
 refine MN.loop (λs=>(1<=s.2.1/\k+s.2.1<=(c.length:Int))/\(k<=s.2.2/\s.2.2<=k+s.2.1-1)/\s.1.length=c.length/\(∀ j:Nat,k+s.2.1-1<=(j:Int)->s.1[j]? = c[j]?)/\(s.1.take s.2.2.toNat).Pairwise ltL/\∀ o,o∈s.1.take s.2.2.toNat↔o∈c.take (k+s.2.1).toNat) (λs=>((c.length:Int)-k-s.2.1).toNat) ⟨⟨PT _,by simp only [];omega⟩,⟨PT _,by simp only [];omega⟩,rfl,λ_ _=>rfl,h4,λo=>?_⟩ λs ⟨⟨a1,a2⟩,⟨a3,a4⟩,a5,a6,a7,a8⟩ => ?_
 ·simp only [];rw [show (k+1).toNat=k.toNat+1 by omega];exact (BR (by omega) (by omega) he o).symm
 obtain ⟨d,k2,kk⟩:=s;simp only at a1 a2 a3 a4 a5 a6 a7 a8;unfold aS;simp only [];have hz:((((c.length:Int).toNat-k.toNat:Nat)):Int)=(c.length:Int)-k:=by omega
 rw [hz];refine .bifD (λhlt2=>?_) λhge => .pure ⟨⟨a3,by simp only [];omega⟩,a5,a7,λo=>?_⟩
 rotate_left
 ·rw [a8,show (k+k2).toNat=c.length by omega,List.take_length]
 have g1:d.getD (0+k.toNat+k2.toNat) default=c.getD (k+k2).toNat default:=by
  rw [gdq,gdq,a6 _ (by omega),show 0+k.toNat+k2.toNat=(k+k2).toNat by omega]
 have g2:d.getD (0+k.toNat+(k2-1).toNat) default=c.getD ((k+k2).toNat-1) default:=by
  rw [gdq,gdq,a6 _ (by omega),show 0+k.toNat+(k2-1).toNat=(k+k2).toNat-1 by omega]
 have hn1:(k+(k2+1)).toNat=(k+k2).toNat+1:=by omega
 refine MN.bind (P:=λz=>(k<=z.2/\z.2<=k+k2)/\z.1.length=c.length/\(∀ j:Nat,k+k2<=(j:Int)->z.1[j]? = c[j]?)/\(z.1.take z.2.toNat).Pairwise ltL/\∀ o,o∈z.1.take z.2.toNat↔o∈c.take ((k+k2).toNat+1)) ?_ λz ⟨⟨z1,z2⟩,z3,z4,z5,z6⟩ => .gdI (by omega)<|.pure ⟨⟨⟨by simp only [];omega,by simp only [];omega⟩,⟨z1,by simp only [];omega⟩,z3,λj hj=>z4 j (by simp only [] at hj;omega),z5,by simp only [hn1];exact z6⟩,by simp only [];omega⟩;refine .gdD ⟨⟨by omega,by omega⟩,by omega⟩<|.gdI (by omega)<|.gdD ⟨⟨by omega,by omega⟩,by omega⟩ ?_;rw [g1,g2];refine (EO _ _<|hrD _).bind λv hv=>?_;subst hv;rw [<- decide_not];refine .bifD (λhne=>?_) λhe2 => .pure ⟨⟨a3,by simp only [];omega⟩,a5,λj hj=>a6 j (by omega),a7,λo=>?_⟩
 ·have hkl:kk.toNat<d.length:=by omega
  refine .gdD ⟨by omega,by omega⟩<|.gdI (by omega)<|.pure ⟨⟨by simp only [];omega,by simp only [];omega⟩,by simp [a5],λj hj=>?_,?_⟩
  ·simp only [];rw [List.getElem?_set_ne (by omega)];exact a6 j (by omega)
  have e:(d.set kk.toNat<|c.getD (k+k2).toNat default).take (kk+1).toNat=d.take kk.toNat++[c.getD (k+k2).toNat default]:=by
   rw [show (kk+1).toNat=kk.toNat+1 by omega,Qd,List.getElem?_set_self hkl,List.take_set_of_le (Qa _)]
   rfl
  simp only [];rw [e];exact BQ hs a7 a8 (by omega) (by omega) hne
 simp only [];rw [a8];exact (BR (by omega) (by omega) (Decidable.not_not.1 he2) o).symm
theorem tv {l:LL} (hl:l.length<=1099511627776) (hr:∀ r∈l,r.length<=1048576):MN (aR l) (Sor l):=by
 unfold aR;refine MN.bind (P:=(· = zE l)) ?_ λv hv=>?_
 ·unfold fo;exact .gdD (by omega)<|.pure rfl
 subst hv;have hp:=lL l;refine (AO (vN l) (by rw [hp.length_eq];exact hl) λr h=>hr r<|hp.mem_iff.1 h).bind λv ⟨v1,v2,v3⟩ => .pure ⟨v1,λo=>(v2 o).trans hp.mem_iff,by rw [<- hp.length_eq];exact v3⟩
structure Iv (p:List (List MI)) (u:MJ):Prop where
 up:u.p=p
 pc:∀ t:Nat,t<3->0<=Z3b.get u.pc t/\Z3b.get u.pc t<=((p.getD t default).length:Int)
 rv:∀ t g:Nat,t<3->g<3->0<=Z3b.get (Z33.get u.reg t) g/\Z3b.get (Z33.get u.reg t) g<=3
 mv:∀ l:Nat,l<3->0<=Z3b.get u.mem l/\Z3b.get u.mem l<=3
def qb (u:MJ) (t:Nat):Bool:=decide<|Z3b.get u.pc t<((u.p.getD t default).length:Int)
def DI (u:MJ) (n:Nat):LI:=((PX n).filter<|qb u).map Int.ofNat
def tz (u:MJ):LI:=DI u u.p.length
def jp (u:MJ) (t:Int):MI:=(u.p.getD t.toNat default).getD (Z3b.get u.pc t).toNat default
def tC (u:MJ) (n:Nat):LI:=(PX n).flatMap λt:Nat=>(PX 3).map λg:Nat=>Z3b.get (Z33.get u.reg t) g
def JZ (u:MJ):LI:=(PX 3).map λl:Nat=>Z3b.get u.mem l
def wT (u:MJ):LI:=tC u u.p.length++JZ u
def keyL (u:MJ):LI:=[u.pc.x0,u.pc.x1,u.pc.x2,u.reg.x0.x0,u.reg.x0.x1,u.reg.x0.x2,u.reg.x1.x0,u.reg.x1.x1,u.reg.x1.x2,u.reg.x2.x0,u.reg.x2.x1,u.reg.x2.x2,u.mem.x0,u.mem.x1,u.mem.x2]
def Km:Mac MK where
 mv s:=tz s.values
 af s t:=⟨EM s.values t<|jp s.values t⟩
 ky s:=strOfNums<|keyL s.values
 dn s:=(tz s.values).isEmpty
 oc s:=wT s.values
section
variable {p:List (List MI)} {u:MJ}
theorem jq {n:Nat} {m:Int}:m∈DI u n↔∃ t:Nat,t<n/\m=t/\qb u t=true:=by
 unfold DI;rw [PZ]
 constructor
 ·rintro ⟨t,ht,rfl⟩;rw [List.mem_filter,Qi] at ht;exact ⟨t,ht.1,rfl,ht.2⟩
 rintro ⟨t,h1,rfl,h2⟩;exact ⟨t,List.mem_filter.2 ⟨Qi.2 h1,h2⟩,rfl⟩
theorem vP (n:Nat):DI u (n+1)=if qb u n=true then DI u n++[(n:Int)] else DI u n:=by
 unfold DI;rw [Qe,List.filter_append,Qm]
 split
 ·rename_i h;rw [List.filter_cons_of_pos h]
  rfl
 rename_i h;rw [List.filter_cons_of_neg h];simp
theorem BS (n:Nat):(DI u n).length<=n:=by
 unfold DI;rw [llm];exact Nat.le_trans (List.length_filter_le _ _) (by simp)
theorem AP (hp:PV p) (h:Iv p u) {t:Nat} (ht:t<p.length):MN (bu u t) λv=>v.2=qb u t/\(v.2=true->v.1=jp u t):=by
 have hl:=hp.vs.1;have hr:=hp.vs.2 t;have h1:=h.pc t (by omega);unfold bu qb jp;rw [h.up];simp only [tnn];refine .gdD ⟨by omega,by omega⟩<|.gdI (by omega)<|.gdD ⟨by omega,by omega⟩<|.bifD (λhle => .pure ⟨?_,nofun⟩) λhle => .gdD ⟨h1.1,by omega⟩<|.pure ⟨?_,λ_=>rfl⟩
 ·rw [decide_eq_false (by omega)]
 rw [decide_eq_true (by omega)]
theorem Kn (hp:PV p) (h:Iv p u):MN (eD ⟨u⟩) (· = tz u):=by
 have hl:=hp.vs.1;unfold eD;refine MN.bind (P:=(· = tz u)) ?_ λv hv => .pure hv;refine MN.loop (λs=>(0<=s.2/\s.2<=(p.length:Int))/\s.1=DI u s.2.toNat) (λs=>((p.length:Int)-s.2).toNat) ⟨⟨PT _,by simp only [];omega⟩,rfl⟩ λs ⟨⟨h1,h2⟩,h3⟩ => ?_;unfold iY;simp only [h.up];refine .bifD (λhlt=>?_) λhge => .pure ?_
 ·obtain ⟨l,i⟩:=s;simp only at h1 h2 h3 hlt;obtain ⟨n,rfl⟩:∃ n:Nat,i=n:=⟨i.toNat,by omega⟩;simp only [tnn] at h3;subst h3;have hln:=BS (u:=u) n;refine MN.bind (P:=(· = DI u (n+1))) ?_ λv hv => .gdI (by omega)<|.pure ⟨⟨⟨by simp only [];omega,by simp only [];omega⟩,hv⟩,by simp only [];omega⟩;refine (AP hp h<|by omega).bind λv ⟨e1,_⟩ => .bif (λhb => .gd (dZ (by simp only [];omega) rfl)<|.pure ?_) λhb => .pure ?_
  ·rw [vP,if_pos (by rw [<- e1,hb])]
  rw [vP,if_neg (by rw [<- e1,hb];decide)]
 rw [h3];unfold tz;rw [h.up,show s.2.toNat=p.length by omega]
theorem Ko (hp:PV p) (h:Iv p u):MN (di ⟨u⟩) (· = (tz u).isEmpty):=by
 have hl:=hp.vs.1;unfold di;refine MN.bind (P:=(· = (tz u).isEmpty)) ?_ λv hv => .pure hv;unfold bC;refine MN.sum (PS:=λ_=>tz u=[]) (PW:=(· = (tz u).isEmpty)) ?_ λ_ hn => .pure (by rw [hn];rfl);refine MN.loop (λi=>(0<=i/\i<=(p.length:Int))/\DI u i.toNat=[]) (λi=>((p.length:Int)-i).toNat) ⟨⟨PT _,by omega⟩,rfl⟩ λi ⟨⟨h1,h2⟩,h3⟩ => ?_;unfold jc;simp only [h.up];refine .bifD (λhlt=>?_) λhge => .pure ?_
 ·obtain ⟨n,rfl⟩:∃ n:Nat,i=n:=⟨i.toNat,by omega⟩;simp only [tnn] at h3;refine (AP hp h<|by omega).bind λv ⟨e1,_⟩ => .bif (λhb => .pure ?_) λhb => .gdI (by omega)<|.pure ⟨⟨⟨by omega,by omega⟩,?_⟩,by omega⟩
  ·have hm:(n:Int)∈tz u:=jq.2 ⟨n,by rw [h.up];omega,rfl,by rw [<- e1,hb]⟩
   cases e:tz u with
   | nil=>rw [e] at hm;cases hm
   | cons a l=>rfl
  rw [show ((n:Int)+1).toNat=n+1 by omega,vP,if_neg (by rw [<- e1,hb];decide),h3]
 simp only [];unfold tz;rw [h.up,<- show i.toNat=p.length by omega,h3]
theorem xK (n:Nat):tC u (n+1)=tC u n++(PX 3).map λg:Nat=>Z3b.get (Z33.get u.reg n) g:=by
 unfold tC;rw [show PX (n+1)=PX n++[n] from Qe,List.flatMap_append];simp
theorem vQ (n:Nat):(tC u n).length=3*n:=by
 induction n with
 | zero=>rfl
 | succ n ih=>rw [xK,lla,ih];simp;omega
theorem yu (hp:PV p) (h:Iv p u):MN (aQ u) (· = wT u):=by
 have hl:=hp.vs.1;unfold aQ;refine MN.bind (P:=(· = tC u p.length)) ?_ λv hv=>?_
 ·refine MN.loop (λs=>(0<=s.2/\s.2<=(p.length:Int))/\s.1=tC u s.2.toNat) (λs=>((p.length:Int)-s.2).toNat) ⟨⟨PT _,by simp only [];omega⟩,rfl⟩ λs ⟨⟨h1,h2⟩,h3⟩ => ?_;unfold cn;simp only [h.up];refine .bifD (λhlt=>?_) λhge => .pure ?_
  ·obtain ⟨l,i⟩:=s;simp only at h1 h2 h3 hlt;obtain ⟨n,rfl⟩:∃ n:Nat,i=n:=⟨i.toNat,by omega⟩;simp only [tnn] at h3;subst h3;have hln:=vQ (u:=u) n;refine MN.bind (P:=(· = tC u (n+1))) ?_ λv hv => .gdI (by omega)<|.pure ⟨⟨⟨by simp only [];omega,by simp only [];omega⟩,hv⟩,by simp only [];omega⟩;refine .gdD ⟨by omega,by omega⟩<|MN.loop (λs=>(0<=s.2/\s.2<=3)/\s.1=tC u n++(PX s.2.toNat).map λg:Nat=>Z3b.get (Z33.get u.reg n) g) (λs=>((3:Int)-s.2).toNat) ⟨⟨PT _,(by decide:(0:Int)<=3)⟩,by simp⟩ λs ⟨⟨a1,a2⟩,a3⟩ => ?_;unfold eQ;simp only [];refine .bifD (λhlt=>?_) λhge => .pure ?_
   ·obtain ⟨l,j⟩:=s;simp only at a1 a2 a3 hlt;obtain ⟨g,rfl⟩:∃ g:Nat,j=g:=⟨j.toNat,by omega⟩;simp only [tnn] at a3;subst a3;have hv:=h.rv n g (by omega) (by omega);refine .gdD ⟨by omega,hlt⟩<|.gdI (by first | omega | (simp only [];omega))<|.gd (dZ (by simp;omega) rfl)<|.gdI (by omega)<|.pure ⟨⟨⟨by simp only [];omega,by simp only [];omega⟩,?_⟩,by simp only [];omega⟩;simp only [];rw [show ((g:Int)+1).toNat=g+1 by omega,Qe,Qm,<- Ql]
    rfl
   rw [a3,xK,show s.2.toNat=3 by omega]
  rw [h3,show s.2.toNat=p.length by omega]
 subst hv;refine MN.bind (P:=(· = wT u)) ?_ λv hv => .pure hv;have hln:=vQ (u:=u) p.length;refine MN.loop (λs=>(0<=s.2/\s.2<=3)/\s.1=tC u p.length++(PX s.2.toNat).map λg:Nat=>Z3b.get u.mem g) (λs=>((3:Int)-s.2).toNat) ⟨⟨PT _,(by decide:(0:Int)<=3)⟩,by simp⟩ λs ⟨⟨a1,a2⟩,a3⟩ => ?_;unfold bY;refine .bifD (λhlt=>?_) λhge => .pure ?_
 ·obtain ⟨l,j⟩:=s;simp only at a1 a2 a3 hlt;obtain ⟨g,rfl⟩:∃ g:Nat,j=g:=⟨j.toNat,by omega⟩;simp only [tnn] at a3;subst a3;have hv:=h.mv g (by omega);refine .gdD ⟨by omega,hlt⟩<|.gdI (by first | omega | (simp only [];omega))<|.gd (dZ (by simp;omega) rfl)<|.gdI (by omega)<|.pure ⟨⟨⟨by simp only [];omega,by simp only [];omega⟩,?_⟩,by simp only [];omega⟩;simp only [];rw [show ((g:Int)+1).toNat=g+1 by omega,Qe,Qm,<- Ql]
  rfl
 rw [a3,show s.2.toNat=3 by omega];unfold wT JZ;rw [h.up]
theorem BV (u:MJ):MN (df ⟨u⟩) (· = strOfNums (keyL u)):=by
 unfold df bV;refine MN.bind (P:=(· = strOfNums (keyL u))) (.gd rfl ?_) λv hv => .pure hv;refine MN.bind (P:=λl=>l=[u.pc.x0,u.pc.x1,u.pc.x2,u.reg.x0.x0,u.reg.x0.x1,u.reg.x0.x2,u.reg.x1.x0,u.reg.x1.x1,u.reg.x1.x2,u.reg.x2.x0,u.reg.x2.x1,u.reg.x2.x2]) ?_ λv hv=>?_
 ·refine MN.of (v:=[u.pc.x0,u.pc.x1,u.pc.x2,u.reg.x0.x0,u.reg.x0.x1,u.reg.x0.x2,u.reg.x1.x0,u.reg.x1.x1,u.reg.x1.x2,u.reg.x2.x0,u.reg.x2.x1,u.reg.x2.x2]) ?_ rfl
  exact rJ (step:=ia u) (λi=>match i with
   | 0=>([u.pc.x0,u.pc.x1,u.pc.x2],0)
   | 1=>([u.pc.x0,u.pc.x1,u.pc.x2,u.reg.x0.x0,u.reg.x0.x1,u.reg.x0.x2],1)
   | 2=>([u.pc.x0,u.pc.x1,u.pc.x2,u.reg.x0.x0,u.reg.x0.x1,u.reg.x0.x2,u.reg.x1.x0,u.reg.x1.x1,u.reg.x1.x2],2)
   | _=>([u.pc.x0,u.pc.x1,u.pc.x2,u.reg.x0.x0,u.reg.x0.x1,u.reg.x0.x2,u.reg.x1.x0,u.reg.x1.x1,u.reg.x1.x2,u.reg.x2.x0,u.reg.x2.x1,u.reg.x2.x2],3)) 3 (λi hi=>match i,hi with
   | 0,_=>rfl
   | 1,_=>rfl
   | 2,_=>rfl) rfl
 subst hv;exact .gd rfl<|.pure rfl
theorem nI:∀ {l k:LI},(∀ x∈l,0<=x/\x<=255)->(∀ x∈k,0<=x/\x<=255)->strOfNums l=strOfNums k->l=k:=λ{l k} hl hk h=>by
 have h1:(l.map λn=>UInt8.ofNat n.toNat)=k.map λn=>UInt8.ofNat n.toNat:=by
  rw [<- strOfNums_data,<- strOfNums_data,h]
 have h2:(l.map λn=>UInt8.ofNat n.toNat).map (λb=>(b.toNat:Int))=(k.map λn=>UInt8.ofNat n.toNat).map (λb=>(b.toNat:Int)):=by rw [h1]
 have back:∀ l:LI,(∀ x∈l,0<=x/\x<=255)->(l.map λn=>UInt8.ofNat n.toNat).map (λb=>(b.toNat:Int))=l:=λl hl=>by
  rw [Qc]
  conv=>rhs;rw [<- Qn l]
  refine Qo λx hx=>?_;have := hl x hx;simp only [Function.comp,UInt8.toNat_ofNat',id];omega
 rwa [back l hl,back k hk] at h2
theorem L6 (a:Z3b):Z3b.get a ((0:Nat):Int)=a.x0:=rfl
theorem L8 (a:Z3b):Z3b.get a ((1:Nat):Int)=a.x1:=rfl
theorem L9 (a:Z3b):Z3b.get a ((2:Nat):Int)=a.x2:=rfl
theorem Iv.keyL (hp:PV p) (h:Iv p u):∃ d:List Nat,Go.Proofs.YtjcmfddobaplbaaGreat.keyL u=d.map Int.ofNat/\d.length=15/\∀ x∈d.zip [8,8,8,4,4,4,4,4,4,4,4,4,4,4,4],x.1<x.2:=by
 have e:∀ x:Int,0<=x->x=Int.ofNat x.toNat:=λx hx=>(Int.toNat_of_nonneg hx).symm;have hv:=hp.vs.2;have p0:=h.pc 0 (by decide);have p1:=h.pc 1 (by decide);have p2:=h.pc 2 (by decide);have v0:=hv 0;have v1:=hv 1;have v2:=hv 2;have r00:=h.rv 0 0 (by decide) (by decide);have r01:=h.rv 0 1 (by decide) (by decide);have r02:=h.rv 0 2 (by decide) (by decide);have r10:=h.rv 1 0 (by decide) (by decide);have r11:=h.rv 1 1 (by decide) (by decide);have r12:=h.rv 1 2 (by decide) (by decide);have r20:=h.rv 2 0 (by decide) (by decide);have r21:=h.rv 2 1 (by decide) (by decide);have r22:=h.rv 2 2 (by decide) (by decide);have m0:=h.mv 0 (by decide);have m1:=h.mv 1 (by decide);have m2:=h.mv 2 (by decide);change 0<=u.pc.x0/\u.pc.x0<=_ at p0;change 0<=u.pc.x1/\u.pc.x1<=_ at p1;change 0<=u.pc.x2/\u.pc.x2<=_ at p2;change 0<=u.reg.x0.x0/\u.reg.x0.x0<=_ at r00;change 0<=u.reg.x0.x1/\u.reg.x0.x1<=_ at r01;change 0<=u.reg.x0.x2/\u.reg.x0.x2<=_ at r02;change 0<=u.reg.x1.x0/\u.reg.x1.x0<=_ at r10;change 0<=u.reg.x1.x1/\u.reg.x1.x1<=_ at r11;change 0<=u.reg.x1.x2/\u.reg.x1.x2<=_ at r12;change 0<=u.reg.x2.x0/\u.reg.x2.x0<=_ at r20;change 0<=u.reg.x2.x1/\u.reg.x2.x1<=_ at r21;change 0<=u.reg.x2.x2/\u.reg.x2.x2<=_ at r22;change 0<=u.mem.x0/\u.mem.x0<=_ at m0;change 0<=u.mem.x1/\u.mem.x1<=_ at m1;change 0<=u.mem.x2/\u.mem.x2<=_ at m2;refine ⟨(Go.Proofs.YtjcmfddobaplbaaGreat.keyL u).map Int.toNat,?_,rfl,?_⟩
 ·unfold Go.Proofs.YtjcmfddobaplbaaGreat.keyL;simp only [List.map_cons,List.map_nil];rw [<- e _ p0.1,<- e _ p1.1,<- e _ p2.1,<- e _ r00.1,<- e _ r01.1,<- e _ r02.1,<- e _ r10.1,<- e _ r11.1,<- e _ r12.1,<- e _ r20.1,<- e _ r21.1,<- e _ r22.1,<- e _ m0.1,<- e _ m1.1,<- e _ m2.1]
 unfold Go.Proofs.YtjcmfddobaplbaaGreat.keyL;simp only [List.map_cons,List.map_nil,List.zip_cons_cons,List.zip_nil_left,List.mem_cons,List.not_mem_nil,or_false,forall_eq_or_imp,forall_eq];refine ⟨?_,?_,?_,?_,?_,?_,?_,?_,?_,?_,?_,?_,?_,?_,?_⟩ <;> omega
theorem uM {u v:MJ} (hp:u.p=v.p) (h:keyL u=keyL v):u=v:=by
 obtain ⟨p,⟨a0,a1,a2⟩,⟨⟨b0,b1,b2⟩,⟨c0,c1,c2⟩,⟨d0,d1,d2⟩⟩,⟨e0,e1,e2⟩⟩:=u;obtain ⟨p',⟨a0',a1',a2'⟩,⟨⟨b0',b1',b2'⟩,⟨c0',c1',c2'⟩,⟨d0',d1',d2'⟩⟩,⟨e0',e1',e2'⟩⟩:=v;simp only [keyL,List.cons.injEq,and_true] at h;obtain ⟨rfl,rfl,rfl,rfl,rfl,rfl,rfl,rfl,rfl,rfl,rfl,rfl,rfl,rfl,rfl⟩:=h;simp only at hp;subst hp
 rfl
end
section
variable {p:List (List MI)} {u:MJ}
theorem Iv.ins (hp:PV p) (h:Iv p u) {t:Nat} (ht:t<p.length) (hc:qb u t=true):InR (jp u t):=by
 have hl:=hp.vs.1;have h1:=h.pc t (by omega);unfold qb at hc;rw [h.up] at hc;have hc:=of_decide_eq_true hc;unfold jp;rw [h.up,tnn];exact hp.ins t _ ht (by omega)
theorem Kq (hp:PV p) (h:Iv p u) {t:Nat} (ht:t<p.length) (hc:qb u t=true):MN (eF ⟨u⟩ t) (· = ⟨EM u t<|jp u t⟩):=by
 have hl:=hp.vs.1;have hr7:=hp.vs.2 t;have h1:=h.pc t (by omega);have hx:=h.ins hp ht hc;unfold eF;refine (AP hp h ht).bind λv ⟨e1,e2⟩ => ?_;have e3:=e2<|e1.trans hc;rw [<- e3] at hx ⊢;generalize v.1=x at hx ⊢;obtain ⟨x1,x2,x3,x4,x5,x6⟩:=hx;refine .gdD ⟨by omega,by omega⟩<|.gdY (by simp only [];omega) ?_;refine MN.bind (P:=(· = su u t x)) ?_ λv4 hv4=>?_
 ·unfold bH su;refine .bif (λho => .gdD ⟨by omega,by omega⟩<|.gdD ⟨x3,by simp only [];omega⟩<|.pure ?_) λho => .gdY (by simp only [];omega) (.pure ?_)
  ·rw [if_pos (by simpa using ho)]
  rw [if_neg (by simpa using ho)]
 subst hv4;refine MN.bind (P:=λw=>(⟨⟨w.1,w.2.1,w.2.2.1⟩,⟨w.2.2.2.1,w.2.2.2.2.1,w.2.2.2.2.2.1⟩,⟨w.2.2.2.2.2.2.1,w.2.2.2.2.2.2.2.1,w.2.2.2.2.2.2.2.2⟩⟩:Z33)=if rdX x=true then Z33.set u.reg t (Z3b.set (Z33.get u.reg t) x.Reg<|Z3b.get u.mem x.Loc) else u.reg) ?_ λw5 hw5=>?_
 ·refine (EK _).bind λb hb=>?_;have hb':b=rdX x:=hb;refine .bif (λhc => .gdD ⟨x1,by omega⟩<|.gdD ⟨x3,by omega⟩<|.pure ?_) λhc => .pure ?_
  ·rw [if_pos (by rw [<- hb'];exact hc)]
  rw [if_neg (by rw [<- hb',hc];decide)]
 refine MN.bind (P:=λw=>(⟨w.1,w.2.1,w.2.2⟩:Z3b)=if wrX x=true then Z3b.set u.mem x.Loc (su u t x) else u.mem) ?_ λw10 hw10 => .pure ?_
 ·refine (I1 _).bind λb hb=>?_;have hb':b=wrX x:=hb;refine .bif (λhc => .gdD ⟨x1,by omega⟩<|.pure ?_) λhc => .pure ?_
  ·rw [if_pos (by rw [<- hb'];exact hc)]
  rw [if_neg (by rw [<- hb',hc];decide)]
 unfold EM;rw [hw5,hw10]
theorem Iv.after (h:Iv p u) {t:Nat} (ht:t<3) (hc:qb u t=true) {x:MI} (hx:InR x):Iv p (EM u t x):=by
 obtain ⟨x1,x2,x3,x4,x5,x6⟩:=hx;obtain ⟨l,hlx⟩:∃ l:Nat,x.Loc=l:=⟨x.Loc.toNat,by omega⟩;obtain ⟨g,hgx⟩:∃ g:Nat,x.Reg=g:=⟨x.Reg.toNat,by omega⟩;unfold qb at hc;rw [h.up] at hc;have hc:=of_decide_eq_true hc;have hvv:0<=su u t x/\su u t x<=3:=by
  unfold su
  split
  ·rw [hgx];exact h.rv t g ht (by omega)
  omega
 unfold EM;refine ⟨h.up,λi hi=>?_,λt' g' ht' hg' => ?_,λl' hl' => ?_⟩
 ·simp only [];rw [lg _ _ _ _ (by omega) (by omega)]
  by_cases e:i=t
  ·subst e;have := h.pc i hi;rw [if_pos rfl];omega
  rw [if_neg (by omega)];exact h.pc i hi
 ·simp only []
  split
  ·rw [rO _ _ _ _ (by omega) (by omega)]
   by_cases e:t'=t
   ·subst e;rw [if_pos rfl,hgx,lg _ _ _ _ (by omega) (by omega)]
    by_cases e2:g'=g
    ·subst e2;rw [if_pos rfl,hlx];exact h.mv l (by omega)
    rw [if_neg (by omega)];exact h.rv t' g' ht' hg'
   rw [if_neg (by omega)];exact h.rv t' g' ht' hg'
  exact h.rv t' g' ht' hg'
 simp only []
 split
 ·rw [hlx,lg _ _ _ _ (by omega) (by omega)]
  split
  ·exact hvv
  exact h.mv l' hl'
 exact h.mv l' hl'
def v0 (p:List<|List MI):MJ:=⟨p,⟨0,0,0⟩,⟨⟨0,0,0⟩,⟨0,0,0⟩,⟨0,0,0⟩⟩,⟨0,0,0⟩⟩
theorem z3 (i:Int):Z3b.get ⟨0,0,0⟩ i=0:=by
 simp only [Z3b.get]
 split <;> (try split) <;> rfl
theorem z33 (i:Int):Z33.get ⟨⟨0,0,0⟩,⟨0,0,0⟩,⟨0,0,0⟩⟩ i=⟨0,0,0⟩:=by
 simp only [Z33.get]
 split <;> (try split) <;> rfl
theorem Iv.start (p:List<|List MI):Iv p (v0 p):=by
 refine ⟨rfl,λt _=>?_,λt g _ _=>?_,λl _=>?_⟩
 ·unfold v0;simp only [z3];omega
 ·unfold v0;simp only [z33,z3];decide
 unfold v0;simp only [z3];decide
theorem qA (hp:PV p) {s0 s:MK} (h0:Iv p s0.values) (h:Rea Km s0 s):Iv p s.values:=by
 induction h with
 | base=>exact h0
 | step _ hm ih=>
  obtain ⟨t,h1,rfl,h2⟩:=jq.1 hm;rw [ih.up] at h1;have hl:=hp.vs.1;exact ih.after (by omega) h2<|ih.ins hp h1 h2
def bas:List Nat:=[8,8,8,4,4,4,4,4,4,4,4,4,4,4,4]
def dig (u:MJ):List (Nat×Nat):=((keyL u).map Int.toNat).zip bas
theorem AQ (u:MJ):(dig u).map (·.2)=bas:=rfl
theorem EP (u:MJ):(dig u).map (·.1)=(keyL u).map Int.toNat:=rfl
theorem BW:∀ l:List (Nat×Nat),CZ l=(l.map (·.2)).foldr (· * ·) 1
 | []=>rfl
 | (_,b)::l=>congrArg (b * ·) (BW l)
theorem Gp (u:MJ):CZ (dig u)=8589934592:=by
 rw [BW,AQ]
 decide
theorem digits (hp:PV p) (h:Iv p u):∀ x∈dig u,x.1<x.2:=by
 obtain ⟨d,h1,_,h2⟩:=h.keyL hp;unfold dig;rw [h1,Qc];have : d.map (Int.toNat ∘ Int.ofNat)=d:=by
  conv=>rhs;rw [<- Qn d]
  exact Qo λ_ _=>rfl
 rw [this];exact h2
theorem I5 (hp:PV p) {u v:MJ} (hu:Iv p u) (hv:Iv p v) (h:qM (dig u)=qM (dig v)):(keyL u).map Int.toNat=(keyL v).map Int.toNat:=by
 rw [<- EP,<- EP,zF (dig u) (dig v) ((AQ u).trans (AQ v).symm) (digits hp hu) (digits hp hv) h]
theorem ug (hp:PV p) (h:Iv p u):∀ x∈keyL u,0<=x/\x<=255:=by
 obtain ⟨d,h1,h3,h2⟩:=h.keyL hp;rw [h1];intro x hx;obtain ⟨n,hn,rfl⟩:=PZ.1 hx;obtain ⟨j,hj,rfl⟩:=Qp hn;have hz:j<(d.zip [8,8,8,4,4,4,4,4,4,4,4,4,4,4,4]).length:=by simp;omega
 have h4:=h2 _<|P7 hz;rw [List.getElem_zip] at h4;have h5:∀ b∈[8,8,8,4,4,4,4,4,4,4,4,4,4,4,4],b<=8:=by decide
 have h6:=h5 _<|P7 (l:=[8,8,8,4,4,4,4,4,4,4,4,4,4,4,4]) (n:=j) (by simp;omega);simp only at h4
 constructor
 ·exact Int.natCast_nonneg _
 show ((d[j]:Nat):Int)<=255;omega
theorem Gq (hp:PV p) {u v:MJ} (hu:Iv p u) (hv:Iv p v) (h:(keyL u).map Int.toNat=(keyL v).map Int.toNat):keyL u=keyL v:=by
 have back:∀ l:LI,(∀ x∈l,0<=x/\x<=255)->(l.map Int.toNat).map Int.ofNat=l:=λl hl=>by
  rw [Qc]
  conv=>rhs;rw [<- Qn l]
  refine Qo λx hx=>?_;exact Int.toNat_of_nonneg (hl x hx).1
 rw [<- back _ (ug hp hu),<- back _ (ug hp hv),h]
theorem I6 (hp:PV p) {s0:MK} (h0:Iv p s0.values):Mok Km s0 8589934592 where
 key:=λs t hs ht h=>by
  have h1:=qA hp h0 hs;have h2:=qA hp h0 ht;have := uM (h1.up.trans h2.up.symm)<|nI (ug hp h1) (ug hp h2) h
  cases s;cases t
  simp only at this;rw [this]
 cnt:=λV hn hV=>by
  have hI:∀ v∈V,Iv p v.values:=λv hv=>qA hp h0<|hV v hv;refine Gn (λv=>qM<|dig v.values) _ V hn (λv hv=>?_) λs hs t ht h=>?_
  ·have := BP _<|digits hp<|hI v hv
   rwa [Gp] at this
  have h3:=I5 hp (hI s hs) (hI t ht) h;have := uM ((hI s hs).up.trans (hI t ht).up.symm)<|Gq hp (hI s hs) (hI t ht) h3
  cases s;cases t
  simp only at this;rw [this]
theorem I7 (hp:PV p) {s0:MK} (h0:Iv p s0.values):Mrt eD eF df di (λs=>aQ s.values) Km s0 where
 mv:=λs hs=>Kn hp<|qA hp h0 hs
 af:=λs m hs hm=>by
  have h1:=qA hp h0 hs;obtain ⟨t,h2,rfl,h3⟩:=jq.1 hm;rw [h1.up] at h2;exact Kq hp h1 h2 h3
 ky:=λs hs=>BV s.values
 dn:=λs hs=>Ko hp<|qA hp h0 hs
 oc:=λs hs _=>yu hp<|qA hp h0 hs
 len:=λs hs=>by
  have h1:=BS (u:=s.values) s.values.p.length;have h2:=(qA hp h0 hs).up;have h3:=hp.vs.1;rw [h2] at h1;show (tz s.values).length<=_;unfold tz;rw [h2];omega
theorem uN (u:MJ):(wT u).length=3*u.p.length+3:=by
 unfold wT JZ;rw [lla,vQ]
 rfl
def Gr (p:List<|List MI):LI->Prop:=I2 Km ⟨v0 p⟩
end
end
end Go.Proofs.YtjcmfddobaplbaaGreat
