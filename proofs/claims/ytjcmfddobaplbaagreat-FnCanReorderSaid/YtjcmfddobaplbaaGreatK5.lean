/- Texts joined. No conditions. -/
import Derived.Outline
import Derived.Deep.RegionWith
import Derived.RegionTactic
import Derived.ChangeAlike
import Derived.Test.YtjcmfddobaplbaaGreatK4
namespace Go.Proofs.YtjcmfddobaplbaaGreat
noncomputable section
open _root_.Option renaming bind -> JO
open _root_.Nat renaming le_refl -> JP, zero_le -> JQ, mul_assoc -> JV, le_trans -> JX, mul_le_mul -> J5, mul_le_mul_right -> J6, add_mul -> J7, le_mul_of_pos_right -> Kb, mul_comm -> Kg, mod_eq_of_lt -> Kh
open _root_.List renaming mem_singleton -> JR, take_of_length_le -> JS, length_singleton -> JU, mem_append_left -> JW, mem_append_right -> JY, getElem_mem -> JZ, replicate -> J0, mem_map -> J1, mem_of_getElem? -> J2, mem_cons_self -> J3, mem_append -> J4, getElem?_cons_zero -> J8, getElem?_set_self -> J9, pairwise_cons -> Ka, all_eq_true -> Ke, getElem?_take -> Ki, nil_append -> Kj, mem_cons_of_mem -> Kl, countP_le_length -> Km, getElem_of_mem -> Kn, getElem?_of_mem -> Kr, eq_nil_of_length_eq_zero -> Kt, getElem?_set_ne -> Kv
open _root_.Int renaming mul_nonneg -> Kc
open _root_.Array renaming length_toList -> Ko, getElem?_toList -> Kq, mem_of_getElem? -> Ks, getElem?_eq_getElem -> Ku
open Go.ChangeShapes Go.WideShapes Go.ChangeAt Go.RowKit
set_option maxRecDepth 100000
theorem gH (x hi:Int) (b:Bool) (hb:(decide (0<=x)&&decide (x<=hi))=b) (w:World) :
  Calls Tryz.prog 69 #[.int .i64 x,.int .i64 hi] w λe w'=>e = .returned (.bool b)/\w=w':=by
 subst hb
 by_cases h1:0<=x
 ·by_cases h2:x<=hi
  ·go_enter Tryz.func69,Tryz.ntmps69
   go_wp2
   all_goals (go_ret;exact ⟨aH (by simp [h1,h2]),rfl⟩)
  go_enter Tryz.func69,Tryz.ntmps69
  go_wp2
  all_goals (go_ret;exact ⟨aH (by simp;omega),rfl⟩)
 go_enter Tryz.func69,Tryz.ntmps69
 go_wp2
 all_goals (go_ret;exact ⟨aH (by simp;omega),rfl⟩)
def G6 (x hi:Int):Bool:=decide (0<=x)&&decide (x<=hi)
def gy (x:Ins):Bool:=
 if x.op=1\/x.op=3 then G6 x.loc 2&&G6 x.reg 2&&x.val==0
 else if x.op=2 then G6 x.loc 2&&x.reg==0&&G6 x.val 3
 else if x.op=4 then x.loc==0&&x.reg==0&&x.val==0
 else if x.op=5 then G6 x.loc 2&&G6 x.reg 2&&G6 x.val 3
 else false
theorem nz (x:Ins) (w:World) :
  Calls Tryz.prog 119 #[x.v] w λe w'=>e = .returned (.bool<|gy x)/\Below w.heap.size w w':=by
 obtain ⟨op,a,b,c⟩:=x;have hop:(op=1\/op=3)\/op=2\/op=4\/op=5\/((op==1)=false/\(op==3)=false/\(op==2)=false/\(op==4)=false/\(op==5)=false):=by
  simp only [beq_eq_false_iff_ne,ne_eq];omega
 unfold Ins.v;rcases hop with hop | rfl | rfl | rfl | ⟨h1,h2,h3,h4,h5⟩
 ·have hr:gy ⟨op,a,b,c⟩=(G6 a 2&&G6 b 2&&c==0):=by unfold gy;rw [if_pos hop]
  generalize ha:G6 a 2=pa at *;generalize hb:G6 b 2=pb at *;have HR:=Lib.hid hr;clear hr;have HA:=Lib.hid ha;clear ha;have HB:=Lib.hid hb;clear hb;rcases hop with rfl | rfl
  all_goals
   go_enter Tryz.func119,Tryz.ntmps119
   go_wp2_with (first
    | (go_at_call_of 69 (Value.int .i64 a);refine (gH a 2 _ HA.out _).mono ?_;rintro e w1 ⟨rfl,rfl⟩)
    | (go_at_call_of 69 (Value.int .i64 b);refine (gH b 2 _ HB.out _).mono ?_;rintro e w1 ⟨rfl,rfl⟩))
   all_goals (go_ret;exact ⟨aH (by rw [HR.out];simp_all),(Below.refl _ _).alloc (JP _) _⟩)
 ·have hr:gy ⟨2,a,b,c⟩=(G6 a 2&&b==0&&G6 c 3):=rfl;generalize ha:G6 a 2=pa at *;generalize hc:G6 c 3=pc at *;have HR:=Lib.hid hr;clear hr;have HA:=Lib.hid ha;clear ha;have HC:=Lib.hid hc;clear hc
  go_enter Tryz.func119,Tryz.ntmps119
  go_wp2_with (first
   | (go_at_call_of 69 (Value.int .i64 a);refine (gH a 2 _ HA.out _).mono ?_;rintro e w1 ⟨rfl,rfl⟩)
   | (go_at_call_of 69 (Value.int .i64 c);refine (gH c 3 _ HC.out _).mono ?_;rintro e w1 ⟨rfl,rfl⟩))
  all_goals (go_ret;exact ⟨aH (by rw [HR.out];simp_all),(Below.refl _ _).alloc (JP _) _⟩)
 ·have hr:gy ⟨4,a,b,c⟩=(a==0&&b==0&&c==0):=rfl;have HR:=Lib.hid hr;clear hr
  go_enter Tryz.func119,Tryz.ntmps119
  go_wp2_with fail
  all_goals (go_ret;exact ⟨aH (by rw [HR.out];simp_all),(Below.refl _ _).alloc (JP _) _⟩)
 ·have hr:gy ⟨5,a,b,c⟩=(G6 a 2&&G6 b 2&&G6 c 3):=rfl;generalize ha:G6 a 2=pa at *;generalize hb:G6 b 2=pb at *;generalize hc:G6 c 3=pc at *;have HR:=Lib.hid hr;clear hr;have HA:=Lib.hid ha;clear ha;have HB:=Lib.hid hb;clear hb;have HC:=Lib.hid hc;clear hc
  go_enter Tryz.func119,Tryz.ntmps119
  go_wp2_with (first
   | (go_at_call_of 69 (Value.int .i64 a);refine (gH a 2 _ HA.out _).mono ?_;rintro e w1 ⟨rfl,rfl⟩)
   | (go_at_call_of 69 (Value.int .i64 b);refine (gH b 2 _ HB.out _).mono ?_;rintro e w1 ⟨rfl,rfl⟩)
   | (go_at_call_of 69 (Value.int .i64 c);refine (gH c 3 _ HC.out _).mono ?_;rintro e w1 ⟨rfl,rfl⟩))
  all_goals (go_ret;exact ⟨aH (by rw [HR.out];simp_all),(Below.refl _ _).alloc (JP _) _⟩)
 have hr:gy ⟨op,a,b,c⟩=false:=by
  simp only [beq_eq_false_iff_ne,ne_eq] at h1 h2 h3 h4 h5;simp [gy,h1,h2,h3,h4,h5]
 have HR:=Lib.hid hr;clear hr
 go_enter Tryz.func119,Tryz.ntmps119
 go_wp2_with fail
 all_goals (go_ret;exact ⟨aH (by rw [HR.out]),(Below.refl _ _).alloc (JP _) _⟩)
theorem nA (x:Ins) (w:World) :
  Calls Tryz.prog 55 #[x.v] w λe w'=>e = .returned (.bool<|gy x)/\Below w.heap.size w w':=by
 obtain ⟨op,a,b,c⟩:=x;have hop:(op=1\/op=3)\/op=2\/op=4\/op=5\/((op==1)=false/\(op==3)=false/\(op==2)=false/\(op==4)=false/\(op==5)=false):=by
  simp only [beq_eq_false_iff_ne,ne_eq];omega
 unfold Ins.v;rcases hop with hop | rfl | rfl | rfl | ⟨h1,h2,h3,h4,h5⟩
 ·have hr:gy ⟨op,a,b,c⟩=(G6 a 2&&G6 b 2&&c==0):=by unfold gy;rw [if_pos hop]
  generalize ha:G6 a 2=pa at *;generalize hb:G6 b 2=pb at *;have HR:=Lib.hid hr;clear hr;have HA:=Lib.hid ha;clear ha;have HB:=Lib.hid hb;clear hb;rcases hop with rfl | rfl
  all_goals
   go_enter Tryz.func55,Tryz.ntmps55
   go_wp2_with fail
   go_region
   go_wp2_with (first
    | (go_at_call_of 47 (Value.int .i64 a);refine (bZ a 0 2 _ HA.out _).mono ?_;rintro e w1 ⟨rfl,rfl⟩)
    | (go_at_call_of 47 (Value.int .i64 b);refine (bZ b 0 2 _ HB.out _).mono ?_;rintro e w1 ⟨rfl,rfl⟩)
    | (go_at_call 47;refine (bZ _ _ _ true (by decide) _).mono ?_;rintro e w1 ⟨rfl,rfl⟩))
   all_goals (first | (go_ret;exact ⟨aH (by rw [HR.out];simp_all),(((Below.refl _ _).alloc (JP _) _).alloc (by simp) _).drew⟩) | (go_ret;exact ⟨aH (by rw [HR.out];simp_all),(((Below.refl _ _).alloc (JP _) _).alloc (by simp) _)⟩))
 ·have hr:gy ⟨2,a,b,c⟩=(G6 a 2&&b==0&&G6 c 3):=rfl;generalize ha:G6 a 2=pa at *;generalize hc:G6 c 3=pc at *;have HR:=Lib.hid hr;clear hr;have HA:=Lib.hid ha;clear ha;have HC:=Lib.hid hc;clear hc
  go_enter Tryz.func55,Tryz.ntmps55
  go_wp2_with fail
  go_region
  go_wp2_with (first
   | (go_at_call_of 47 (Value.int .i64 a);refine (bZ a 0 2 _ HA.out _).mono ?_;rintro e w1 ⟨rfl,rfl⟩)
   | (go_at_call_of 47 (Value.int .i64 c);refine (bZ c 0 3 _ HC.out _).mono ?_;rintro e w1 ⟨rfl,rfl⟩)
   | (go_at_call 47;refine (bZ _ _ _ true (by decide) _).mono ?_;rintro e w1 ⟨rfl,rfl⟩))
  all_goals (first | (go_ret;exact ⟨aH (by rw [HR.out];simp_all),(((Below.refl _ _).alloc (JP _) _).alloc (by simp) _).drew⟩) | (go_ret;exact ⟨aH (by rw [HR.out];simp_all),(((Below.refl _ _).alloc (JP _) _).alloc (by simp) _)⟩))
 ·have hr:gy ⟨4,a,b,c⟩=(a==0&&b==0&&c==0):=rfl;have HR:=Lib.hid hr;clear hr
  go_enter Tryz.func55,Tryz.ntmps55
  go_wp2_with (first
   | (go_at_call 47;refine (bZ _ _ _ true (by decide) _).mono ?_;rintro e w1 ⟨rfl,rfl⟩))
  all_goals (first | (go_ret;exact ⟨aH (by rw [HR.out];simp_all),(((Below.refl _ _).alloc (JP _) _).alloc (by simp) _).drew⟩) | (go_ret;exact ⟨aH (by rw [HR.out];simp_all),(((Below.refl _ _).alloc (JP _) _).alloc (by simp) _)⟩))
 ·have hr:gy ⟨5,a,b,c⟩=(G6 a 2&&G6 b 2&&G6 c 3):=rfl;generalize ha:G6 a 2=pa at *;generalize hb:G6 b 2=pb at *;generalize hc:G6 c 3=pc at *;have HR:=Lib.hid hr;clear hr;have HA:=Lib.hid ha;clear ha;have HB:=Lib.hid hb;clear hb;have HC:=Lib.hid hc;clear hc
  go_enter Tryz.func55,Tryz.ntmps55
  go_wp2_with (first
   | (go_at_call_of 47 (Value.int .i64 a);refine (bZ a 0 2 _ HA.out _).mono ?_;rintro e w1 ⟨rfl,rfl⟩)
   | (go_at_call_of 47 (Value.int .i64 b);refine (bZ b 0 2 _ HB.out _).mono ?_;rintro e w1 ⟨rfl,rfl⟩)
   | (go_at_call_of 47 (Value.int .i64 c);refine (bZ c 0 3 _ HC.out _).mono ?_;rintro e w1 ⟨rfl,rfl⟩))
  all_goals (first | (go_ret;exact ⟨aH (by rw [HR.out];simp_all),(((Below.refl _ _).alloc (JP _) _).alloc (by simp) _).drew⟩) | (go_ret;exact ⟨aH (by rw [HR.out];simp_all),(((Below.refl _ _).alloc (JP _) _).alloc (by simp) _)⟩))
 have hr:gy ⟨op,a,b,c⟩=false:=by
  simp only [beq_eq_false_iff_ne,ne_eq] at h1 h2 h3 h4 h5;simp [gy,h1,h2,h3,h4,h5]
 have HR:=Lib.hid hr;clear hr
 go_enter Tryz.func55,Tryz.ntmps55
 go_wp2_with fail
 all_goals (go_ret;exact ⟨aH (by rw [HR.out]),(((Below.refl _ _).alloc (JP _) _).alloc (by simp) _)⟩)
def rdO (o:Int):Bool:=o==1||o==5
def wrO (o:Int):Bool:=o==2||o==3||o==5
def rdB (x:Ins):Bool:=rdO x.op
def wrB (x:Ins):Bool:=wrO x.op
theorem AL (op a b c:Int) (w:World):Calls Tryz.prog 78 #[.agg #[.int .i64 op,.int .i64 a,.int .i64 b,.int .i64 c]] w λe w'=>e = .returned (.bool<|rdO op)/\Below w.heap.size w w':=by
 unfold rdO
 go_enter Tryz.func78,Tryz.ntmps78
 go_wp2_with fail
 all_goals (go_ret;exact ⟨aH (by simp_all),(Below.refl _ _).alloc (JP _) _⟩)
theorem xc (op a b c:Int) (w:World):Calls Tryz.prog 106 #[.agg #[.int .i64 op,.int .i64 a,.int .i64 b,.int .i64 c]] w λe w'=>e = .returned (.bool<|rdO op)/\Below w.heap.size w w':=by
 unfold rdO
 go_enter Tryz.func106,Tryz.ntmps106
 go_wp2_with fail
 all_goals (go_ret;exact ⟨aH (by simp_all),(Below.refl _ _).alloc (JP _) _⟩)
theorem zi (op a b c:Int) (w:World):Calls Tryz.prog 95 #[.agg #[.int .i64 op,.int .i64 a,.int .i64 b,.int .i64 c]] w λe w'=>e = .returned (.bool<|wrO op)/\Below w.heap.size w w':=by
 unfold wrO
 go_enter Tryz.func95,Tryz.ntmps95
 go_wp2_with fail
 all_goals (go_ret;exact ⟨aH (by simp_all),(Below.refl _ _).alloc (JP _) _⟩)
theorem vS (op a b c:Int) (w:World):Calls Tryz.prog 135 #[.agg #[.int .i64 op,.int .i64 a,.int .i64 b,.int .i64 c]] w λe w'=>e = .returned (.bool<|wrO op)/\Below w.heap.size w w':=by
 unfold wrO
 go_enter Tryz.func135,Tryz.ntmps135
 go_wp2_with fail
 all_goals (go_ret;exact ⟨aH (by simp_all),(Below.refl _ _).alloc (JP _) _⟩)
def kz (f:Ins->Bool) (p:List<|List Ins):Nat:=(p.map<|List.countP f).sum
theorem d9 (f:Ins->Bool) (p:List<|List Ins) (k:Nat) (h:k<p.length):kz f (p.take<|k+1)=kz f (p.take k)+p[k].countP f:=by
 unfold kz;rw [kS _ _ h,List.map_append,List.sum_append];simp
theorem cW (f:Ins->Bool) (l:List Ins) (k:Nat) (h:k<l.length):(l.take<|k+1).countP f=(l.take k).countP f+if f l[k] then 1 else 0:=by
 rw [kS _ _ h,List.countP_append];simp [List.countP_cons]
theorem rJ (f:Ins->Bool) (p:List<|List Ins):kz f p<=total p:=by
 unfold kz total
 induction p with
 | nil=>simp
 | cons r p ih=>
  simp only [List.map_cons,List.sum_cons];have := Km (p:=f) (l:=r);omega
theorem gp (f:Ins->Bool) (p:List<|List Ins) (k j:Nat) (h:k<p.length):kz f (p.take k)+(p[k].take j).countP f<=total p:=by
 have h1:=rJ f<|p.take k;have h2:=Km (p:=f) (l:=p[k].take j);have h3:=List.length_take_le' j p[k];have h4:=l4 p k h;have h5:=oF p<|k+1;omega
def bq (loc:Int) (f:Ins->Bool) (x:Ins):Bool:=x.loc==loc&&f x
theorem AO {lo hi:Nat} {u:Value} {p:List (List Ins)} {w:World} {loc:Int} (hu:nS Ins.cells 4 w lo hi u p) (ht:total p<=1048576) :
  Calls Tryz.prog 120 #[u,.int .i64 loc,.bool true] w λe w'=>e = .returned (.int .i64<|kz (bq loc wrB) p)/\Below w.heap.size w w':=by
 obtain ⟨xs,hxs,hxl,hxr⟩:=hu;obtain ⟨A,ca,rfl,hca,hma,hA⟩:=hxs.vals;clear hxs;have HX:=Lib.hid hxl;clear hxl;have HXR:=Lib.hid hxr;clear hxr;have HAA:=Lib.hid hA;clear hA
 go_enter Tryz.func120,Tryz.ntmps120
 go_wp2_with fail
 go_loopw [7,8] (λn i wr=>∃ k:Nat,k<=xs.length/\i = .int .i64 k/\n = .int .i64 (kz (bq loc wrB)<|p.take k)/\Below w.heap.size w wr) (λ_ i _=>xs.length-(intOf i).toNat)
 case atStart=>exact ⟨0,JQ _,rfl,rfl,Below.refl _ _⟩
 case round=>
  obtain ⟨k,hk,rfl,rfl,hb⟩:=hrel
  by_cases hlt:k<xs.length
  ·obtain ⟨ba,oa,rfl,_,_,hba,hA⟩:=HAA.out (by omega);have hp:k<p.length:=HX.out ▸ hlt;obtain ⟨Ak,ck,hk1,hk2,hk3,hrow⟩:=(HXR.out k hlt hp).inss;have HROW:=Lib.hid hrow;clear hrow;have ca0:=hA k hlt;rw [hk1] at ca0;have CA:=Lib.hid ca0;clear hA hk1 ca0;have i1:(0:Int)<=(k:Int):=by omega
   have i2:(k:Int)<(xs.length:Int):=by omega
   have HT:=Lib.hid<|d9 (bq loc wrB) p k hp;have HPL:=Lib.hid λj=>gp (bq loc wrB) p k j hp;obtain ⟨wo,rfl⟩:∃ wo:World,wo=wr:=⟨_,rfl⟩
   go_wp2_with fail
   go_loopw [7,9] (λn i w2=>∃ j:Nat,j<=p[k].length/\i = .int .i64 j/\n = .int .i64 (kz (bq loc wrB) (p.take k)+(p[k].take j).countP (bq loc wrB):Nat)/\Below w.heap.size w w2) (λ_ i _=>p[k].length-(intOf i).toNat)
   case atStart=>exact ⟨0,JQ _,rfl,by simp,hb⟩
   case round=>
    obtain ⟨j,hj,rfl,rfl,hb2⟩:=hrel;have c0:=(hb2.cell (p:=⟨ba,oa+k,none⟩) hba).trans CA.out;have hsm:kz (bq loc wrB) (p.take k)+(p[k].take j).countP (bq loc wrB)<=1048576:=JX (HPL.out j) ht
    by_cases hlj:j<p[k].length
    ·obtain ⟨bb,ob,rfl,_,_,hbb,hB⟩:=HROW.out (by omega);obtain ⟨d1,d2,d3,d4⟩:=(hB j hlj).below hb2 hbb;have HS:=Lib.hid<|cW (bq loc wrB) p[k] j hlj;have j1:(0:Int)<=(j:Int):=by omega
     have j2:(j:Int)<(p[k].length:Int):=by omega
     clear hB
     go_wp2_with (go_at_call 135;refine (vS _ _ _ _ _).mono ?_;rintro e w3 ⟨rfl,hq⟩)
     ·have ef:bq loc wrB p[k][j]=true:=by simp [bq,wrB, *]
      go_roundw
      case rel=>
       have h:=HS.out;rw [if_pos ef] at h;exact ⟨j+1,by omega,by go_num,congrArg (Value.int .i64) (by omega),(hb2.alloc hb2.size _).trans<|hq.mono (by simp;have := hb2.size;omega)⟩
      case measure=>simp [intOf];omega
     ·have ef : ¬ bq loc wrB p[k][j]=true:=by simp [bq,wrB, *]
      go_roundw
      case rel=>
       have h:=HS.out;rw [if_neg ef] at h;exact ⟨j+1,by omega,by go_num,congrArg (Value.int .i64) (by omega),(hb2.alloc hb2.size _).trans<|hq.mono (by simp;have := hb2.size;omega)⟩
      case measure=>simp [intOf];omega
     have ef : ¬ bq loc wrB p[k][j]=true:=by simp [bq, *]
     go_roundw
     case rel=>
      have h:=HS.out;rw [if_neg ef] at h;exact ⟨j+1,by omega,by go_num,congrArg (Value.int .i64) (by omega),hb2.alloc hb2.size _⟩
     case measure=>simp [intOf];omega
    have hjx:p[k].take j=p[k]:=JS (by omega);have HJ:=Lib.hid hjx;clear hjx
    go_wp2_with fail
    go_roundw
    case rel=>exact ⟨k+1,by omega,by go_num,congrArg (Value.int .i64) (by rw [HJ.out,HT.out]),hb2⟩
    case measure=>simp [intOf];omega
  have hkx:p.take k=p:=JS (by rw [<- HX.out];omega);have HK:=Lib.hid hkx;clear hkx
  go_wp2_with fail
  go_ret
  exact ⟨rI (by rw [HK.out]),hb⟩
theorem AP {lo hi:Nat} {u:Value} {p:List (List Ins)} {w:World} {loc:Int} (hu:nS Ins.cells 4 w lo hi u p) (ht:total p<=1048576) :
  Calls Tryz.prog 120 #[u,.int .i64 loc,.bool false] w λe w'=>e = .returned (.int .i64<|kz (bq loc rdB) p)/\Below w.heap.size w w':=by
 obtain ⟨xs,hxs,hxl,hxr⟩:=hu;obtain ⟨A,ca,rfl,hca,hma,hA⟩:=hxs.vals;clear hxs;have HX:=Lib.hid hxl;clear hxl;have HXR:=Lib.hid hxr;clear hxr;have HAA:=Lib.hid hA;clear hA
 go_enter Tryz.func120,Tryz.ntmps120
 go_wp2_with fail
 go_loopw [7,8] (λn i wr=>∃ k:Nat,k<=xs.length/\i = .int .i64 k/\n = .int .i64 (kz (bq loc rdB)<|p.take k)/\Below w.heap.size w wr) (λ_ i _=>xs.length-(intOf i).toNat)
 case atStart=>exact ⟨0,JQ _,rfl,rfl,Below.refl _ _⟩
 case round=>
  obtain ⟨k,hk,rfl,rfl,hb⟩:=hrel
  by_cases hlt:k<xs.length
  ·obtain ⟨ba,oa,rfl,_,_,hba,hA⟩:=HAA.out (by omega);have hp:k<p.length:=HX.out ▸ hlt;obtain ⟨Ak,ck,hk1,hk2,hk3,hrow⟩:=(HXR.out k hlt hp).inss;have HROW:=Lib.hid hrow;clear hrow;have ca0:=hA k hlt;rw [hk1] at ca0;have CA:=Lib.hid ca0;clear hA hk1 ca0;have i1:(0:Int)<=(k:Int):=by omega
   have i2:(k:Int)<(xs.length:Int):=by omega
   have HT:=Lib.hid<|d9 (bq loc rdB) p k hp;have HPL:=Lib.hid λj=>gp (bq loc rdB) p k j hp;obtain ⟨wo,rfl⟩:∃ wo:World,wo=wr:=⟨_,rfl⟩
   go_wp2_with fail
   go_loopw [7,9] (λn i w2=>∃ j:Nat,j<=p[k].length/\i = .int .i64 j/\n = .int .i64 (kz (bq loc rdB) (p.take k)+(p[k].take j).countP (bq loc rdB):Nat)/\Below w.heap.size w w2) (λ_ i _=>p[k].length-(intOf i).toNat)
   case atStart=>exact ⟨0,JQ _,rfl,by simp,hb⟩
   case round=>
    obtain ⟨j,hj,rfl,rfl,hb2⟩:=hrel;have c0:=(hb2.cell (p:=⟨ba,oa+k,none⟩) hba).trans CA.out;have hsm:kz (bq loc rdB) (p.take k)+(p[k].take j).countP (bq loc rdB)<=1048576:=JX (HPL.out j) ht
    by_cases hlj:j<p[k].length
    ·obtain ⟨bb,ob,rfl,_,_,hbb,hB⟩:=HROW.out (by omega);obtain ⟨d1,d2,d3,d4⟩:=(hB j hlj).below hb2 hbb;have HS:=Lib.hid<|cW (bq loc rdB) p[k] j hlj;have j1:(0:Int)<=(j:Int):=by omega
     have j2:(j:Int)<(p[k].length:Int):=by omega
     clear hB
     go_wp2_with (go_at_call 106;refine (xc _ _ _ _ _).mono ?_;rintro e w3 ⟨rfl,hq⟩)
     ·have ef:bq loc rdB p[k][j]=true:=by simp [bq,rdB, *]
      go_roundw
      case rel=>
       have h:=HS.out;rw [if_pos ef] at h;exact ⟨j+1,by omega,by go_num,congrArg (Value.int .i64) (by omega),(hb2.alloc hb2.size _).trans<|hq.mono (by simp;have := hb2.size;omega)⟩
      case measure=>simp [intOf];omega
     ·have ef : ¬ bq loc rdB p[k][j]=true:=by simp [bq,rdB, *]
      go_roundw
      case rel=>
       have h:=HS.out;rw [if_neg ef] at h;exact ⟨j+1,by omega,by go_num,congrArg (Value.int .i64) (by omega),(hb2.alloc hb2.size _).trans<|hq.mono (by simp;have := hb2.size;omega)⟩
      case measure=>simp [intOf];omega
     have ef : ¬ bq loc rdB p[k][j]=true:=by simp [bq, *]
     go_roundw
     case rel=>
      have h:=HS.out;rw [if_neg ef] at h;exact ⟨j+1,by omega,by go_num,congrArg (Value.int .i64) (by omega),hb2.alloc hb2.size _⟩
     case measure=>simp [intOf];omega
    have hjx:p[k].take j=p[k]:=JS (by omega);have HJ:=Lib.hid hjx;clear hjx
    go_wp2_with fail
    go_roundw
    case rel=>exact ⟨k+1,by omega,by go_num,congrArg (Value.int .i64) (by rw [HJ.out,HT.out]),hb2⟩
    case measure=>simp [intOf];omega
  have hkx:p.take k=p:=JS (by rw [<- HX.out];omega);have HK:=Lib.hid hkx;clear hkx
  go_wp2_with fail
  go_ret
  exact ⟨rI (by rw [HK.out]),hb⟩
def iI (n:Nat):Nat:=min n 3001
def fct:Nat->Nat
 | 0=>1
 | n+1=>fct n*(n+1)
def cw (p:List<|List Ins) (l:Int):Nat:=kz (bq l wrB) p
def cr (p:List<|List Ins) (l:Int):Nat:=kz (bq l rdB) p
def Gp (p:List<|List Ins) (l:Nat):Nat:=(cw p l+1) ^ (cr p l)*fct (cw p l)
def pT (p:List<|List Ins):Nat->Nat
 | 0=>1
 | l+1=>pT p l*Gp p l
def jT (p:List<|List Ins):Nat:=pT p 3
theorem uR {a b:Nat} (n:Nat) (h:iI a=iI b) (hn:1<=n):iI (a*n)=iI (b*n):=by
 unfold iI at *
 by_cases ha:a<3001
 ·have : a=b:=by omega
  rw [this]
 have h1:a<=a*n:=Kb a hn;have h2:b<=b*n:=Kb b hn;omega
theorem yc {a b n:Nat} (h:iI a=iI b) (ha:3000<a) (hn:1<=n):iI a=iI (b*n):=by
 unfold iI at *;have h2:b<=b*n:=Kb b hn;omega
theorem AQ {a i r:Nat} (h:i<=r):a ^ r=a ^ i*a ^ (r-i):=by rw [<- Nat.pow_add];congr 1;omega
theorem vT (i:Nat):∀ d,∃ q,1<=q/\fct (i+d)=fct i*q
 | 0=>⟨1,JP _,by simp⟩
 | d+1=>by
  obtain ⟨q,hq,h⟩:=vT i d;exact ⟨q*(i+d+1),Nat.mul_pos hq (by omega),by rw [<- Nat.add_assoc,fct,h,JV]⟩
theorem AR {n a:Int} (h:n<=3000) (_:0<=n) (ha:a<=1048577) (ha0:0<=a):n*a<=3145731000:=by
 have : n*a<=3000*1048577:=Int.mul_le_mul h ha ha0 (by omega);omega
theorem AU {n a:Nat} (h:n<=3000) (ha:a<=1048577):n*a<=4000000000:=by
 have : n*a<=3000*1048577:=J5 h ha;omega
set_option maxHeartbeats 1000000 in
theorem xd {lo hi:Nat} {u:Value} {p:List (List Ins)} {w:World} (hu:nS Ins.cells 4 w lo hi u p) (hhi:hi<=w.heap.size) (ht:total p<=1048576) :
  Calls Tryz.prog 103 #[u,.int .i64 3000] w λe w'=>e = .returned (.int .i64<|iI<|jT p)/\Below w.heap.size w w':=by
 have HU:=Lib.hid hu;clear hu
 go_enter Tryz.func103,Tryz.ntmps103
 go_wp2_with fail
 go_loopw [5,6] (λsn sl wr=>∃ (l n:Nat),l<=3/\sl = .int .i64 l/\sn = .int .i64 n/\n<=4000000000/\1<=n/\iI n=iI (pT p l)/\Below w.heap.size w wr) (λ_ sl _=>3-(intOf sl).toNat)
 case atStart=>exact ⟨0,1,by omega,rfl,rfl,by omega,by omega,rfl,Below.refl _ _⟩
 case round=>
  obtain ⟨l,n,hl,rfl,rfl,hn,hn1,hcap,hb⟩:=hrel;have HC:=Lib.hid hcap;clear hcap
  by_cases hl3:l<3
  ·have hle:(l:Int)<=2:=by omega
   have HW:=Lib.hid (show pT p (l+1)=pT p l*((cw p l+1) ^ (cr p l)*fct (cw p l)) from rfl);have hcw:=rJ (bq (l:Int) wrB) p;have hcr:=rJ (bq (l:Int) rdB) p;have CW:=Lib.hid λW hs=>AO (loc:=(l:Int)) (w:=W) (hs:nS Ins.cells 4 W lo hi u p) ht;have CR:=Lib.hid λW hs=>AP (loc:=(l:Int)) (w:=W) (hs:nS Ins.cells 4 W lo hi u p) ht;change cw p l<=total p at hcw;change cr p l<=total p at hcr;have CW2:Hid (∀ W,nS Ins.cells 4 W lo hi u p->Calls Tryz.prog 120 #[u,.int .i64 (l:Int),.bool true] W λe w'=>e = .returned (.int .i64<|cw p l)/\Below W.heap.size W w'):=CW.out;have CR2:Hid (∀ W,nS Ins.cells 4 W lo hi u p->Calls Tryz.prog 120 #[u,.int .i64 (l:Int),.bool false] W λe w'=>e = .returned (.int .i64<|cr p l)/\Below W.heap.size W w'):=CR.out;clear CW CR;generalize cw p l=a at *;generalize cr p l=r at *;obtain ⟨wo,rfl⟩:∃ wo:World,wo=wr:=⟨_,rfl⟩
   go_wp2_with fail
   refine (CW2.out _<|HU.out.below hb hhi).mono ?_;rintro e w1 ⟨rfl,hq1⟩;have hb1:Below w.heap.size w w1:=hb.trans<|hq1.mono hb.size;have ha1:(a:Int)<=1048576:=by omega
   go_wp2_with fail
   go_loopw [5,8] (λsn si w2=>∃ (i n:Nat),i<=r/\si = .int .i64 i/\sn = .int .i64 n/\n<=4000000000/\1<=n/\iI n=iI (pT p l*(a+1) ^ i)/\Below w.heap.size w w2) (λ_ si _=>r-(intOf si).toNat)
   case atStart=>exact ⟨0,n,JQ _,rfl,rfl,hn,hn1,by rw [HC.out];simp,hb1⟩
   case round=>
    obtain ⟨i,n,hi,rfl,rfl,hn,hn1,hcap,hb2⟩:=hrel;have HC1:=Lib.hid hcap;clear hcap
    by_cases hgo:i<r/\n<=3000
    ·obtain ⟨h1,h2⟩:=hgo;have h1':(i:Int)<(r:Int):=by omega
     have h2':(n:Int)<=3000:=by omega
     have hmul:n*(a+1)<=4000000000:=AU h2 (by omega);have hmul1:1<=n*(a+1):=Nat.mul_pos hn1 (by omega);have hmulI:(n:Int)*((a:Int)+1)<=3145731000:=AR h2' (by omega) (by omega) (by omega);have hmulI0:0<=(n:Int)*((a:Int)+1):=Kc (by omega) (by omega);have HM:=Lib.hid hmul;clear hmul;have HM1:=Lib.hid hmul1;clear hmul1
     go_wp2_with (go_at_call 120;refine (CR2.out _<|HU.out.below hb2 hhi).mono ?_;rintro e w3 ⟨rfl,hq3⟩)
     go_roundw
     case rel=>
      refine ⟨i+1,n*(a+1),by omega,by go_num,by push_cast;rfl,HM.out,HM1.out,?_,hb2.trans<|hq3.mono hb2.size⟩;rw [Nat.pow_succ,<- JV];exact uR _ HC1.out (by omega)
     case measure=>simp [intOf];omega
    have hc2:iI n=iI (pT p l*(a+1) ^ r):=by
     by_cases h:i<r
     ·rw [AQ hi,<- JV];exact yc HC1.out (by omega)<|Nat.pow_pos (by omega)
     have : i=r:=by omega
     rw [<- this];exact HC1.out
    have HC2:=Lib.hid hc2;clear hc2;have hor:((i:Int)<(r:Int) /\ ¬ (n:Int)<=3000) \/ ¬ (i:Int)<(r:Int):=by omega
    clear hgo;rcases hor with ⟨h1,h2⟩ | h1
    all_goals
     obtain ⟨wi,rfl⟩:∃ wi:World,wi=wr:=⟨_,rfl⟩
     go_wp2_with (go_at_call 120;refine (CR2.out _<|HU.out.below hb2 hhi).mono ?_;rintro e w3 ⟨rfl,hq3⟩)
     have hb3:Below w.heap.size w w3:=hb2.trans<|hq3.mono hb2.size
     go_loopw [5,9] (λsn si w4=>∃ (i n:Nat),2<=i/\i<=max 2 (a+1)/\si = .int .i64 i/\sn = .int .i64 n/\n<=4000000000/\1<=n/\iI n=iI (pT p l*(a+1) ^ r*fct (i-1))/\Below w.heap.size w w4) (λ_ si _=>a+3-(intOf si).toNat)
     case atStart=>exact ⟨2,n,JP _,by omega,rfl,rfl,hn,hn1,by rw [HC2.out];simp [fct],hb3⟩
     case round=>
      obtain ⟨i,n,hi2,hi,rfl,rfl,hn,hn1,hcap,hb4⟩:=hrel;have HC3:=Lib.hid hcap;clear hcap
      by_cases hgo:i<=a/\n<=3000
      ·obtain ⟨h1,h2⟩:=hgo;have h1':(i:Int)<=(a:Int):=by omega
       have h2':(n:Int)<=3000:=by omega
       have hmul:n*i<=4000000000:=AU h2 (by omega);have hmul1:1<=n*i:=Nat.mul_pos hn1 (by omega);have hmulI:(n:Int)*(i:Int)<=3145731000:=AR h2' (by omega) (by omega) (by omega);have hmulI0:0<=(n:Int)*(i:Int):=Kc (by omega) (by omega);have HM:=Lib.hid hmul;clear hmul;have HM1:=Lib.hid hmul1;clear hmul1
       go_wp2_with fail
       go_roundw
       case rel=>
        refine ⟨i+1,n*i,by omega,by omega,by go_num,by push_cast;rfl,HM.out,HM1.out,?_,hb4⟩;have : fct (i+1-1)=fct (i-1)*i:=by
         obtain ⟨q,rfl⟩:∃ q,i=q+1:=⟨i-1,by omega⟩
         rfl
        rw [this,<- JV];exact uR _ HC3.out (by omega)
       case measure=>simp [intOf];omega
      have hc4:iI n=iI (pT p<|l+1):=by
       rw [HW.out,<- JV]
       by_cases h:i<=a
       ·obtain ⟨q,hq,hf⟩:=vT (i-1)<|a-(i-1);rw [show i-1+(a-(i-1))=a from by omega] at hf;rw [hf,<- JV];exact yc HC3.out (by omega) hq
       have : fct (i-1)=fct a:=by
        by_cases ha0:a=0
        ·have : i=2:=by omega
         subst this ha0
         rfl
        congr 1;omega
       rw [<- this];exact HC3.out
      have HC4:=Lib.hid hc4;clear hc4;have hor:((i:Int)<=(a:Int) /\ ¬ (n:Int)<=3000) \/ ¬ (i:Int)<=(a:Int):=by omega
      clear hgo;rcases hor with ⟨h1,h2⟩ | h1
      all_goals
       go_wp2_with fail
       go_roundw
       case rel=>exact ⟨l+1,n,by omega,by go_num,rfl,hn,hn1,HC4.out,hb4⟩
       case measure=>simp [intOf];omega
  have hl4:l=3:=by omega
  subst hl4
  by_cases hbig:n<=3000
  ·have hfin:n=iI (jT p):=by
    have := HC.out;unfold jT iI at *;omega
   have HF:=Lib.hid hfin;clear hfin;have hb' : ¬ (3000:Int)<(n:Int):=by omega
   go_wp2_with fail
   go_ret
   exact ⟨rI (by rw [<- HF.out]),hb⟩
  have hfin:3001=iI (jT p):=by
   have := HC.out;unfold jT iI at *;omega
  have HF:=Lib.hid hfin;clear hfin;have hb':(3000:Int)<(n:Int):=by omega
  go_wp2_with fail
  go_ret
  exact ⟨rI (by rw [<- HF.out];rfl),hb⟩
theorem tX (g a n:Nat) (t:TypeId) (w:World) (hB:G5 w g t #[.int .i64 a]) (ha:a<=3001) (hn:n<=1048577) :
  Calls Tryz.prog 94 #[.int .i64 n,.pointer (some ⟨g,0,none⟩)] w λe w'=>e = .returned (.tuple #[])/\w.setCell ⟨g,0,none⟩ (.int .i64 (iI (a*n):Nat))=w':=by
 have h1:(a:Int)*(n:Int)<=4000000000:=by
  have : (a:Int)*n<=3001*1048577:=Int.mul_le_mul (by omega) (by omega) (by omega) (by omega);omega
 have h0:0<=(a:Int)*(n:Int):=Kc (by omega) (by omega);have c:=hB.cell 0;have f:=hB.frozen 0;have hc:w.cell? ⟨g,0,none⟩=some (.int .i64 a):=c;clear c hB
 go_enter Tryz.func94,Tryz.ntmps94
 go_wp2_with fail
 ·have hv:((iI (a*n):Nat):Int)=3001:=by
   have : ((a*n:Nat):Int)=(a:Int)*(n:Int):=by push_cast;rfl
   unfold iI;omega
  go_end0
  exact ⟨rfl,by rw [hv]⟩
 have hv:((iI (a*n):Nat):Int)=(a:Int)*(n:Int):=by
  have : ((a*n:Nat):Int)=(a:Int)*(n:Int):=by push_cast;rfl
  unfold iI;omega
 go_end0
 exact ⟨rfl,by rw [hv]⟩
theorem AX (n:Nat):iI n<=3001:=Nat.min_le_right _ _
theorem vU (a n:Nat) (hn:1<=n):iI (iI a*n)=iI (a*n):=uR n (by unfold iI;omega) hn
set_option maxHeartbeats 2000000 in
theorem AY {lo hi:Nat} {u:Value} {p:List (List Ins)} {w:World} (hu:nS Ins.cells 4 w lo hi u p) (ht:total p<=1048576) :
    Calls Tryz.prog 56 #[u] w λe w'=>e = .returned (.int .i64<|iI<|jT p)/\Below w.heap.size w w':=by
  obtain ⟨xs,hxs,hxl,hxr⟩:=hu;obtain ⟨A,ca,rfl,hca,hma,hA⟩:=hxs.vals;clear hxs;have HX:=Lib.hid hxl;clear hxl;have HXR:=Lib.hid hxr;clear hxr;have HAA:=Lib.hid hA;clear hA
  go_enter Tryz.func56,Tryz.ntmps56
  go_wp2_with fail
  go_loopw [14] (λsl wr=>∃ (l:Nat),l<=3/\sl = .int .i64 l/\G5 wr w.heap.size 3 #[.int .i64 (iI (pT p l):Nat)]/\Below w.heap.size w wr) (λsl _=>3-(intOf sl).toNat)
  case atStart=>exact ⟨0,by omega,rfl,G5.new _ _ _,(Below.refl _ _).alloc (JP _) _⟩
  case round=>
    obtain ⟨l,hl,rfl,hB,hb⟩:=hrel;have HB:=Lib.hid hB;clear hB;have hgl:=HB.out.lt
    by_cases hl3:l<3
    · have HW:=Lib.hid (show pT p (l+1)=pT p l*((cw p l+1) ^ (cr p l)*fct (cw p l)) from rfl);obtain ⟨wo,rfl⟩:∃ wo:World,wo=wr:=⟨_,rfl⟩;have hl3':(l:Int)<3:=by omega
      go_wp2_with fail
      go_loopw [6,7,19] (λsr sw i w1=>∃ k:Nat,k<=xs.length/\i = .int .i64 k/\sr = .int .i64 (kz (bq l rdB)<|p.take k)/\sw = .int .i64 (kz (bq l wrB)<|p.take k)/\Below wo.heap.size wo w1) (λ_ _ i _=>xs.length-(intOf i).toNat)
      case atStart=>exact ⟨0,JQ _,rfl,rfl,rfl,Below.refl _ _⟩
      case round=>
        obtain ⟨k,hk,rfl,rfl,rfl,hb1⟩:=hrel;have hbw:=hb.trans<|hb1.mono hb.size
        by_cases hlt:k<xs.length
        · obtain ⟨ba,oa,rfl,_,_,hba,hA⟩:=HAA.out (by omega);have hp:k<p.length:=HX.out ▸ hlt;obtain ⟨Ak,ck,hk1,hk2,hk3,hrow⟩:=(HXR.out k hlt hp).inss;have HROW:=Lib.hid hrow;clear hrow;have ca0:=(hbw.cell (p:=⟨ba,oa+k,none⟩) hba).trans<|hA k hlt;rw [hk1] at ca0;clear hA hk1;have i1:(0:Int)<=(k:Int):=by omega
          have i2:(k:Int)<(xs.length:Int):=by omega
          have HTr:=Lib.hid<|d9 (bq l rdB) p k hp;have HTw:=Lib.hid<|d9 (bq l wrB) p k hp;have HPr:=Lib.hid λj=>gp (bq l rdB) p k j hp;have HPw:=Lib.hid λj=>gp (bq l wrB) p k j hp;obtain ⟨w1,rfl⟩:∃ w1:World,w1=wr:=⟨_,rfl⟩
          go_wp2_with fail
          go_loopw [6,7,25] (λsr sw i w2=>∃ j:Nat,j<=p[k].length/\i = .int .i64 j/\sr = .int .i64 (kz (bq l rdB) (p.take k)+(p[k].take j).countP (bq l rdB):Nat)/\sw = .int .i64 (kz (bq l wrB) (p.take k)+(p[k].take j).countP (bq l wrB):Nat)/\Below w1.heap.size w1 w2) (λ_ _ i _=>p[k].length-(intOf i).toNat)
          case atStart=>exact ⟨0,JQ _,rfl,by simp,by simp,Below.refl _ _⟩
          case round=>
            obtain ⟨j,hj,rfl,rfl,rfl,hb2⟩:=hrel;have hbw2:=hbw.trans<|hb2.mono hbw.size;have hsm1:kz (bq l rdB) (p.take k)+(p[k].take j).countP (bq l rdB)<=1048576:=JX (HPr.out j) ht;have hsm2:kz (bq l wrB) (p.take k)+(p[k].take j).countP (bq l wrB)<=1048576:=JX (HPw.out j) ht
            by_cases hlj:j<p[k].length
            · obtain ⟨bb,ob,rfl,_,_,hbb,hBB⟩:=HROW.out (by omega);obtain ⟨d1,d2,d3,d4⟩:=(hBB j hlj).below hbw2 hbb;have HSr:=Lib.hid<|cW (bq l rdB) p[k] j hlj;have HSw:=Lib.hid<|cW (bq l wrB) p[k] j hlj;have j1:(0:Int)<=(j:Int):=by omega
              have j2:(j:Int)<(p[k].length:Int):=by omega
              clear hBB
              go_wp2_with (first
                | (go_at_call 78;refine (AL _ _ _ _ _).mono ?_;rintro e w3 ⟨rfl,hq⟩;have z0:=hq.cell (p:=⟨wr.heap.size,0,none⟩) (by simp);have z1:=hq.cell (p:=⟨wr.heap.size,1,none⟩) (by simp);have z2:=hq.cell (p:=⟨wr.heap.size,2,none⟩) (by simp);have z3:=hq.cell (p:=⟨wr.heap.size,3,none⟩)<|by simp)
                | (go_at_call 95;refine (zi _ _ _ _ _).mono ?_;rintro e w4 ⟨rfl,hq2⟩))
              all_goals
                have hr:=HSr.out;have hw:=HSw.out
                first
                  | (have ef:bq (l:Int) rdB p[k][j]=true:=by simp [bq,rdB, *]
                     rw [if_pos ef] at hr)
                  | (have ef : ¬ bq (l:Int) rdB p[k][j]=true:=by simp [bq,rdB, *]
                     rw [if_neg ef] at hr)
                first
                  | (have ef:bq (l:Int) wrB p[k][j]=true:=by simp [bq,wrB, *]
                     rw [if_pos ef] at hw)
                  | (have ef : ¬ bq (l:Int) wrB p[k][j]=true:=by simp [bq,wrB, *]
                     rw [if_neg ef] at hw)
                go_roundw
                case rel=>
                  have hsz:=hb2.size;refine ⟨j+1,by omega,by go_num,congrArg (Value.int .i64) (by omega),congrArg (Value.int .i64) (by omega),?_⟩
                  first
                    | exact hb2.alloc hb2.size _
                    | exact ((hb2.alloc hb2.size _).trans<|hq.mono<|by simp;omega).trans (hq2.mono (by have := hq.size;simp at this;omega))
                case measure=>simp [intOf];omega
            have hjx:p[k].take j=p[k]:=JS (by omega);have HJ:=Lib.hid hjx;clear hjx
            go_wp2_with fail
            go_roundw
            case rel=>exact ⟨k+1,by omega,by go_num,congrArg (Value.int .i64) (by rw [HJ.out,HTr.out]),congrArg (Value.int .i64) (by rw [HJ.out,HTw.out]),hb1.trans<|hb2.mono hb1.size⟩
            case measure=>simp [intOf];omega
        have hkx:p.take k=p:=JS (by rw [<- HX.out];omega);have B1:=HB.out.below hb1 hgl;have hcw:=rJ (bq (l:Int) wrB) p;have hcr:=rJ (bq (l:Int) rdB) p;have er:kz (bq (l:Int) rdB) (p.take k)=cr p l:=by rw [hkx];rfl
        have ew:kz (bq (l:Int) wrB) (p.take k)=cw p l:=by rw [hkx];rfl
        rw [er,ew];change cw p l<=total p at hcw;change cr p l<=total p at hcr;clear er ew hkx;generalize cw p l=a at *;generalize cr p l=r at *;have BB1:=Lib.hid B1;clear B1;have ha1:(a:Int)<=1048576:=by omega
        have hr1:(r:Int)<=1048576:=by omega
        go_wp2_with fail
        go_loopw [52] (λsi w4=>∃ (i:Nat),i<=r/\si = .int .i64 i/\G5 w4 w.heap.size 3 #[.int .i64 (iI (pT p l*(a+1) ^ i):Nat)]/\Below w.heap.size w w4) (λsi _=>r-(intOf si).toNat)
        case atStart=>exact ⟨0,JQ _,rfl,by simpa using BB1.out,hbw⟩
        case round=>
          obtain ⟨i,hi,rfl,hBi,hb4⟩:=hrel;have HBi:=Lib.hid hBi;clear hBi
          by_cases hir:i<r
          · have hir':(i:Int)<(r:Int):=by omega
            have hc3:iI (pT p l*(a+1) ^ i)<=3001:=AX _;have hstep:iI (iI (pT p l*(a+1) ^ i)*(a+1))=iI (pT p l*(a+1) ^ (i+1)):=by rw [vU _ _ (by omega),Nat.pow_succ,JV]
            have HST:=Lib.hid hstep;clear hstep;have hcast:((a+1:Nat):Int)=(a:Int)+1:=by push_cast;rfl
            have EX:=tX w.heap.size (iI<|pT p l*(a+1) ^ i) (a+1) 3 wr HBi.out hc3 (by omega);rw [hcast] at EX;have HEX:=Lib.hid EX;clear EX hcast hc3
            go_wp2_with (go_at_call 94;refine HEX.out.mono ?_;rintro e w5 ⟨rfl,rfl⟩)
            go_roundw
            case rel=>exact ⟨i+1,by omega,by go_num,by rw [<- HST.out];exact HBi.out.set_ 0 _,hb4.setCell (by simp) _⟩
            case measure=>simp [intOf];omega
          have hix:i=r:=by omega
          subst hix
          go_wp2_with fail
          go_loopw [60] (λsi w4=>∃ (j:Nat),j<=a/\si = .int .i64 j/\G5 w4 w.heap.size 3 #[.int .i64 (iI (pT p l*(a+1) ^ i*fct j):Nat)]/\Below w.heap.size w w4) (λsi _=>a-(intOf si).toNat)
          case atStart=>exact ⟨0,JQ _,rfl,by simpa [fct] using HBi.out,hb4⟩
          case round=>
            obtain ⟨j,hj,rfl,hBj,hb5⟩:=hrel;have HBj:=Lib.hid hBj;clear hBj
            by_cases hja:j<a
            · have hja':(j:Int)<(a:Int):=by omega
              have hc3:iI (pT p l*(a+1) ^ i*fct j)<=3001:=AX _;have hstep:iI (iI (pT p l*(a+1) ^ i*fct j)*(j+1))=iI (pT p l*(a+1) ^ i*fct (j+1)):=by rw [vU _ _ (by omega),fct,<- JV]
              have HST:=Lib.hid hstep;clear hstep;have hcast:((j+1:Nat):Int)=(j:Int)+1:=by push_cast;rfl
              have EX:=tX w.heap.size (iI<|pT p l*(a+1) ^ i*fct j) (j+1) 3 wr HBj.out hc3 (by omega);rw [hcast] at EX;have HEX:=Lib.hid EX;clear EX hcast hc3
              go_wp2_with (go_at_call 94;refine HEX.out.mono ?_;rintro e w5 ⟨rfl,rfl⟩)
              go_roundw
              case rel=>exact ⟨j+1,by omega,by go_num,by rw [<- HST.out];exact HBj.out.set_ 0 _,hb5.setCell (by simp) _⟩
              case measure=>simp [intOf];omega
            have hjx:j=a:=by omega
            subst hjx
            go_wp2_with fail
            go_roundw
            case rel=>exact ⟨l+1,by omega,by go_num,by rw [HW.out,<- JV];exact HBj.out,hb5⟩
            case measure=>simp [intOf];omega
    have hl4:l=3:=by omega
    subst hl4;have c0:=HB.out.cell 0;have c1:wr.cell? ⟨w.heap.size,0,none⟩=some (.int .i64 (iI (pT p 3):Nat)):=c0;clear c0
    go_wp2_with fail
    go_ret
    exact ⟨rI rfl,hb⟩
def mS (x:Ins):Bool:=x.op != 4
def rowOk (r:List Ins):Bool:=decide (r.length<=7)&&r.all gy
def jV (p:List<|List Ins):Bool:=decide (p.length<=3)&&p.all rowOk&&decide (kz mS p<=12)
def aY (p:List<|List Ins):Bool:=jV p&&decide (0<p.length)&&decide (jT p<=3000)
theorem pO {p:List (List Ins)} (k:Nat) (h:k<p.length) (hb:rowOk p[k]=false):jV p=false:=by
 have : p.all rowOk=false:=by
  rw [List.all_eq_false];exact ⟨p[k],JZ h,by rw [hb];simp⟩
 simp [jV,this]
theorem tY {r:List Ins} (h:7<r.length):rowOk r=false:=by
 simp [rowOk];omega
theorem vV {r:List Ins} (j:Nat) (h:j<r.length) (hb:gy r[j]=false):rowOk r=false:=by
 have : r.all gy=false:=by
  rw [List.all_eq_false];exact ⟨r[j],JZ h,by rw [hb];simp⟩
 simp [rowOk,this]
theorem tZ {r:List Ins} (h:r.length<=7) (hg:∀ j (h:j<r.length),gy r[j]=true):rowOk r=true:=by
 simp only [rowOk,bae,dte,Ke];refine ⟨h,λx hx=>?_⟩;obtain ⟨j,hj,rfl⟩:=Kn hx;exact hg j hj
theorem rK {p:List (List Ins)} (h:p.length<=3) (hg:∀ j (h:j<p.length),rowOk p[j]=true):jV p=decide (kz mS p<=12):=by
 have : p.all rowOk=true:=by
  rw [Ke];intro x hx;obtain ⟨j,hj,rfl⟩:=Kn hx;exact hg j hj
 simp [jV,this,h]
set_option maxHeartbeats 1000000 in
theorem rL {lo hi:Nat} {u:Value} {p:List (List Ins)} {w:World} (hu:nS Ins.cells 4 w lo hi u p) (ht:total p<=1048576) :
    Calls Tryz.prog 102 #[u] w λe w'=>e = .returned (.bool<|jV p)/\Below w.heap.size w w':=by
  obtain ⟨xs,hxs,hxl,hxr⟩:=hu;obtain ⟨A,ca,rfl,hca,hma,hA⟩:=hxs.vals;clear hxs;have HX:=Lib.hid hxl;clear hxl;have HXR:=Lib.hid hxr;clear hxr;have HAA:=Lib.hid hA;clear hA
  by_cases h3:xs.length<=3
  · have h3' : ¬ (3:Int)<(xs.length:Int):=by omega
    go_enter Tryz.func102,Tryz.ntmps102
    go_wp2_with fail
    go_loopw [3,4] (λn i wr=>∃ k:Nat,k<=xs.length/\i = .int .i64 k/\n = .int .i64 (kz mS<|p.take k)/\(∀ q (h:q<p.length),q<k->rowOk p[q]=true)/\Below w.heap.size w wr) (λ_ i _=>xs.length-(intOf i).toNat)
    case atStart=>exact ⟨0,JQ _,rfl,rfl,λq _ h=>absurd h (by omega),Below.refl _ _⟩
    case round=>
      obtain ⟨k,hk,rfl,rfl,hgood,hb⟩:=hrel;have HG:=Lib.hid hgood;clear hgood
      by_cases hlt:k<xs.length
      · obtain ⟨ba,oa,rfl,_,_,hba,hA⟩:=HAA.out (by omega);have hp:k<p.length:=HX.out ▸ hlt;obtain ⟨Ak,ck,hk1,hk2,hk3,hrow⟩:=(HXR.out k hlt hp).inss;have HROW:=Lib.hid hrow;clear hrow;have ca0:=hA k hlt;rw [hk1] at ca0;have CA:=Lib.hid ca0;have c00:=(hb.cell (p:=⟨ba,oa+k,none⟩) hba).trans ca0;clear hA hk1 ca0;have i1:(0:Int)<=(k:Int):=by omega
        have i2:(k:Int)<(xs.length:Int):=by omega
        have HT:=Lib.hid<|d9 mS p k hp;have HPL:=Lib.hid λj=>gp mS p k j hp;obtain ⟨wo,rfl⟩:∃ wo:World,wo=wr:=⟨_,rfl⟩
        by_cases h7:p[k].length<=7
        · have h7' : ¬ (7:Int)<(p[k].length:Int):=by omega
          go_wp2_with fail
          go_loopw [3,5] (λn i w2=>∃ j:Nat,j<=p[k].length/\i = .int .i64 j/\n = .int .i64 (kz mS (p.take k)+(p[k].take j).countP mS:Nat)/\(∀ q (h:q<p[k].length),q<j->gy p[k][q]=true)/\Below w.heap.size w w2) (λ_ i _=>p[k].length-(intOf i).toNat)
          case atStart=>exact ⟨0,JQ _,rfl,by simp,λq _ h=>absurd h (by omega),hb⟩
          case round=>
            obtain ⟨j,hj,rfl,rfl,hgj,hb2⟩:=hrel;have HGJ:=Lib.hid hgj;clear hgj;have c0:=(hb2.cell (p:=⟨ba,oa+k,none⟩) hba).trans CA.out;have hsm:kz mS (p.take k)+(p[k].take j).countP mS<=1048576:=JX (HPL.out j) ht
            by_cases hlj:j<p[k].length
            · obtain ⟨bb,ob,rfl,_,_,hbb,hB⟩:=HROW.out (by omega);obtain ⟨d1,d2,d3,d4⟩:=(hB j hlj).below hb2 hbb;have HS:=Lib.hid<|cW mS p[k] j hlj;have j1:(0:Int)<=(j:Int):=by omega
              have j2:(j:Int)<(p[k].length:Int):=by omega
              clear hB c00
              go_wp2_with fail
              refine (nz p[k][j] _).mono ?_;rintro e w3 ⟨rfl,hq⟩;have e0:=(hq.cell (p:=⟨ba,oa+k,none⟩)<|Nat.lt_of_lt_of_le hba hb2.size).trans c0;have e1:=(hq.cell (p:=⟨bb,ob+j*4,none⟩)<|Nat.lt_of_lt_of_le hbb hb2.size).trans d1;have hb3:=hb2.trans<|hq.mono hb2.size
              by_cases hok:gy p[k][j]=true
              · go_wp2_with fail
                all_goals
                  have h:=HS.out
                  first
                    | (have ef:mS p[k][j]=true:=by simpa [mS] using ‹(p[k][j].op != 4)=true›
                       rw [if_pos ef] at h)
                    | (have ef : ¬ mS p[k][j]=true:=by simpa [mS] using ‹(p[k][j].op != 4)=false›
                       rw [if_neg ef] at h)
                  go_roundw
                  case rel=>
                    refine ⟨j+1,by omega,by go_num,congrArg (Value.int .i64) (by omega),λq hq hqj=>?_,hb3⟩
                    by_cases e:q=j
                    · subst e;exact hok
                    exact HGJ.out q hq (by omega)
                  case measure=>simp [intOf];omega
              have hok':gy p[k][j]=false:=by simpa using hok
              have hbad:=pO k hp<|vV j hlj hok';have HBAD:=Lib.hid hbad;clear hok hbad
              go_wp2_with fail
              go_ret
              exact ⟨aH (by rw [HBAD.out]),hb3⟩
            have hjx:p[k].take j=p[k]:=JS (by omega);have HJ:=Lib.hid hjx;clear hjx;have hrk:rowOk p[k]=true:=tZ h7 λq hq=>HGJ.out q hq (by omega);have HRK:=Lib.hid hrk;clear hrk
            go_wp2_with fail
            go_roundw
            case rel=>
              refine ⟨k+1,by omega,by go_num,congrArg (Value.int .i64) (by rw [HJ.out,HT.out]),λq hq hqk=>?_,hb2⟩
              by_cases e:q=k
              · subst e;exact HRK.out
              exact HG.out q hq (by omega)
            case measure=>simp [intOf];omega
        have h7':(7:Int)<(p[k].length:Int):=by omega
        have HBAD:=Lib.hid<|pO k hp<|tY (by omega);clear h7
        go_wp2_with fail
        go_ret
        exact ⟨aH (by rw [HBAD.out]),hb⟩
      have hkx:p.take k=p:=JS (by rw [<- HX.out];omega);have hsh:=rK (p:=p) (by rw [<- HX.out];exact h3) λq hq=>HG.out q hq (by rw [<- HX.out] at hq;omega);have HK:=Lib.hid hkx;clear hkx;have HS:=Lib.hid hsh;clear hsh
      go_wp2_with fail
      go_ret
      exact ⟨aH (by rw [HS.out,HK.out];exact decide_eq_decide.2<|by omega),hb⟩
  have h3':(3:Int)<(xs.length:Int):=by omega
  have hsh:jV p=false:=by
    have := HX.out;simp [jV];omega
  have HS:=Lib.hid hsh;clear h3 hsh
  go_enter Tryz.func102,Tryz.ntmps102
  go_wp2_with fail
  go_ret
  exact ⟨aH (by rw [HS.out]),Below.refl _ _⟩
theorem rM (n:Nat):decide (((iI n:Nat):Int)<=3000)=decide (n<=3000):=by
 unfold iI;simp only [decide_eq_decide];omega
theorem iA {lo hi:Nat} {u:Value} {p:List (List Ins)} {w:World} (hu:nS Ins.cells 4 w lo hi u p) (hhi:hi<=w.heap.size) (ht:total p<=1048576) :
  Calls Tryz.prog 68 #[u] w λe w'=>e = .returned (.bool<|aY p)/\Below w.heap.size w w':=by
 have HU:=Lib.hid hu;obtain ⟨xs,hxs,hxl,hxr⟩:=hu;obtain ⟨A,ca,rfl,hca,hma,hA⟩:=hxs.vals;clear hxs hxr hA;have HX:=Lib.hid hxl;clear hxl;have hv:aY p=(jV p&&decide (0<xs.length)&&decide (jT p<=3000)):=by rw [HX.out];rfl
 have HV:=Lib.hid hv;clear hv;have hc:=rM<|jT p;have HCC:=Lib.hid hc;clear hc
 cases hs:jV p with
 | false=>
  have SH:=Lib.hid<|rL (w:=w) HU.out ht;rw [hs] at SH;have HS:=Lib.hid hs;clear hs
  go_enter Tryz.func68,Tryz.ntmps68
  go_wp2_with (first | (go_at_call 102;refine SH.out.mono ?_;rintro e w1 ⟨rfl,hb⟩))
  go_ret
  exact ⟨aH (by rw [HV.out,HS.out];rfl),hb⟩
 | true=>
  have SH:=Lib.hid<|rL (w:=w) HU.out ht;rw [hs] at SH;have HS:=Lib.hid hs;clear hs
  by_cases h0:(0:Int)<(xs.length:Int)
  ·go_enter Tryz.func68,Tryz.ntmps68
   go_wp2_with (first | (go_at_call 102;refine SH.out.mono ?_;rintro e w1 ⟨rfl,hb⟩) | (go_at_call 103;refine (xd (HU.out.below hb hhi) (JX hhi hb.size) ht).mono ?_;rintro e w2 ⟨rfl,hb2⟩))
   all_goals
    go_ret
    refine ⟨aH ?_,hb.trans<|hb2.mono hb.size⟩;rw [HV.out,HS.out];have := HCC.out
    simp_all
  go_enter Tryz.func68,Tryz.ntmps68
  go_wp2_with (first | (go_at_call 102;refine SH.out.mono ?_;rintro e w1 ⟨rfl,hb⟩))
  go_ret
  refine ⟨aH ?_,hb⟩;rw [HV.out,HS.out];simp;omega
theorem ub {p:List (List Ins)} (k:Nat) (h:k<p.length) (hb:rowOk p[k]=false):aY p=false:=by
 simp [aY,pO k h hb]
set_option maxHeartbeats 1000000 in
theorem iB {lo hi:Nat} {u:Value} {p:List (List Ins)} {w:World} (hu:nS Ins.cells 4 w lo hi u p) (hhi:hi<=w.heap.size) (ht:total p<=1048576) :
    Calls Tryz.prog 16 #[u] w λe w'=>e = .returned (.bool<|aY p)/\Below w.heap.size w w':=by
  have HU:=Lib.hid hu;obtain ⟨xs,hxs,hxl,hxr⟩:=hu;obtain ⟨A,ca,rfl,hca,hma,hA⟩:=hxs.vals;clear hxs;have HX:=Lib.hid hxl;clear hxl;have HXR:=Lib.hid hxr;clear hxr;have HAA:=Lib.hid hA;clear hA
  by_cases h3:1<=xs.length/\xs.length<=3
  · obtain ⟨h1,h3⟩:=h3
    go_enter Tryz.func16,Tryz.ntmps16
    go_wp2_with (go_at_call 47;refine (bZ _ _ _ true (by simp;omega) _).mono ?_;rintro e w1 ⟨rfl,rfl⟩)
    go_loopw [3,14] (λn i wr=>∃ k:Nat,k<=xs.length/\i = .int .i64 k/\n = .int .i64 (kz mS<|p.take k)/\(∀ q (h:q<p.length),q<k->rowOk p[q]=true)/\Below w.heap.size w wr) (λ_ i _=>xs.length-(intOf i).toNat)
    case atStart=>exact ⟨0,JQ _,rfl,rfl,λq _ h=>absurd h (by omega),Below.refl _ _⟩
    case round=>
      obtain ⟨k,hk,rfl,rfl,hgood,hb⟩:=hrel;have HG:=Lib.hid hgood;clear hgood
      by_cases hlt:k<xs.length
      · obtain ⟨ba,oa,rfl,_,_,hba,hA⟩:=HAA.out (by omega);have hp:k<p.length:=HX.out ▸ hlt;obtain ⟨Ak,ck,hk1,hk2,hk3,hrow⟩:=(HXR.out k hlt hp).inss;have HROW:=Lib.hid hrow;clear hrow;have ca0:=hA k hlt;rw [hk1] at ca0;have c00:=(hb.cell (p:=⟨ba,oa+k,none⟩) hba).trans ca0;clear hA hk1 ca0;have i1:(0:Int)<=(k:Int):=by omega
        have i2:(k:Int)<(xs.length:Int):=by omega
        have HT:=Lib.hid<|d9 mS p k hp;have HPL:=Lib.hid λj=>gp mS p k j hp;obtain ⟨wo,rfl⟩:∃ wo:World,wo=wr:=⟨_,rfl⟩
        go_wp2_with fail
        clear c00
        go_loopw [3,20] (λn i w2=>∃ j:Nat,j<=p[k].length/\i = .int .i64 j/\n = .int .i64 (kz mS (p.take k)+(p[k].take j).countP mS:Nat)/\(∀ q (h:q<p[k].length),q<j->gy p[k][q]=true)/\Below w.heap.size w w2) (λ_ i _=>p[k].length-(intOf i).toNat)
        case atStart=>exact ⟨0,JQ _,rfl,by simp,λq _ h=>absurd h (by omega),hb⟩
        case round=>
          obtain ⟨j,hj,rfl,rfl,hgj,hb2⟩:=hrel;have HGJ:=Lib.hid hgj;clear hgj;have hsm:kz mS (p.take k)+(p[k].take j).countP mS<=1048576:=JX (HPL.out j) ht
          by_cases hlj:j<p[k].length
          · obtain ⟨bb,ob,rfl,_,_,hbb,hB⟩:=HROW.out (by omega);obtain ⟨d1,d2,d3,d4⟩:=(hB j hlj).below hb2 hbb;have HS:=Lib.hid<|cW mS p[k] j hlj;have j1:(0:Int)<=(j:Int):=by omega
            have j2:(j:Int)<(p[k].length:Int):=by omega
            clear hB
            go_wp2_with fail
            refine (nA p[k][j] _).mono ?_;rintro e w3 ⟨rfl,hq⟩;have z0:=hq.cell (p:=⟨wr.heap.size,0,none⟩) (by simp);have hb3:=(hb2.alloc hb2.size<|.cells #[.int .i64 p[k][j].op,.int .i64 p[k][j].loc,.int .i64 p[k][j].reg,.int .i64 p[k][j].val] 69).trans<|hq.mono (by simp;have := hb2.size;omega)
            by_cases hok:gy p[k][j]=true
            · go_wp2_with fail
              all_goals
                have h:=HS.out
                first
                  | (have ef:mS p[k][j]=true:=by simpa [mS] using ‹(p[k][j].op != 4)=true›
                     rw [if_pos ef] at h)
                  | (have ef : ¬ mS p[k][j]=true:=by simpa [mS] using ‹(p[k][j].op != 4)=false›
                     rw [if_neg ef] at h)
                go_roundw
                case rel=>
                  refine ⟨j+1,by omega,by go_num,congrArg (Value.int .i64) (by omega),λq hq hqj=>?_,hb3⟩
                  by_cases e:q=j
                  · subst e;exact hok
                  exact HGJ.out q hq (by omega)
                case measure=>simp [intOf];omega
            have hok':gy p[k][j]=false:=by simpa using hok
            have hbad:=ub k hp<|vV j hlj hok';have HBAD:=Lib.hid hbad;clear hok hbad
            go_wp2_with fail
            go_ret
            exact ⟨aH (by rw [HBAD.out]),hb3⟩
          have hjx:p[k].take j=p[k]:=JS (by omega);have HJ:=Lib.hid hjx;clear hjx
          by_cases h7:p[k].length<=7
          · have h7' : ¬ (7:Int)<(p[k].length:Int):=by omega
            have hrk:rowOk p[k]=true:=tZ h7 λq hq=>HGJ.out q hq (by omega);have HRK:=Lib.hid hrk;clear hrk
            go_wp2_with fail
            go_roundw
            case rel=>
              refine ⟨k+1,by omega,by go_num,congrArg (Value.int .i64) (by rw [HJ.out,HT.out]),λq hq hqk=>?_,hb2⟩
              by_cases e:q=k
              · subst e;exact HRK.out
              exact HG.out q hq (by omega)
            case measure=>simp [intOf];omega
          have h7':(7:Int)<(p[k].length:Int):=by omega
          have HBAD:=Lib.hid<|ub k hp<|tY (by omega);clear h7
          go_wp2_with fail
          go_ret
          exact ⟨aH (by rw [HBAD.out]),hb2⟩
      have hkx:p.take k=p:=JS (by rw [<- HX.out];omega);have hsh:=rK (p:=p) (by rw [<- HX.out];exact h3) λq hq=>HG.out q hq (by rw [<- HX.out] at hq;omega);have hv:aY p=(decide (kz mS p<=12)&&decide (jT p<=3000)):=by
        have : 0<p.length:=by rw [<- HX.out];omega
        simp [aY,hsh,this]
      rw [hkx];have HV:=Lib.hid hv;clear hv hsh hkx;have HCC:=Lib.hid<|rM<|jT p
      by_cases h12:kz mS p<=12
      · have h12':(kz mS p:Int)<=12:=by omega
        go_wp2_with (go_at_call 56;refine (AY (HU.out.below hb hhi) ht).mono ?_;rintro e w2 ⟨rfl,hb2⟩)
        go_ret
        exact ⟨aH (by rw [HV.out,decide_eq_true h12,Bool.true_and];exact HCC.out),hb.trans<|hb2.mono hb.size⟩
      have h12' : ¬ (kz mS p:Int)<=12:=by omega
      have hf:aY p=false:=by rw [HV.out];simp [h12]
      have HF:=Lib.hid hf;clear hf h12
      go_wp2_with fail
      go_ret
      exact ⟨aH (by rw [HF.out]),hb⟩
  have hv:aY p=false:=by
    have := HX.out
    by_cases h:p.length<=3
    · have : p.length=0:=by omega
      simp [aY,this]
    simp [aY,jV,h]
  have HV:=Lib.hid hv;clear hv;have HN:=Lib.hid h3;clear h3
  go_enter Tryz.func16,Tryz.ntmps16
  go_wp2_with (go_at_call 47;refine (bZ _ _ _ false (by have := HN.out;simp;omega) _).mono ?_;rintro e w1 ⟨rfl,rfl⟩)
  go_ret
  exact ⟨aH (by rw [HV.out]),Below.refl _ _⟩
open Go.RowKit
def av (p:List<|List GY):Option Bool:=gd (decide<|p.length<=1048576/\total p<=1048576)<|some<|aY<|p.map λr=>r.map f8
def aV (p:List<|List GY):Option Bool:=gd (decide<|p.length<=1048576/\total p<=1048576)<|some<|aY<|p.map λr=>r.map f8
open Go.RowKit
section
variable {P:Program} {H:AH} {s:Nat} {o:Oper} {ρ:Operand->AV}
theorem AZ {e:TypeId} {i:TypeInfo} {z:Value} (w:World) (hi:P.info? e=some i) (hz:i.zero=some z):(zeroValue e).run P w = .ok z w:=by simp [zeroValue,typeInfo,hi,hz]
theorem A7 {cl:Call} {x:Operand} {t e:TypeId} {b ver off len:Nat} {k:ABlk} {z:Value} {zr:List AV} (ho:o.op = .call cl) (h1:cl.callee = .builtin .clear) (h2:cl.args.toList=[x]) (h3:cl.argTypes.toList=[t])
  (ht:P.underlying t=some (.slice e)) (hz:(P.info? e).bind (·.zero)=some z) (hz1:ia z.cells=true) (hzs:z.cells.size=s) (hzr:zr.length=s) (hzc:∀ (c:Cx) (j:Nat) (a:AV),zr[j]? = some a->∃ u,z.cells[j]? = some u/\c.rel a u)
  (hx:ρ x = .hs b ver s off len) (hb:H[b]? = some (some k)) (hv:k.ver=ver) (hs:k.s=s) (hoff:off+len<=k.rows.length) :
  GN P o ρ H .top (H.set b<|some { k with rows:=k.rows.take off++(J0 len zr).take len++k.rows.drop (off+len) }):=by
 intro c a K Q hH hr hxs hK;obtain ⟨callee,args,ts⟩:=cl;simp only at h1 h2 h3;obtain rfl:args = #[x]:=by cases args;simp_all
 obtain rfl:ts = #[t]:=by cases ts;simp_all
 subst h1;have hx1:=hx ▸ hxs x (by rw [ho];simp [Op.operands,Call.operands]);generalize hn:len=n at hK ⊢;generalize hnews:J0 n zr=news at hK ⊢;have hrl:∀ (i:Nat) (row:List AV),news[i]? = some row->row.length=s:=λi row h=>by
  rw [<- hnews] at h;have := J2 h;rw [List.mem_replicate] at this;rw [this.2,hzr]
 have hnl0:news.length=n:=by rw [<- hnews,List.length_replicate]
 have hone:∀ v∈z.cells,v.oneCell'=true:=by
  rw [nU,Array.all_eq_true_iff_forall_mem] at hz1;exact hz1
 generalize hvs:(Builtin.zeroCells z.cells n).toList=vs;have hvl:vs.length=n*s:=by rw [<- hvs,Ko,gF,hzs]
 have hvget:∀ i j,i<n->j<s->vs[i*s+j]? = z.cells[j]? := λi j hi hj=>by
  have hfit:i*s+j<n*s:=by
   have : (i+1)*s<=n*s:=J6 _ (by omega);rw [J7] at this;omega
  rw [<- hvs,Kq];unfold Builtin.zeroCells;rw [hzs];have := qF z.cells (n*s) (i*s+j) hfit (by omega);rw [hzs] at this;rw [this,Kg i s,Nat.mul_add_mod,Kh hj]
 have hv1:∀ v∈vs,v.oneCell'=true:=λv hm=>by
  obtain ⟨q,hq⟩:=Kr hm;have hq':=(ges hq).1;rw [hvl] at hq';have hs0:0<s:=Nat.pos_of_ne_zero λh=>by rw [h,Nat.mul_zero] at hq';omega
  have e1:q=q / s*s+q % s:=by rw [Kg];exact (Nat.div_add_mod q s).symm
  rw [e1,hvget (q / s) (q % s) (Nat.div_lt_of_lt_mul<|by rw [Kg];exact hq') (Nat.mod_lt _ hs0)] at hq;exact hone v<|Ks hq
 have hvr:∀ (i:Nat) (row:List AV) (j:Nat) (a:AV),(news.take n)[i]? = some row->row[j]? = some a->∃ u,vs[i*s+j]? = some u/\u.oneCell'=true/\c.rel a u:=λi row j a hi hj=>by
  have hin:i<n:=by
   have := (ges hi).1;rw [List.length_take] at this;omega
  rw [Ki,if_pos hin,<- hnews] at hi;have := J2 hi;rw [List.mem_replicate] at this;rw [this.2] at hj;have hjs:j<s:=by rw [<- hzr];exact (ges hj).1
  obtain ⟨u,g1,g2⟩:=hzc c j a hj;exact ⟨u,by rw [hvget i j hin hjs];exact g1,hone u<|Ks g1,g2⟩
 have hl:c.live b k:=by unfold Cx.live;rw [hH];exact hb
 generalize hux:a.eval x=ux at hx1
 cases hx1 with
 | fr h=>cases h
 | @hs _ _ _ _ _ cap A hbn hcl hcm h0 hh=>
  obtain ⟨cur,fr,hB⟩:=hr.blk b k hl;obtain ⟨fr,rfl,hat,hd⟩:=hB.cells hl λx hx=>(hh x<|hv ▸ hx).1.trans hs.symm;rw [hv] at hd;obtain ⟨_,_,hA,hcf⟩:=hh _ hd;simp only at hA hcf;have hexec:∀ w',(n=0/\w'=c.w)\/(∃ ad,A=some ad/\0<n/\(storeCells ad vs).run P c.w = .ok () w')->(execOp a.eval o).run P c.w = .ok (.value<|.tuple #[]) w':=λw' hw=>by
   have e1:(Builtin.clear_ #[t] o.type #[.slice A len cap]).run P c.w = .ok (.tuple #[]) w':=by
    obtain ⟨inf,h5,h6⟩:=Option.bind_eq_some_iff.1 hz;rcases hw with ⟨h0',rfl⟩ | ⟨ad,rfl,hp,hst⟩
    ·rw [hn,h0']
     cases A <;> simp [Builtin.clear_,Sem.run_bind,ah ht]
    obtain ⟨q,rfl⟩:∃ q,n=q+1:=⟨n-1,by omega⟩;rw [hn];simp [Builtin.clear_,Sem.run_bind,ah ht,AZ c.w h5 h6,hvs,hst]
   simp [execOp,ho,resolve,invoke,builtin,hux,e1]
  unfold Oper.wp;rcases Nat.eq_zero_or_pos n with h00 | hpos
  ·-- nothing is copied
   have hv0:vs=[]:=Kt (by rw [hvl,h00,Nat.zero_mul]);have hk0:({ k with rows:=k.rows.take off++news.take n++k.rows.drop (off+n) }:ABlk)=k:=by
    rw [h00];simp
   rw [hexec c.w (.inl ⟨h00,rfl⟩)];refine hK _ c ?_ hr (Ext.refl c) .top;rw [hk0,uI H b _ hb,hH]
  have h0':0<cap:=by omega
  obtain rfl:=hA h0';have hfit:=hB.fits;have hsp:=hB.pos;have hle:(c.φ b).2+off*s+vs.length<=cur.toList.length:=by
   have h5:(off+len)*s<=k.rows.length*s:=J6 _ hoff;have h6:n*s<=len*s:=J6 _ (by omega);rw [J7] at h5;have hct:cur.toList.length=cur.size:=Ko;rw [hs] at hfit;rw [hvl,hct];omega
  have hst:=eY (P:=P) (c.φ b).1 ((c.φ b).2+off*s) k.ty fr vs 0 cur c.w hat (hB.free fr rfl) (by simpa using hle) hv1;rw [Nat.add_zero] at hst;have hg2:=λq=>uF cur.toList _ _ hle q;have hs2:=uG cur.toList _ _ hle;generalize hcs2:(cur.toList.take ((c.φ b).2+off*s)++vs++cur.toList.drop ((c.φ b).2+off*s+vs.length))=ls at *;have hsz2:ls.toArray.size=cur.size:=by simpa using hs2
  have hget:∀ q,ls.toArray[q]? = if (c.φ b).2+off*s<=q/\q<(c.φ b).2+off*s+vs.length then vs[q-((c.φ b).2+off*s)]? else cur[q]? := λq=>by
   rw [List.getElem?_toArray,hg2,Kq (xs:=cur)]
  have hrl2:(k.rows.take off++news.take n++k.rows.drop (off+n)).length=k.rows.length:=by
   simp only [lla,List.length_take,List.length_drop];omega
  have hrow:∀ (i:Nat) (row:List AV),(k.rows.take off++news.take n++k.rows.drop (off+n))[i]? = some row->(off<=i/\i<off+n/\news[i-off]? = some row)\/((i<off\/off+n<=i)/\k.rows[i]? = some row):=λi row h=>by
   have hnl:(news.take n).length=n:=by simp;omega
   have e:=uF k.rows off (news.take n) (by rw [hnl];omega) i;rw [hnl] at e;rw [e] at h
   split at h
   ·rename_i h2;refine .inl ⟨h2.1,h2.2,?_⟩;rw [Ki,if_pos (by omega)] at h;exact h
   rename_i h2;exact .inr ⟨by omega,h⟩
  have hlen2:∀ (i:Nat) (row:List AV),(k.rows.take off++news.take n++k.rows.drop (off+n))[i]? = some row->row.length=k.s:=λi row h=>by
   rcases hrow i row h with ⟨_,_,h2⟩ | ⟨_,h2⟩
   ·rw [hrl _ row h2,hs]
   exact hB.len i row h2
  have hext:=Cx.upd_ext (k:={ k with rows:=k.rows.take off++news.take n++k.rows.drop (off+n) }) (o:=(c.φ b).2) (cs:=ls.toArray) hr hl hB hsz2 (.inl ⟨rfl,rfl,hrl2,rfl⟩);have hrel:=Cx.upd_rel (k:={ k with rows:=k.rows.take off++news.take n++k.rows.drop (off+n) }) (o:=(c.φ b).2) (cs:=ls.toArray) hr hl hB hsz2 rfl hext hsp (by simp only;rw [hrl2,hsz2];exact hfit) hlen2 (λi row j a' h h'=>by
   have hj:j<s:=by
    have := (ges h').1;rw [hlen2 i row h,hs] at this;exact this
   simp only;rw [hget,hs,hvl];rcases hrow i row h with ⟨g1,g2,g3⟩ | ⟨g1,g3⟩
   ·have hf:=mJ (s:=s) (show i-off<n by omega) (j:=j+1) hj;have e:i*s=(i-off)*s+off*s:=by
     rw [<- J7]
     congr 1
     omega
    rw [if_pos (by omega)];obtain ⟨u',q1,q2,q3⟩:=hvr (i-off) row j a' (by rw [Ki,if_pos (by omega)];exact g3) h';refine ⟨u',?_,q2,q3⟩;rw [<- q1]
    congr 1
    omega
   have hi':=(ges g3).1;rw [if_neg (λhq=>?_)]
   ·have := hB.rel i row j a' g3 h';rw [hs] at this;exact this
   rcases g1 with g1 | g1
   ·have hf:=mJ (s:=s) g1 (j:=j+1) hj;omega
   have hf:(off+n)*s<=i*s:=J6 _ g1;rw [J7] at hf;omega)
  rw [hexec _ (.inr ⟨_,rfl,hpos,hst⟩)];exact hK _ _ (by rw [<- hH];rfl) hrel hext .top
variable {α:Type} {c:α->List AV} {l:List α} {x y:Operand} {t e:TypeId} {ag:Bool} {w m b ver off len:Nat} {zs:List AV}
def ZrR (zs zr:List AV):Prop:=zr.length=zs.length/\∀ (cx:Cx) (j:Nat) (a a':AV) (v:Value),zs[j]? = some a->zr[j]? = some a'->cx.rel a v->cx.rel a' v
theorem zk {β:Type} [Inhabited β] {f:β->List AV} {cx:Cx} {v:Value} (h:cx.rel .nil v):cx.rel (eL f ([]:List β)) v:=by
 obtain rfl:=dh h;exact .fr<|.sl (s:=1) (g:=0) (o:=0) (λ_ _ => .bool false) (JP _) (by decide) (λh=>absurd h<|by simp) (λi h=>absurd h<|by simp) (λi j a h=>absurd h<|by simp) (λi j a h=>absurd h<|by simp) λi j a h=>absurd h (by simp)
theorem zrN {β:Type} [Inhabited β] {f:β->List AV}:ZrR [.nil] [eL f ([]:List β)]:=⟨rfl,λcx j a a' v h h' hr=>by
 match j with
 | 0=>
  obtain rfl:=osl h;obtain rfl:=osl h';exact zk hr
 | j+1=>simp at h⟩
theorem GU.ixP {k:IntKind} {i:Int} {n lo:Nat} (q:SlT P t e ag w zs m) (hx:ρ x = .hs b ver w lo n) (hy:ρ y = .v (.int k i)) (hi:0<=i/\i<(n:Int)):GU P ρ (.indexAddr t x y) (.hp b ver w (lo+i.toNat) 0):=GU.ixhs q.u q.ty hx hy hi
theorem GU.lenP {n lo:Nat} (q:SlT P t e ag w zs m) (hx:ρ x = .hs b ver w lo n):GU P ρ (.call ⟨.builtin .len,#[x],#[t]⟩) (I n):=GU.lenhs q.u hx
theorem EvA.clearO [Inhabited α] (q:SlT P t e ag w zs m) (hz:ZrR zs<|c default) (hx:ρ x = .hs b ver w off len) (hk:H[b]? = some (bE false ver w e<|l.map c)) (ho:off+len<=l.length) :
  EvA P ρ (.call ⟨.builtin .clear,#[x],#[t]⟩) H .top (H.set b<|bE false ver w e<|(cpy l off (J0 len default) len).map c):=λo ho'=>by
 obtain ⟨z,hz0,hzz⟩:=Option.map_eq_some_iff.1 q.z.z;have hone:ia z.cells=true:=by
  have := q.z.one;rw [hz0] at this;exact osl this
 have hsz:z.cells.size=w:=by
  have := congrArg List.length hzz;rw [<- q.zl,<- this];simp [cf]
 have h:=A7 (o:=o) (P:=P) (ρ:=ρ) (H:=H) (s:=w) (k:=⟨ver,w,e,l.map c⟩) (zr:=c default) ho' rfl rfl rfl q.u hz0 hone hsz (hz.1.trans q.zl) (λcx j a ha=>by
  have hjl:j<zs.length:=by rw [<- hz.1];exact (ges ha).1
  have hzs:zs[j]? = some zs[j]:=geq hjl;have hju:j<z.cells.size:=by rw [hsz,<- q.zl];exact hjl
  refine ⟨z.cells[j],Ku hju,hz.2 cx j _ a _ hzs ha ?_⟩;have hc:=kr cx hone;obtain ⟨u,g1,g2⟩:=hc.get (j:=j) (a:=zs[j]) (by rw [hzz];exact hzs);rw [Ku hju] at g1;obtain rfl:=osl g1
  first | exact g2 | exact g2.2) hx hk rfl rfl (by simpa using ho)
 unfold cpy;rw [if_pos ho];simpa [bE,List.map_take,List.map_drop] using h
end
section
variable {P:Program} {H:AH}
theorem cz.wown {f:FuncId} {as0 Hd:List AV} {b:Nat} {g:Bool} {ver w w':Nat} {ty ty':TypeId} {li rows:List (List AV)} {mk:AV->AV} {n:Nat} (h:cz P f as0 [bE g ver w ty li]<|AA w' ty' mk n rows 0 []) (hb:H[b]? = some (bE g ver w ty li))
  (has:RenL (λc i=>[b][i]? = some c) Hd as0) (hk0:∀ r∈li,∀ a∈r,isF 9 a=true) (hk:∀ r∈rows,∀ a∈r,isF 9 a=true) (hmk:∀ (S:Nat->Nat->Prop) (a b:AV),Ren S a b->Ren S (mk a) (mk b)) :
  cz P f Hd H (λr G=>∃ g' ver',(g'=true->n=0)/\r=mk (hS g' b ver' w' n)/\G=H.set b (bE g' ver' w' ty' rows)):=by
 have hlt:b<H.length:=(ges hb).1;refine h.frameN [b] (by simp) rfl (λi c hi=>?_) has.spec.1 has.spec.2 λr0 G0 ⟨g',ver',hg,hr0,hG0⟩ => ?_
 ·match i with
  | 0=>
   obtain rfl:b=c:=by simpa using hi
   cases g with
   | true=>exact .inl ⟨hb,rfl⟩
   | false=>exact .inr ⟨_,_,hb,rfl,.ofF hk0⟩
  | i+1=>simp at hi
 subst hr0 hG0;have key:∀ i c,sg [b] H.length i c->i<1->c=b:=λi c hs hi=>by
  rcases hs with hs | ⟨hs,_⟩
  ·obtain rfl:i=0:=by omega
   simpa using hs.symm
  simp at hs;omega
 refine ⟨_,_,⟨by simp,by simp,λi c hi hs hn=>?_,λi c k0 hs hk0=>?_,λc hc hne=>Kv λe=>hne<|by simp [e]⟩,hmk _ _ _ ?_,⟨g',ver',hg,rfl,rfl⟩⟩
 ·simp only [Kj,JU] at hi;obtain rfl:=key i c hs hi;obtain rfl:i=0:=by omega
  simp only [Kj,J8,sie] at hn;rw [J9 hlt,hn]
 ·have hi:i<1:=by
   have := (ges hk0).1;simpa using this
  obtain rfl:=key i c hs hi;obtain rfl:i=0:=by omega
  simp only [Kj,J8,sie] at hk0;refine ⟨k0,by rw [J9 hlt,hk0],.ofF λr hr a ha=>?_⟩
  cases g' with
  | true=>cases hk0
  | false=>
   obtain rfl:=osl hk0;exact hk r hr a ha
 cases g' with
 | true=>exact .nil
 | false=>exact .hs (.inl rfl)
theorem dB.oneE {f:FuncId} {as0 Hd:List AV} {b:Nat} {g:Bool} {ver w:Nat} {ty:TypeId} {li rows:List (List AV)} {r:AV} (h:dB P f as0 [bE g ver w ty li] r [bE g ver w ty rows]) (hb:H[b]? = some (bE g ver w ty li))
  (has:RenL (λc i=>[b][i]? = some c) Hd as0) (hk0:∀ r∈li,∀ a∈r,isF 9 a=true) (hk:∀ r∈rows,∀ a∈r,isF 9 a=true) (hr:isF 9 r=true):dB P f Hd H r (H.set b<|bE g ver w ty rows):=by
 have hlt:b<H.length:=(ges hb).1;have h0:cz P f as0 [bE g ver w ty li] (λr' G=>r'=r/\G=[bE g ver w ty rows]):=⟨h.1,λc vs hH hr hall=>(h.2 c vs hH hr hall).mono λe w' ⟨v,c',h1,h2,h3,h4,h5,h6⟩=>⟨v,c',r,h1,h2,⟨rfl,h3⟩,h4,h5,h6⟩⟩;refine cz.acall<|h0.frameN [b] (by simp) rfl (λi c hi=>?_) has.spec.1 has.spec.2 λr0 G0 ⟨hr0,hG0⟩ => ?_
 ·match i with
  | 0=>
   obtain rfl:b=c:=by simpa using hi
   cases g with
   | true=>exact .inl ⟨hb,rfl⟩
   | false=>exact .inr ⟨_,_,hb,rfl,.ofF hk0⟩
  | i+1=>simp at hi
 subst hr0 hG0;have key:∀ i c,sg [b] H.length i c->i<1->c=b:=λi c hs hi=>by
  rcases hs with hs | ⟨hs,_⟩
  ·obtain rfl:i=0:=by omega
   simpa using hs.symm
  simp at hs;omega
 refine ⟨_,_,⟨by simp,by simp,λi c hi hs hn=>?_,λi c k0 hs hk0=>?_,λc hc hne=>Kv λe=>hne<|by simp [e]⟩,ji 9 _ hr,rfl,rfl⟩
 ·simp only [JU] at hi;obtain rfl:=key i c hs hi;obtain rfl:i=0:=by omega
  simp only [J8,sie] at hn;rw [J9 hlt,hn]
 have hi:i<1:=by
  have := (ges hk0).1;simpa using this
 obtain rfl:=key i c hs hi;obtain rfl:i=0:=by omega
 simp only [J8,sie] at hk0;refine ⟨k0,by rw [J9 hlt,hk0],.ofF λr hr a ha=>?_⟩
 cases g with
 | true=>cases hk0
 | false=>
  obtain rfl:=osl hk0;exact hk r hr a ha
theorem Cz {S:Nat->Nat->Prop} {g:Bool} {i j v w n n':Nat} (h:S i j) (hn:n=n'):Ren S (hS g i v w n) (hS g j v w n'):=hn ▸ uN h
variable {nt b0:Nat} {Q:Exit->Env->AH->Prop} {en:List (Nat×AV)} {ops:Array Oper} {l:List Oper} {d:Tmp} {t:TypeId} {pos:String} {af:Array Edge}
theorem oGW {cl:Call} {f:Operand} {g:FuncId} {jy as0:List AV} {H:AH} {b w0 ver w:Nat} {g0:Bool} {ty0 ty:TypeId} {li rows:List (List AV)} {mk:AV->AV} {n:Nat} (hc:cl.callee = .value f) (hf:rho (ai en) f = .fn (.func g) jy)
  (h:cz P g as0 [bE g0 ver w0 ty0 li]<|AA w ty mk n rows 0 []) (hb:H[b]? = some (bE g0 ver w0 ty0 li)) (has:RenL (λc i=>[b][i]? = some c) (cl.args.toList.map (rho<|ai en)++jy) as0) (hk0:∀ r∈li,∀ a∈r,isF 9 a=true) (hk:∀ r∈rows,∀ a∈r,isF 9 a=true)
  (hmk:∀ (S:Nat->Nat->Prop) (a b:AV),Ren S a b->Ren S (mk a) (mk b)) (k:∀ g' ver',(g'=true->n=0)->TO P nt b0 ops l Q (ai ((d,mk<|hS g' b ver' w n)::en)) (H.set b<|bE g' ver' w ty rows)):TO P nt b0 ops (⟨some d,.call cl,t,pos,af,none⟩::l) Q (ai en) H:=by
 exact TO.runG (.free rfl) (qI rfl hc hf<|h.wown hb has hk0 hk hmk) λr' H' ⟨g',ver',hg,hr,hH⟩=>by
  subst hr hH;exact k g' ver' hg
end
section
variable {P:Program} {ρ:Operand->AV} {H:AH} {x y z:Operand} {t e lM:TypeId} {ag:Bool} {w j b kn:Nat}
theorem GU.slA {α:Type} [Inhabited α] {c:α->List AV} (l:List α) {row:List AV} (hu:P.underlying t=some (.array 3 e)) (ty:TyF P e ag w) (hx:ρ x = .fp row j) (hl:l.length=3) (hr:Nat.ble (j+3*w) row.length=true)
  (h:[(row.drop<|j+0*w).take w,(row.drop<|j+1*w).take w,(row.drop<|j+2*w).take w]=[c (l.getD 0 default),c (l.getD 1 default),c (l.getD 2 default)]):GU P ρ (.slice t x none none none) (eL c l):=by
 injection h with h0 h;injection h with h1 h;injection h with h2 _;have key:GU P ρ (.slice t x none none none) (.sl 3 λi=>(row.drop<|j+i*w).take w) := .mk λK hK=>by
  show qf P ρ (.slice t x none none none) K;simp only [qf,mX,hu,hx,Option.map_none];show (0<=(0:Int)/\(0:Int)<=((3:Nat):Int)/\((3:Nat):Int)<=((3:Nat):Int)/\j+3*P.cellsOf e<=row.length/\(P.info? e).isSome=true/\3<=9223372036854775807)/\_;rw [ty.cells];exact ⟨⟨by omega,by omega,by omega,nlb hr,ty.info,by omega⟩,hK⟩
 refine key.res λC v hv=>?_;unfold Go.Proofs.YtjcmfddobaplbaaGreat.eL;rw [hl];exact vM (λi hi=>by
  match i,hi with
  | 0,_=>exact h0
  | 1,_=>exact h1
  | 2,_=>exact h2) hv
variable {K:Type} [DecidableEq K] {kc:K->List Value} {l:List (K×Bool)}
theorem EvA.minsB (q:KeyA P lM kn kc) (ht:P.underlying t=some (.map lM e)) (k:K) (v:Bool)
  (hx:ρ x = .mp b (kn+1)) (hy:ρ y=mkA ((kc k).map AV.v)) (hz:ρ z=Bo v) (hb:H[b]? = some (some<|mB kn 1 kc cB l)) :
  EvA P ρ (.insert t x y z) H .top (H.set b<|some<|mB kn 1 kc cB<|sO l k v):=
 EvA.mins (vn:=1) (cv:=cB) q (λ_=>rfl) ht (Nat.succ_pos kn) k v hx hy (by rw [hz];rfl) (by rw [hz];rfl) hb
omit [DecidableEq K] in
theorem EvA.mlenB (ht:P.underlying t=some (.map lM e)) (hx:ρ x = .mp b (kn+1)) (hb:H[b]? = some (some<|mB kn 1 kc cB l)):EvA P ρ (.call ⟨.builtin .len,#[x],#[t]⟩) H (I l.length) H:=
 EvA.mlen (vn:=1) (cv:=cB) ht hx hb
end
def cmpL:LI->LI->Int
 | [],[]=>0
 | [],_::_ => -1
 | _::_,[]=>1
 | a::l,b::k=>if a<b then -1 else if b<a then 1 else cmpL l k
theorem l5:∀ l,cmpL l l=0
 | []=>rfl
 | a::l=>by rw [cmpL,if_neg (Int.lt_irrefl _),if_neg (Int.lt_irrefl _),l5 l]
theorem mM:∀ l k,cmpL k l = - cmpL l k
 | [],[]=>rfl
 | [],_::_=>rfl
 | _::_,[]=>rfl
 | a::l,b::k=>by
  rw [cmpL,cmpL]
  by_cases h:a<b
  ·rw [if_pos h,if_pos h,if_neg (by omega)]
   rfl
  rw [if_neg h,if_neg h]
  by_cases h2:b<a
  ·rw [if_pos h2,if_pos h2]
  rw [if_neg h2,if_neg h2,mM l k]
theorem cmpL_eq:∀ {l k},cmpL l k=0->l=k
 | [],[],_=>rfl
 | [],_::_,h=>by cases h
 | _::_,[],h=>by cases h
 | a::l,b::k,h=>by
  rw [cmpL] at h
  split at h
  ·cases h
  split at h
  ·cases h
  rw [cmpL_eq h]
  congr 1
  omega
theorem mN:∀ {l k m},cmpL l k<0->cmpL k m<0->cmpL l m<0
 | [],[],_,h,_=>by cases h
 | [],_::_,[],_,h=>by simp [cmpL] at h
 | [],_::_,_::_,_,_=>by simp [cmpL]
 | _::_,[],_,h,_=>by simp [cmpL] at h
 | _::_,_::_,[],_,h=>by simp [cmpL] at h
 | a::l,b::k,c::m,h1,h2=>by
  rw [cmpL] at h1 h2 ⊢
  by_cases e1:a<b
  ·by_cases e2:c<b
   ·rw [if_neg (by omega),if_pos e2] at h2
    cases h2
   rw [if_pos (by omega)]
   decide
  rw [if_neg e1] at h1
  by_cases e2:b<a
  ·rw [if_pos e2] at h1
   cases h1
  rw [if_neg e2] at h1;obtain rfl:a=b:=by omega
  by_cases e3:a<c
  ·rw [if_pos e3]
   decide
  rw [if_neg e3] at h2 ⊢
  by_cases e4:c<a
  ·rw [if_pos e4] at h2
   cases h2
  rw [if_neg e4] at h2 ⊢;exact mN h1 h2
theorem mO (l k:LI):cmpL l k<0\/l=k\/cmpL k l<0:=by
 have := mM l k;rcases Int.lt_trichotomy (cmpL l k) 0 with h | h | h
 ·exact .inl h
 ·exact .inr<|.inl<|cmpL_eq h
 exact .inr<|.inr (by omega)
def leL (x y:LI):Bool:=decide<|¬ cmpL y x<0
def vW (l:LL):LL:=l.mergeSort leL
theorem A8 (x y:LI):(leL x y||leL y x)=true:=by
 unfold leL;rw [Bool.or_eq_true,dte,dte];rcases mO x y with h | h | h
 ·left;have := mM x y;omega
 ·left;rw [h,l5];decide
 right;have := mM x y;omega
theorem Ba (x y z:LI) (h1:leL x y=true) (h2:leL y z=true):leL x z=true:=by
 unfold leL at *;rw [dte] at *;intro h;rcases mO x y with g | g | g
 ·rcases mO y z with g2 | g2 | g2
  ·exact h2<|mN h g
  ·rw [g2] at h1;exact h1 h
  exact h2 g2
 ·rw [g] at h;exact h2 h
 exact h1 g
theorem yd (x y:LI) (h1:leL x y=true) (h2:leL y x=true):x=y:=by
 unfold leL at *;rw [dte] at *;rcases mO x y with h | h | h
 ·exact absurd h h2
 ·exact h
 exact absurd h h1
theorem jl (l:LL):(vW l).Perm l:=List.mergeSort_perm l leL
theorem rN (l:LL):(vW l).Pairwise λx y=>leL x y=true:=List.pairwise_mergeSort Ba A8 l
theorem rO:∀ {l k:LL},l.Perm k->l.Pairwise (λx y=>leL x y=true)->k.Pairwise (λx y=>leL x y=true)->l=k
 | [],k,h,_,_=>h.nil_eq
 | a::l,[],h,_,_=>absurd h.length_eq (by simp)
 | a::l,b::k,h,h1,h2=>by
  have hab:a=b:=by
   rcases List.mem_cons.1 (h.subset<|J3) with e | e
   ·exact e
   rcases List.mem_cons.1 (h.symm.subset<|J3) with e2 | e2
   ·exact e2.symm
   exact yd a b ((Ka.1 h1).1 b e2)<|(Ka.1 h2).1 a e
  subst hab;rw [rO (List.perm_cons a |>.1 h) (Ka.1 h1).2 (Ka.1 h2).2]
def dD (l:LL):Option (LL):=gd (decide<|l.length<4611686018427387904)<|some<|vW l
theorem l6 {l q:LL} (h:l=[]) (c:dD l=some q):q=[]:=by
 subst h;obtain ⟨_,c⟩:=gdD c;rw [<- osl c];exact (jl []).eq_nil
theorem l7 {l q:LL} (c:dD l=some q):q.length=l.length:=by
 obtain ⟨_,c⟩:=gdD c;rw [<- osl c];exact (jl l).length_eq
def oI (p:List<|List GY):Option G3:= some (⟨(⟨p,(⟨(0:Int),(0:Int),(0:Int)⟩:Z3b),(⟨(⟨(0:Int),(0:Int),(0:Int)⟩:Z3b),(⟨(0:Int),(0:Int),(0:Int)⟩:Z3b),(⟨(0:Int),(0:Int),(0:Int)⟩:Z3b)⟩:Z33),(⟨(0:Int),(0:Int),(0:Int)⟩:Z3b)⟩:GZ)⟩:G3)
def eG (v:GZ):LS ((LI)×Int) (LI):=λs6=>bif decide (s6.2<(3:Int)) then gd (decide<|0<=s6.2/\s6.2<3) <|gd (eB (s6.1.length+([(⟨(Z33.get v.reg s6.2).x0,(Z33.get v.reg s6.2).x1,(Z33.get v.reg s6.2).x2⟩:Z3b).x0,(⟨(Z33.get v.reg s6.2).x0,(Z33.get v.reg s6.2).x1,(Z33.get v.reg s6.2).x2⟩:Z3b).x1,(⟨(Z33.get v.reg s6.2).x0,(Z33.get v.reg s6.2).x1,(Z33.get v.reg s6.2).x2⟩:Z3b).x2]:LI).length) 1) <|gd (GV .i64<|s6.2+(1:Int)) <|some (.inl ((s6.1++([(⟨(Z33.get v.reg s6.2).x0,(Z33.get v.reg s6.2).x1,(Z33.get v.reg s6.2).x2⟩:Z3b).x0,(⟨(Z33.get v.reg s6.2).x0,(Z33.get v.reg s6.2).x1,(Z33.get v.reg s6.2).x2⟩:Z3b).x1,(⟨(Z33.get v.reg s6.2).x0,(Z33.get v.reg s6.2).x1,(Z33.get v.reg s6.2).x2⟩:Z3b).x2]:LI)),(s6.2+(1:Int)))) else some (.inr s6.1)
def bA (v:GZ):Option ByteArray:= gd (eB (([]:LI).length+([v.pc.x0,v.pc.x1,v.pc.x2]:LI).length) 1) <|JO (bY (eG v) ((([]:LI)++([v.pc.x0,v.pc.x1,v.pc.x2]:LI)),(0:Int))) λs2=>gd (eB (s2.length+([v.mem.x0,v.mem.x1,v.mem.x2]:LI).length) 1) <|some<|strOfNums<|s2++([v.mem.x0,v.mem.x1,v.mem.x2]:LI)
def bT (s:G3):Option ByteArray:= JO (bA s.values) λv1=>some v1
def aZ (v:GZ) (t:Int):Option (GY×Bool):= gd (decide<|0<=t/\t<3) <|gd (GV .i64<|Z3b.get v.pc t) <|gd (decide<|0<=t/\t<(v.p.length:Int)) <|bif decide (((v.p.getD t.toNat default).length:Int)<=(Z3b.get v.pc t)) then some ((⟨(0:Int),(0:Int),(0:Int),(0:Int)⟩:GY),false) else gd (decide<|0<=(Z3b.get v.pc t)/\(Z3b.get v.pc t)<((v.p.getD t.toNat default).length:Int)) <|some ((⟨((v.p.getD t.toNat default).getD (Z3b.get v.pc t).toNat default).Op,((v.p.getD t.toNat default).getD (Z3b.get v.pc t).toNat default).Loc,((v.p.getD t.toNat default).getD (Z3b.get v.pc t).toNat default).Reg,((v.p.getD t.toNat default).getD (Z3b.get v.pc t).toNat default).Val⟩:GY),true)
def gq (v:GZ):LS Int (Unit ⊕ Bool):=λs4=>bif decide (s4<(v.p.length:Int)) then JO (aZ v s4) λv7=>bif v7.2 then some (.inr<|.inr false) else gd (GV .i64<|s4+(1:Int)) <|some (.inl<|s4+(1:Int)) else some (.inr<|.inl ())
def aW (v:GZ):Option Bool:= sumK (bY (gq v) (0:Int)) λs1=>some true
def bV (s:G3):Option Bool:= JO (aW s.values) λv1=>some v1
def di (v:GZ) (s7:(LI)×Int):LS ((LI)×Int) (LI):=λs20=>bif decide (s20.2<(3:Int)) then gd (decide<|0<=s20.2/\s20.2<3) <|gd (GV .i64<|Z3b.get (Z33.get v.reg s7.2) s20.2) <|gd (eB (s20.1.length+1) 8) <|gd (GV .i64<|s20.2+(1:Int)) <|some (.inl ((s20.1++[(Z3b.get (Z33.get v.reg s7.2) s20.2)]),(s20.2+(1:Int)))) else some (.inr s20.1)
def dE (v:GZ):LS ((LI)×Int) (LI):=λs7=>bif decide (s7.2<(v.p.length:Int)) then JO (gd (decide<|0<=s7.2/\s7.2<3) <|bY (di v s7) (s7.1,(0:Int))) λs13=>gd (GV .i64<|s7.2+(1:Int)) <|some (.inl (s13,(s7.2+(1:Int)))) else some (.inr s7.1)
def dm (v:GZ):LS ((LI)×Int) (LI):=λs43=>bif decide (s43.2<(3:Int)) then gd (decide<|0<=s43.2/\s43.2<3) <|gd (GV .i64<|Z3b.get v.mem s43.2) <|gd (eB (s43.1.length+1) 8) <|gd (GV .i64<|s43.2+(1:Int)) <|some (.inl ((s43.1++[(Z3b.get v.mem s43.2)]),(s43.2+(1:Int)))) else some (.inr s43.1)
def aK (v:GZ):Option (LI):= JO (bY (dE v) (([]:LI),(0:Int))) λs1=>JO (bY (dm v) (s1,(0:Int))) λs37=>some s37
def f9 (s:G3):LS ((LI)×Int) (LI):=λs7=>bif decide (s7.2<(s.values.p.length:Int)) then JO (JO (aZ s.values s7.2) λv14=>bif v14.2 then gd (eB (s7.1.length+1) 8) <|some (s7.1++[s7.2]) else some s7.1) λs13=>gd (GV .i64<|s7.2+(1:Int)) <|some (.inl (s13,(s7.2+(1:Int)))) else some (.inr s7.1)
def cZ (s:G3):Option (LI):= JO (bY (f9 s) (([]:LI),(0:Int))) λs1=>some s1
def cm (v:GZ) (t:Int) (x:GY):Option Int:= bif (x.Op==(3:Int)) then gd (decide<|0<=t/\t<3) <|gd (decide<|0<=x.Reg/\x.Reg<3) <|some (Z3b.get (Z33.get v.reg t) x.Reg) else gd (GV .u8 x.Val) <|some x.Val
def bB (x:GY):Option Bool:= JO (bif (x.Op==(1:Int)) then some true else some (x.Op==(5:Int))) λs1=>some s1
def dR (x:GY):Option Bool:= JO (bif (x.Op==(2:Int)) then some true else some (x.Op==(3:Int))) λs1=>JO (bif s1 then some true else some (x.Op==(5:Int))) λs3=>some s3
def da (s:G3) (t:Int):Option G3:= JO (aZ s.values t) λv1=>gd (decide<|0<=t/\t<3) <|gd (GV .u8<|(Z3b.get s.values.pc t)+(1:Int)) <|JO (cm s.values t (⟨v1.1.Op,v1.1.Loc,v1.1.Reg,v1.1.Val⟩:GY)) λv4=>JO (JO (bB (⟨v1.1.Op,v1.1.Loc,v1.1.Reg,v1.1.Val⟩:GY)) λv6=>bif v6 then gd (decide<|0<=v1.1.Loc/\v1.1.Loc<3) <|gd (decide<|0<=v1.1.Reg/\v1.1.Reg<3) <|some (((Z33.set s.values.reg t<|Z3b.set (Z33.get s.values.reg t) v1.1.Reg<|Z3b.get s.values.mem v1.1.Loc).x0).x0,((Z33.set s.values.reg t<|Z3b.set (Z33.get s.values.reg t) v1.1.Reg<|Z3b.get s.values.mem v1.1.Loc).x0).x1,((Z33.set s.values.reg t<|Z3b.set (Z33.get s.values.reg t) v1.1.Reg<|Z3b.get s.values.mem v1.1.Loc).x0).x2,((Z33.set s.values.reg t<|Z3b.set (Z33.get s.values.reg t) v1.1.Reg<|Z3b.get s.values.mem v1.1.Loc).x1).x0,((Z33.set s.values.reg t<|Z3b.set (Z33.get s.values.reg t) v1.1.Reg<|Z3b.get s.values.mem v1.1.Loc).x1).x1,((Z33.set s.values.reg t<|Z3b.set (Z33.get s.values.reg t) v1.1.Reg<|Z3b.get s.values.mem v1.1.Loc).x1).x2,((Z33.set s.values.reg t<|Z3b.set (Z33.get s.values.reg t) v1.1.Reg<|Z3b.get s.values.mem v1.1.Loc).x2).x0,((Z33.set s.values.reg t<|Z3b.set (Z33.get s.values.reg t) v1.1.Reg<|Z3b.get s.values.mem v1.1.Loc).x2).x1,((Z33.set s.values.reg t<|Z3b.set (Z33.get s.values.reg t) v1.1.Reg<|Z3b.get s.values.mem v1.1.Loc).x2).x2) else some (s.values.reg.x0.x0,s.values.reg.x0.x1,s.values.reg.x0.x2,s.values.reg.x1.x0,s.values.reg.x1.x1,s.values.reg.x1.x2,s.values.reg.x2.x0,s.values.reg.x2.x1,s.values.reg.x2.x2)) λs5=>JO (JO (dR (⟨v1.1.Op,v1.1.Loc,v1.1.Reg,v1.1.Val⟩:GY)) λv11=>bif v11 then gd (decide<|0<=v1.1.Loc/\v1.1.Loc<3) <|some ((Z3b.set s.values.mem v1.1.Loc v4).x0,(Z3b.set s.values.mem v1.1.Loc v4).x1,(Z3b.set s.values.mem v1.1.Loc v4).x2) else some (s.values.mem.x0,s.values.mem.x1,s.values.mem.x2)) λs10=>some (⟨(⟨s.values.p,(⟨(Z3b.set s.values.pc t<|(Z3b.get s.values.pc t)+(1:Int)).x0,(Z3b.set s.values.pc t<|(Z3b.get s.values.pc t)+(1:Int)).x1,(Z3b.set s.values.pc t<|(Z3b.get s.values.pc t)+(1:Int)).x2⟩:Z3b),(⟨(⟨s5.1,s5.2.1,s5.2.2.1⟩:Z3b),(⟨s5.2.2.2.1,s5.2.2.2.2.1,s5.2.2.2.2.2.1⟩:Z3b),(⟨s5.2.2.2.2.2.2.1,s5.2.2.2.2.2.2.2.1,s5.2.2.2.2.2.2.2.2⟩:Z3b)⟩:Z33),(⟨s10.1,s10.2.1,s10.2.2⟩:Z3b)⟩:GZ)⟩:G3)
def fK (s1_:LI) (s2_:LI):LS Int (Unit ⊕ Bool):=λs5=>bif decide (s5<(s1_.length:Int)) then gd (decide<|0<=s5/\s5<(s1_.length:Int)) <|gd (decide<|0<=s5/\s5<(s2_.length:Int)) <|bif ((s1_.getD s5.toNat default) != (s2_.getD s5.toNat default)) then some (.inr<|.inr false) else gd (GV .i64<|s5+(1:Int)) <|some (.inl<|s5+(1:Int)) else some (.inr<|.inl ())
def cO (s1_:LI) (s2_:LI):Option Bool:= bif ((s1_.length:Int) != (s2_.length:Int)) then some false else sumK (bY (fK s1_ s2_) (0:Int)) λs2=>some true
def bC (a:LI) (b:LI):Option Bool:= JO (cO a b) λv1=>some v1
def aD (s8:(LL)×Int):LS ((LL)×Int×Int) ((LL)×Int):=λs25=>bif decide (s25.2.1<((((s8.1.length:Int).toNat-s8.2.toNat):Nat):Int)) then JO (gd (decide<|(0<=s25.2.1/\s25.2.1<((((s8.1.length:Int).toNat-s8.2.toNat):Nat):Int))/\((0+s8.2.toNat)+s25.2.1.toNat)<s25.1.length) <|gd (GV .i64<|s25.2.1-(1:Int)) <|gd (decide<|(0<=(s25.2.1-(1:Int))/\(s25.2.1-(1:Int))<((((s8.1.length:Int).toNat-s8.2.toNat):Nat):Int))/\((0+s8.2.toNat)+(s25.2.1-(1:Int)).toNat)<s25.1.length) <|JO (bC (s25.1.getD ((0+s8.2.toNat)+s25.2.1.toNat) default)<|s25.1.getD ((0+s8.2.toNat)+(s25.2.1-(1:Int)).toNat) default) λv33=>bif !v33 then gd (decide<|0<=s25.2.2/\s25.2.2<(s25.1.length:Int)) <|gd (GV .i64<|s25.2.2+(1:Int)) <|some ((s25.1.set s25.2.2.toNat<|s25.1.getD ((0+s8.2.toNat)+s25.2.1.toNat) default),(s25.2.2+(1:Int))) else some (s25.1,s25.2.2)) λs29=>gd (GV .i64<|s25.2.1+(1:Int)) <|some (.inl (s29.1,(s25.2.1+(1:Int)),s29.2)) else some (.inr (s25.1,s25.2.2))
def aF:LS ((LL)×Int) ((LL) ⊕ (LL)):=λs8=>bif decide (s8.2<(s8.1.length:Int)) then sumK (gd (decide<|0<=s8.2/\s8.2<(s8.1.length:Int)) <|gd (GV .i64<|s8.2-(1:Int)) <|gd (decide<|0<=(s8.2-(1:Int))/\(s8.2-(1:Int))<(s8.1.length:Int)) <|JO (bC (s8.1.getD s8.2.toNat default)<|s8.1.getD ((s8.2-(1:Int)).toNat) default) λv18=>bif v18 then gd (decide<|0<=s8.2/\s8.2<=(s8.1.length:Int)/\(s8.1.length:Int)<=(s8.1.length:Int)) <|JO (bY (aD s8) (s8.1,(1:Int),s8.2)) λs21=>gd (decide<|0<=s21.2/\s21.2<=(s21.1.length:Int)/\(s21.1.length:Int)<=(s21.1.length:Int)) <|gd (decide<|0<=(0:Int)/\(0:Int)<=s21.2/\s21.2<=(s21.1.length:Int)) <|some (.inr<|.inr<|.inr<|((cpy s21.1 (0+s21.2.toNat) (J0 ((s21.1.length:Int).toNat-s21.2.toNat) (default:LI))<|(s21.1.length:Int).toNat-s21.2.toNat).drop (0:Int).toNat).take<|s21.2.toNat-(0:Int).toNat) else some (.inl ())) λs14=>gd (GV .i64<|s8.2+(1:Int)) <|some (.inl (s8.1,(s8.2+(1:Int)))) else some (.inr<|.inl s8.1)
def az (s:LL):Option (LL):= bif decide ((s.length:Int)<(2:Int)) then some s else sumK (bY aF (s,(1:Int))) λs2=>some s2
def aL (list:LL):Option (LL):= JO (dD list) λv1=>JO (az v1) λv2=>some v2
def fA (s9:(List<|ByteArray×Bool)×(LL)×(List G3)) (s19:(LL)) (v27:(LI)):LS ((List<|ByteArray×Bool)×(List G3)×Int) (((List<|ByteArray×Bool)×(LL)×(List G3)) ⊕ ((List<|ByteArray×Bool)×(LL))):=λs31=>bif decide (s31.2.2<(v27.length:Int)) then JO (gd (decide<|0<=s31.2.2/\s31.2.2<(v27.length:Int)) <|JO (da (s9.2.2.getD (((s9.2.2.length:Int)-(1:Int)).toNat) default)<|v27.getD s31.2.2.toNat default) λv37=>JO (bT v37) λv38=>bif !((wD s31.1 v38).getD false) then gd (eB (s31.2.1.length+1) 16) <|some ((sO s31.1 v38 true),(s31.2.1++[v37])) else some (s31.1,s31.2.1)) λs35=>gd (GV .i64<|s31.2.2+(1:Int)) <|some (.inl (s35.1,s35.2,(s31.2.2+(1:Int)))) else some (.inr<|.inl (s31.1,s19,s31.2.1))
def fB:LS ((List<|ByteArray×Bool)×(LL)×(List G3)) ((List<|ByteArray×Bool)×(LL)):=λs9=>bif decide ((0:Int)<(s9.2.2.length:Int)) then gd (GV .i64<|(s9.2.2.length:Int)-(1:Int)) <|gd (decide<|0<=((s9.2.2.length:Int)-(1:Int))/\((s9.2.2.length:Int)-(1:Int))<(s9.2.2.length:Int)) <|gd (decide<|0<=(0:Int)/\(0:Int)<=((s9.2.2.length:Int)-(1:Int))/\((s9.2.2.length:Int)-(1:Int))<=(s9.2.2.length:Int)) <|JO (JO (bV<|s9.2.2.getD (((s9.2.2.length:Int)-(1:Int)).toNat) default) λv20=>bif v20 then JO (aK<|(s9.2.2.getD (((s9.2.2.length:Int)-(1:Int)).toNat) default).values) λv22=>gd (eB (s9.2.1.length+1) 24) <|some (s9.2.1++[v22]) else some s9.2.1) λs19=>JO (cZ<|s9.2.2.getD (((s9.2.2.length:Int)-(1:Int)).toNat) default) λv27=>bY (fA s9 s19 v27) (s9.1,((s9.2.2.drop (0:Int).toNat).take<|((s9.2.2.length:Int)-(1:Int)).toNat-(0:Int).toNat),(0:Int)) else some (.inr (s9.1,s9.2.1))
def eD (start:G3):Option ((LL)×Int):= JO (bT start) λv1=>JO (bY fB ((sO ([]:List<|ByteArray×Bool) v1 true),([]:LL),([start]:List G3))) λs2=>JO (aL s2.2) λv46=>some (v46,(s2.1.length:Int))
def eZ (p:List<|List GY):Option (LL):= JO (av p) λv1=>bif !v1 then some ([]:LL) else JO (oI p) λv3=>JO (eD v3) λv4=>some v4.1
def fe (p:List<|List GY) (split:Bool):Option ae:= gd (decide<|0<=(p.length:Int)/\(p.length:Int)<=(p.length:Int)/\(p.length:Int)*((24:Nat):Int)<=140737488355328/\(p.length:Int)<=140737488355328) <|JO (bif split then gd (GV .i64<|(3:Int)*(p.length:Int)) <|gd (decide<|0<=((3:Int)*(p.length:Int))/\((3:Int)*(p.length:Int))<=((3:Int)*(p.length:Int))/\((3:Int)*(p.length:Int))*((24:Nat):Int)<=140737488355328/\((3:Int)*(p.length:Int))<=140737488355328) <|some (J0 ((3:Int)*(p.length:Int)).toNat ([]:LI)) else some (J0 (p.length:Int).toNat ([]:LI))) λs2=>some (⟨(⟨p,(⟨(0:Int),(0:Int),(0:Int)⟩:Z3b),(⟨(⟨(0:Int),(0:Int),(0:Int)⟩:Z3b),(⟨(0:Int),(0:Int),(0:Int)⟩:Z3b),(⟨(0:Int),(0:Int),(0:Int)⟩:Z3b)⟩:Z33),(⟨(0:Int),(0:Int),(0:Int)⟩:Z3b)⟩:GZ),split,s2⟩:ae)
def eH (s:ae):LS ((LI)×Int) (LI):=λs7=>bif decide (s7.2<(s.waits.length:Int)) then gd (decide<|0<=s7.2/\s7.2<(s.waits.length:Int)) <|gd (GV .u8 ((s.waits.getD s7.2.toNat default).length:Int)) <|gd (eB (s7.1.length+1) 1) <|gd (eB ((s7.1++[((s.waits.getD s7.2.toNat default).length:Int)]).length+(s.waits.getD s7.2.toNat default).length) 1) <|gd (GV .i64<|s7.2+(1:Int)) <|some (.inl (((s7.1++[((s.waits.getD s7.2.toNat default).length:Int)])++(s.waits.getD s7.2.toNat default)),(s7.2+(1:Int)))) else some (.inr s7.1)
def bD (s:ae):Option ByteArray:= JO (bA s.values) λv1=>gd (decide<|v1.size<=35184372088832) <|JO (bY (eH s) ((kv v1),(0:Int))) λs3=>some<|strOfNums s3
def iC (waits:LI):Option Bool:= some<|decide<|(0:Int)<(waits.length:Int)
def aT (s:LL):LS Int (Unit ⊕ Int):=λs4=>bif decide (s4<(s.length:Int)) then gd (decide<|0<=s4/\s4<(s.length:Int)) <|JO (iC<|s.getD s4.toNat default) λv8=>bif v8 then some (.inr<|.inr s4) else gd (GV .i64<|s4+(1:Int)) <|some (.inl<|s4+(1:Int)) else some (.inr<|.inl ())
def aI (s:LL):Option Int:= sumK (bY (aT s) (0:Int)) λs1=>some (-1:Int)
def aG (s:LL):Option Bool:= JO (aI s) λv1=>some<|decide<|(0:Int)<=v1
def bP (s:ae):Option Bool:= JO (aW s.values) λv1=>JO (bif v1 then JO (aG s.waits) λv4=>some (!v4) else some false) λs2=>some s2
def bW (s:ae) (t:Int) (loc:Int):Option Int:= bif s.split then gd (GV .i64<|(3:Int)*t) <|gd (GV .i64<|((3:Int)*t)+loc) <|some (((3:Int)*t)+loc) else some t
def fM (s:ae) (t:Int):LS Int (Unit ⊕ Bool):=λs4=>bif decide (s4<(3:Int)) then JO (bW s t s4) λv7=>gd (decide<|0<=v7/\v7<(s.waits.length:Int)) <|bif decide ((0:Int)<((s.waits.getD v7.toNat default).length:Int)) then some (.inr<|.inr false) else gd (GV .i64<|s4+(1:Int)) <|some (.inl<|s4+(1:Int)) else some (.inr<|.inl ())
def cQ (s:ae) (t:Int):Option Bool:= sumK (bY (fM s t) (0:Int)) λs1=>some true
def dS (s:ae):LS ((LI)×Int) (LI):=λs7=>bif decide (s7.2<(s.values.p.length:Int)) then JO (JO (aZ s.values s7.2) λv14=>JO (bif v14.2 then JO (bif (v14.1.Op != (4:Int)) then some (v14.1.Op != (5:Int)) else some false) λs17=>JO (bif s17 then some true else JO (cQ s s7.2) λv21=>some v21) λs19=>some s19 else some false) λs15=>bif s15 then gd (eB (s7.1.length+1) 8) <|some (s7.1++[s7.2]) else some s7.1) λs13=>gd (GV .i64<|s7.2+(1:Int)) <|some (.inl (s13,(s7.2+(1:Int)))) else some (.inr s7.1)
def dH (s:ae):LS ((LI)×Int) (LI):=λs37=>bif decide (s37.2<(s.waits.length:Int)) then JO (gd (decide<|0<=s37.2/\s37.2<(s.waits.length:Int)) <|bif decide ((0:Int)<((s.waits.getD s37.2.toNat default).length:Int)) then gd (GV .i64<|(s.values.p.length:Int)+s37.2) <|gd (eB (s37.1.length+1) 8) <|some (s37.1++[((s.values.p.length:Int)+s37.2)]) else some s37.1) λs43=>gd (GV .i64<|s37.2+(1:Int)) <|some (.inl (s43,(s37.2+(1:Int)))) else some (.inr s37.1)
def bG (s:ae):Option (LI):= JO (bY (dS s) (([]:LI),(0:Int))) λs1=>JO (bY (dH s) (s1,(0:Int))) λs31=>some s31
def dw (s:LL):Option (LL):= nilK (s.isEmpty) (some ([]:LL)) (gd (eB (([]:LL).length+s.length) 24) <|some<|([]:LL)++s)
def dI (s:LI):Option (LI):= nilK (s.isEmpty) (some ([]:LI)) (gd (eB (([]:LI).length+s.length) 1) <|some<|([]:LI)++s)
def bH (s:ae) (move:Int):Option ae:= JO (dw s.waits) λv1=>bif decide ((s.values.p.length:Int)<=move) then gd (GV .i64<|move-(s.values.p.length:Int)) <|gd (decide<|0<=(move-(s.values.p.length:Int))/\(move-(s.values.p.length:Int))<(s.waits.length:Int)) <|gd (decide<|0<=(0:Int)/\(0:Int)<((s.waits.getD (move-(s.values.p.length:Int)).toNat default).length:Int)) <|gd (decide<|0<=(1:Int)/\(1:Int)<=((s.waits.getD (move-(s.values.p.length:Int)).toNat default).length:Int)/\((s.waits.getD (move-(s.values.p.length:Int)).toNat default).length:Int)<=((s.waits.getD (move-(s.values.p.length:Int)).toNat default).length:Int)) <|gd (decide<|0<=(move-(s.values.p.length:Int))/\(move-(s.values.p.length:Int))<(v1.length:Int)) <|gd (decide<|(16:Int)≠0) <|gd (GV .u8<|((s.waits.getD (move-(s.values.p.length:Int)).toNat default).getD (0:Int).toNat default).tdiv (16:Int)) <|gd (decide<|0<=(((s.waits.getD (move-(s.values.p.length:Int)).toNat default).getD (0:Int).toNat default).tdiv (16:Int))/\(((s.waits.getD (move-(s.values.p.length:Int)).toNat default).getD (0:Int).toNat default).tdiv (16:Int))<3) <|some (⟨(⟨s.values.p,(⟨s.values.pc.x0,s.values.pc.x1,s.values.pc.x2⟩:Z3b),(⟨(⟨s.values.reg.x0.x0,s.values.reg.x0.x1,s.values.reg.x0.x2⟩:Z3b),(⟨s.values.reg.x1.x0,s.values.reg.x1.x1,s.values.reg.x1.x2⟩:Z3b),(⟨s.values.reg.x2.x0,s.values.reg.x2.x1,s.values.reg.x2.x2⟩:Z3b)⟩:Z33),(⟨(Z3b.set s.values.mem (((s.waits.getD (move-(s.values.p.length:Int)).toNat default).getD (0:Int).toNat default).tdiv (16:Int))<|((s.waits.getD (move-(s.values.p.length:Int)).toNat default).getD (0:Int).toNat default).tmod (16:Int)).x0,(Z3b.set s.values.mem (((s.waits.getD (move-(s.values.p.length:Int)).toNat default).getD (0:Int).toNat default).tdiv (16:Int))<|((s.waits.getD (move-(s.values.p.length:Int)).toNat default).getD (0:Int).toNat default).tmod (16:Int)).x1,(Z3b.set s.values.mem (((s.waits.getD (move-(s.values.p.length:Int)).toNat default).getD (0:Int).toNat default).tdiv (16:Int))<|((s.waits.getD (move-(s.values.p.length:Int)).toNat default).getD (0:Int).toNat default).tmod (16:Int)).x2⟩:Z3b)⟩:GZ),s.split,(v1.set ((move-(s.values.p.length:Int)).toNat)<|((s.waits.getD (move-(s.values.p.length:Int)).toNat default).drop (1:Int).toNat).take<|((s.waits.getD (move-(s.values.p.length:Int)).toNat default).length:Int).toNat-(1:Int).toNat)⟩:ae) else JO (aZ s.values move) λv14=>gd (decide<|0<=move/\move<3) <|gd (GV .u8<|(Z3b.get s.values.pc move)+(1:Int)) <|JO (JO (bB (⟨v14.1.Op,v14.1.Loc,v14.1.Reg,v14.1.Val⟩:GY)) λv18=>bif v18 then JO (cG s move v14.1.Loc) λv20=>gd (decide<|0<=v14.1.Reg/\v14.1.Reg<3) <|some (((Z33.set s.values.reg move<|Z3b.set (Z33.get s.values.reg move) v14.1.Reg v20).x0).x0,((Z33.set s.values.reg move<|Z3b.set (Z33.get s.values.reg move) v14.1.Reg v20).x0).x1,((Z33.set s.values.reg move<|Z3b.set (Z33.get s.values.reg move) v14.1.Reg v20).x0).x2,((Z33.set s.values.reg move<|Z3b.set (Z33.get s.values.reg move) v14.1.Reg v20).x1).x0,((Z33.set s.values.reg move<|Z3b.set (Z33.get s.values.reg move) v14.1.Reg v20).x1).x1,((Z33.set s.values.reg move<|Z3b.set (Z33.get s.values.reg move) v14.1.Reg v20).x1).x2,((Z33.set s.values.reg move<|Z3b.set (Z33.get s.values.reg move) v14.1.Reg v20).x2).x0,((Z33.set s.values.reg move<|Z3b.set (Z33.get s.values.reg move) v14.1.Reg v20).x2).x1,((Z33.set s.values.reg move<|Z3b.set (Z33.get s.values.reg move) v14.1.Reg v20).x2).x2,v1) else some (s.values.reg.x0.x0,s.values.reg.x0.x1,s.values.reg.x0.x2,s.values.reg.x1.x0,s.values.reg.x1.x1,s.values.reg.x1.x2,s.values.reg.x2.x0,s.values.reg.x2.x1,s.values.reg.x2.x2,v1)) λs17=>JO (JO (bif (v14.1.Op==(2:Int)) then some (v14.1.Op==(2:Int)) else some (v14.1.Op==(3:Int))) λs26=>bif s26 then JO (bW s move v14.1.Loc) λv29=>gd (decide<|0<=v29/\v29<(s.waits.length:Int)) <|gd (GV .u8 v14.1.Loc) <|gd (GV .u8<|v14.1.Loc*(16:Int)) <|JO (dI<|s.waits.getD v29.toNat default) λv33=>JO (cm s.values move (⟨v14.1.Op,v14.1.Loc,v14.1.Reg,v14.1.Val⟩:GY)) λv37=>gd (GV .u8<|(v14.1.Loc*(16:Int))+v37) <|gd (eB (v33.length+1) 1) <|gd (decide<|0<=v29/\v29<(s17.2.2.2.2.2.2.2.2.2.length:Int)) <|some (s.values.mem.x0,s.values.mem.x1,s.values.mem.x2,(s17.2.2.2.2.2.2.2.2.2.set v29.toNat<|v33++[((v14.1.Loc*(16:Int))+v37)])) else bif (v14.1.Op==(5:Int)) then gd (GV .u8 v14.1.Val) <|gd (decide<|0<=v14.1.Loc/\v14.1.Loc<3) <|some ((Z3b.set s.values.mem v14.1.Loc v14.1.Val).x0,(Z3b.set s.values.mem v14.1.Loc v14.1.Val).x1,(Z3b.set s.values.mem v14.1.Loc v14.1.Val).x2,s17.2.2.2.2.2.2.2.2.2) else some (s.values.mem.x0,s.values.mem.x1,s.values.mem.x2,s17.2.2.2.2.2.2.2.2.2)) λs25=>some (⟨(⟨s.values.p,(⟨(Z3b.set s.values.pc move<|(Z3b.get s.values.pc move)+(1:Int)).x0,(Z3b.set s.values.pc move<|(Z3b.get s.values.pc move)+(1:Int)).x1,(Z3b.set s.values.pc move<|(Z3b.get s.values.pc move)+(1:Int)).x2⟩:Z3b),(⟨(⟨s17.1,s17.2.1,s17.2.2.1⟩:Z3b),(⟨s17.2.2.2.1,s17.2.2.2.2.1,s17.2.2.2.2.2.1⟩:Z3b),(⟨s17.2.2.2.2.2.2.1,s17.2.2.2.2.2.2.2.1,s17.2.2.2.2.2.2.2.2.1⟩:Z3b)⟩:Z33),(⟨s25.1,s25.2.1,s25.2.2.1⟩:Z3b)⟩:GZ),s.split,s25.2.2.2⟩:ae)
def dM (s9:(List<|ByteArray×Bool)×(LL)×(List ae)) (s19:(LL)) (v27:(LI)):LS ((List<|ByteArray×Bool)×(List ae)×Int) (((List<|ByteArray×Bool)×(LL)×(List ae)) ⊕ ((List<|ByteArray×Bool)×(LL))):=λs31=>bif decide (s31.2.2<(v27.length:Int)) then JO (gd (decide<|0<=s31.2.2/\s31.2.2<(v27.length:Int)) <|JO (bH (s9.2.2.getD (((s9.2.2.length:Int)-(1:Int)).toNat) default)<|v27.getD s31.2.2.toNat default) λv37=>JO (bD v37) λv38=>bif !((wD s31.1 v38).getD false) then gd (eB (s31.2.1.length+1) 16) <|some ((sO s31.1 v38 true),(s31.2.1++[v37])) else some (s31.1,s31.2.1)) λs35=>gd (GV .i64<|s31.2.2+(1:Int)) <|some (.inl (s35.1,s35.2,(s31.2.2+(1:Int)))) else some (.inr<|.inl (s31.1,s19,s31.2.1))
def dN:LS ((List<|ByteArray×Bool)×(LL)×(List ae)) ((List<|ByteArray×Bool)×(LL)):=λs9=>bif decide ((0:Int)<(s9.2.2.length:Int)) then gd (GV .i64<|(s9.2.2.length:Int)-(1:Int)) <|gd (decide<|0<=((s9.2.2.length:Int)-(1:Int))/\((s9.2.2.length:Int)-(1:Int))<(s9.2.2.length:Int)) <|gd (decide<|0<=(0:Int)/\(0:Int)<=((s9.2.2.length:Int)-(1:Int))/\((s9.2.2.length:Int)-(1:Int))<=(s9.2.2.length:Int)) <|JO (JO (bP<|s9.2.2.getD (((s9.2.2.length:Int)-(1:Int)).toNat) default) λv20=>bif v20 then JO (aK<|(s9.2.2.getD (((s9.2.2.length:Int)-(1:Int)).toNat) default).values) λv22=>gd (eB (s9.2.1.length+1) 24) <|some (s9.2.1++[v22]) else some s9.2.1) λs19=>JO (bG<|s9.2.2.getD (((s9.2.2.length:Int)-(1:Int)).toNat) default) λv27=>bY (dM s9 s19 v27) (s9.1,((s9.2.2.drop (0:Int).toNat).take<|((s9.2.2.length:Int)-(1:Int)).toNat-(0:Int).toNat),(0:Int)) else some (.inr (s9.1,s9.2.1))
def cV (start:ae):Option ((LL)×Int):= JO (bD start) λv1=>JO (bY dN ((sO ([]:List<|ByteArray×Bool) v1 true),([]:LL),([start]:List ae))) λs2=>JO (aL s2.2) λv46=>some (v46,(s2.1.length:Int))
def bQ (p:List<|List GY) (split:Bool):Option ((LL)×Int):= JO (av p) λv1=>bif !v1 then some (([]:LL),(0:Int)) else JO (fe p split) λv3=>JO (cV v3) λv4=>some (v4.1,v4.2)
def iU (p:List<|List GY):Option (LL):= JO (bQ p false) λv1=>some v1.1
def iV (p:List<|List GY):Option (LL):= JO (bQ p true) λv1=>some v1.1
def aA (p:List<|List GY) (name:ByteArray):Option (LL):= bif decide (name=(⟨#[115,101,113]⟩:ByteArray)) then JO (eZ p) λv2=>some v2 else bif decide (name=(⟨#[116,115,111]⟩:ByteArray)) then JO (iU p) λv4=>some v4 else bif decide (name=(⟨#[112,115,111]⟩:ByteArray)) then JO (iV p) λv6=>some v6 else bif decide (name=(⟨#[114,97]⟩:ByteArray)) then none else some ([]:LL)
def G7 {α:Type} (x:Option α) (P:α->Prop):Prop:=∃ v,x=some v/\P v
section
variable {α β S E:Type} {P:α->Prop} {Q:β->Prop} {x y:Option α}
theorem G7.pure {v:α} (h:P v):G7 (some v) P:=⟨v,rfl,h⟩
theorem G7.mono {P':α->Prop} (h:G7 x P) (k:∀ v,P v->P' v):G7 x P':=by
 obtain ⟨v,e,p⟩:=h;exact ⟨v,e,k v p⟩
theorem G7.bind {o:Option α} {f:α->Option β} (h:G7 o P) (k:∀ v,P v->G7 (f v) Q):G7 (o.bind f) Q:=by
 obtain ⟨v,rfl,p⟩:=h;exact k v p
theorem G7.gd {b:Bool} (hb:b=true) (h:G7 x P):G7 (gd b x) P:=by rw [iL hb];exact h
theorem G7.gdD {A:Prop} [Decidable A] (hb:A) (h:G7 x P):G7 (Go.Proofs.YtjcmfddobaplbaaGreat.gd (decide A) x) P:=G7.gd (decide_eq_true hb) h
theorem G7.gdI {n:Int} (hb : -9223372036854775808<=n/\n<=9223372036854775807) (h:G7 x P):G7 (Go.Proofs.YtjcmfddobaplbaaGreat.gd (GV .i64 n) x) P:=G7.gd (Dw hb) h
theorem G7.gdY {n:Int} (hb:0<=n/\n<=255) (h:G7 x P):G7 (Go.Proofs.YtjcmfddobaplbaaGreat.gd (GV .u8 n) x) P:=G7.gd (EZ hb) h
theorem CB {n m:Nat} (hn:n<=1048576) (hm:Nat.ble m 1000=true):eB n m=true:=by
 have h1:=nlb hm;have h2:n*m<=1048576*1000:=J5 hn h1;exact decide_eq_true ⟨by omega,by omega⟩
theorem G7.gdC {n m:Nat} (hn:n<=1048576) (hm:Nat.ble m 1000=true) (h:G7 x P):G7 (Go.Proofs.YtjcmfddobaplbaaGreat.gd (eB n m) x) P:=G7.gd (CB hn hm) h
theorem G7.bif {b:Bool} (h1:b=true->G7 x P) (h2:b=false->G7 y P):G7 (bif b then x else y) P:=by
 cases b with
 | true=>exact h1 rfl
 | false=>exact h2 rfl
theorem G7.bifD {A:Prop} [Decidable A] (h1:A->G7 x P) (h2 : ¬ A->G7 y P):G7 (_root_.cond (decide A) x y) P:=
 G7.bif (λh=>h1<|of_decide_eq_true h) (λh=>h2<|of_decide_eq_false h)
theorem G7.sum {W:Type} {PS:S->Prop} {PW:W->Prop} {a:Option (S ⊕ W)} {f:S->Option W} (h:G7 a λz=>match z with
  | .inl s=>PS s
  | .inr w=>PW w) (k:∀ s,PS s->G7 (f s) PW):G7 (sumK a f) PW:=by
 obtain ⟨v,rfl,p⟩:=h
 match v,p with
 | .inl s,p=>exact k s p
 | .inr w,p=>exact ⟨w,rfl,p⟩
theorem G7.loop {step:S->Option (S ⊕ E)} {R:E->Prop} (J:S->Prop) (mu:S->Nat) {s0:S} (h0:J s0) (h:∀ s,J s->G7 (step s) λz=>match z with
  | .inl s'=>J s'/\mu s'<mu s
  | .inr x=>R x):G7 (bY step s0) R:=by
 have key:∀ (n:Nat) (s:S),mu s=n->J s->G7 (bY step s) R:=by
  intro n
  induction n using Nat.strongRecOn with
  | _ n ih=>
   intro s hs hj;obtain ⟨z,e,hz⟩:=h s hj;rw [qG,e]
   match z,hz with
   | .inl s',hz=>exact ih (mu s') (by omega) s' rfl hz.1
   | .inr x,hz=>exact ⟨x,rfl,hz⟩
 exact key _ s0 rfl h0
theorem G7.eq {v:α} (h:G7 x (· = v)):x=some v:=by
 obtain ⟨u,e,rfl⟩:=h;exact e
theorem G7.of {v:α} (h:x=some v) (p:P v):G7 x P:=⟨v,h,p⟩
end
section
variable {α β:Type} {x x' y y':Option α}
end
def rdX (x:GY):Bool:=x.Op==1||x.Op==5
def wrX (x:GY):Bool:=x.Op==2||x.Op==3||x.Op==5
theorem DC (x:GY):G7 (bB x) (· = rdX x):=by
 unfold bB rdX;exact G7.bind (P:=(· = (x.Op==1||x.Op==5))) (.bif (λh => .pure<|by rw [h];rfl) λh => .pure<|by rw [h];rfl) λv hv => .pure hv
theorem Eb (x:GY):G7 (dR x) (· = wrX x):=by
 unfold dR wrX;exact G7.bind (P:=(· = (x.Op==2||x.Op==3))) (.bif (λh => .pure<|by rw [h];rfl) λh => .pure<|by rw [h];rfl) λv hv=>G7.bind (P:=(· = (x.Op==2||x.Op==3||x.Op==5))) (.bif (λh => .pure<|by rw [<- hv,h];rfl) λh => .pure<|by rw [<- hv,h];rfl) λv hv => .pure hv
def Vs (p:List<|List GY):Prop:=p.length<=3/\∀ n,(p.getD n default).length<=7
theorem Vs.of {p:List (List GY)} (h:aY (p.map λr=>r.map f8)=true):Vs p/\∀ t k:Nat,t<p.length->k<(p.getD t default).length->gy (f8<|(p.getD t default).getD k default)=true:=by
 simp only [aY,jV,bae,dte,Ke,rowOk] at h;have hl:p.length<=3:=by simpa using h.1.1.1.1
 have hr:=h.1.1.1.2;refine ⟨⟨hl,λn=>?_⟩,λt k ht hk=>?_⟩
 ·by_cases hn:n<p.length
  ·have e:p.getD n default=p[n]:=by simp [hn]
   rw [e];have := (hr (p[n].map f8)<|J1.2 ⟨p[n],JZ hn,rfl⟩).1;simpa using this
  rw [gdq,gen (by omega)];exact JQ _
 have e:p.getD t default=p[t]:=by simp [ht]
 rw [e] at hk ⊢;have h1:=(hr (p[t].map f8)<|J1.2 ⟨p[t],JZ ht,rfl⟩).2;have e2:p[t].getD k default=p[t][k]:=by simp [hk]
 rw [e2];exact h1 _<|J1.2 ⟨_,JZ hk,rfl⟩
def InR (x:GY):Prop:=0<=x.Loc/\x.Loc<=2/\0<=x.Reg/\x.Reg<=2/\0<=x.Val/\x.Val<=3
theorem Bb {x:GY} (h:gy (f8 x)=true):InR x:=by
 obtain ⟨o,l,r,v⟩:=x;unfold InR;simp only;unfold gy f8 at h;simp only [G6] at h
 split at h
 ·simp only [bae,dte,beq_iff_eq] at h;omega
 split at h
 ·simp only [bae,dte,beq_iff_eq] at h;omega
 split at h
 ·simp only [bae,dte,beq_iff_eq] at h;omega
 split at h
 ·simp only [bae,dte] at h;omega
 cases h
structure PV (p:List (List GY)):Prop where
 vs:Vs p
 pos:0<p.length
 ins:∀ t k:Nat,t<p.length->k<(p.getD t default).length->InR ((p.getD t default).getD k default)
theorem PV.of {p:List (List GY)} (h:aY (p.map λr=>r.map f8)=true):PV p:=by
 have h1:=Vs.of h;refine ⟨h1.1,?_,λt k ht hk=>Bb<|h1.2 t k ht hk⟩;simp only [aY,bae,dte,llm] at h;exact h.1.2
theorem il {n m:Nat} (hn:n<=4000000) (hm:Nat.ble m 1000=true):eB n m=true:=by
 have h1:=nlb hm;have h2:n*m<=4000000*1000:=J5 hn h1;exact decide_eq_true ⟨by omega,by omega⟩
theorem kT (a:Z3b) (q i v:Int) (hq:0<=q/\q<=2) (hi:0<=i/\i<=2):Z3b.get (Z3b.set a q v) i=if i=q then v else Z3b.get a i:=by
 obtain ⟨x,y,z⟩:=a;have h1:q=0\/q=1\/q=2:=by omega
 have h2:i=0\/i=1\/i=2:=by omega
 rcases h1 with rfl | rfl | rfl <;> rcases h2 with rfl | rfl | rfl <;> rfl
theorem rP (a:Z33) (q i:Int) (v:Z3b) (hq:0<=q/\q<=2) (hi:0<=i/\i<=2):Z33.get (Z33.set a q v) i=if i=q then v else Z33.get a i:=by
 obtain ⟨x,y,z⟩:=a;have h1:q=0\/q=1\/q=2:=by omega
 have h2:i=0\/i=1\/i=2:=by omega
 rcases h1 with rfl | rfl | rfl <;> rcases h2 with rfl | rfl | rfl <;> rfl
def wE (u:GZ) (t:Int) (x:GY):Int:=if x.Op=3 then Z3b.get (Z33.get u.reg t) x.Reg else x.Val
def Bc (u:GZ) (t:Int) (x:GY):GZ:=
 ⟨u.p,Z3b.set u.pc t<|Z3b.get u.pc t+1,if rdX x=true then Z33.set u.reg t (Z3b.set (Z33.get u.reg t) x.Reg<|Z3b.get u.mem x.Loc) else u.reg,if wrX x=true then Z3b.set u.mem x.Loc (wE u t x) else u.mem⟩
structure Mac (σ:Type) where
 mv:σ->LI
 af:σ->Int->σ
 ky:σ->ByteArray
 dn:σ->Bool
 oc:σ->LI
section
variable {σ:Type} (M:Mac σ)
inductive Rea (s0:σ):σ->Prop
 | base:Rea s0 s0
 | step {s:σ} {m:Int} (h:Rea s0 s) (hm:m∈M.mv s):Rea s0 (M.af s m)
def EN (s0:σ) (o:LI):Prop:=∃ s,Rea M s0 s/\M.dn s=true/\M.oc s=o
structure Mok (s0:σ) (N:Nat):Prop where
 key:∀ s t,Rea M s0 s->Rea M s0 t->M.ky s=M.ky t->s=t
 cnt:∀ V:List σ,V.Nodup->(∀ v∈V,Rea M s0 v)->V.length<=N
variable {M} {s0:σ} {N:Nat}
def kys (M:Mac σ) (V:List σ):List (ByteArray×Bool):=V.map λv=>(M.ky v,true)
theorem yf (V:List σ) (k:ByteArray):(∃ j,pu (kys M V) k=some j)↔∃ v∈V,M.ky v=k:=by
 unfold pu kys;rw [List.map_map]
 cases h:List.findIdx? (λx=>decide<|x=k) (V.map<|(λx:ByteArray×Bool=>x.1) ∘ λv=>(M.ky v,true)) with
 | none=>
  rw [List.findIdx?_eq_none_iff] at h;refine ⟨λ⟨j,hj⟩=>(by cases hj),λ⟨v,hv,e⟩ => ?_⟩;have := h (M.ky v)<|J1.2 ⟨v,hv,rfl⟩;rw [e] at this;simp at this
 | some j=>
  refine ⟨λ_=>?_,λ_=>⟨j,rfl⟩⟩;obtain ⟨h1,h2,_⟩:=List.findIdx?_eq_some_iff_getElem.1 h;have hj:j<V.length:=by simpa using h1
  refine ⟨V[j],JZ hj,?_⟩;simpa using h2
theorem yg (V:List σ) (k:ByteArray):((wD (kys M V) k).getD false)=true↔∃ v∈V,M.ky v=k:=by
 rw [<- yf];unfold wD
 cases h:pu (kys M V) k with
 | none=>simp
 | some j=>
  obtain ⟨hj,v,hv⟩:=rE h;rw [Option.bind_some,hv];have : (k,v)∈kys M V:=J2 hv;unfold kys at this;obtain ⟨u,_,e⟩:=J1.1 this;injection e with _ e;subst e;simp
theorem Ec {V:List σ} {s:σ} (h : ¬ ∃ v∈V,M.ky v=M.ky s):sO (kys M V) (M.ky s) true=kys M (V++[s]):=by
 unfold sO
 cases hm:pu (kys M V) (M.ky s) with
 | some j=>exact absurd ((yf V _).1 ⟨j,hm⟩) h
 | none=>simp [kys]
def Done (M:Mac σ) (V:List σ) (outs:LL) (v:σ):Prop:=(∀ m∈M.mv v,M.af v m∈V)/\(M.dn v=true->M.oc v∈outs)
structure Srch (M:Mac σ) (s0:σ) (V stack:List σ) (outs:List (List Int)) (cur:Option (σ×Nat)):Prop where
 rea:∀ v∈V,Rea M s0 v
 base:s0∈V
 nd:V.Nodup
 sub:∀ v∈stack,v∈V
 all:∀ v∈V,v∈stack\/(∃ n,cur=some (v,n))\/Done M V outs v
 out:∀ o∈outs,∃ v∈V,M.dn v=true/\M.oc v=o
 len:outs.length+stack.length<=V.length
 cur_:∀ s n,cur=some (s,n)->s∈V/\(M.dn s=true->M.oc s∈outs)/\∀ j,j<n->∀ m,(M.mv s)[j]? = some m->M.af s m∈V
theorem Srch.start:Srch M s0 [s0] [s0] [] none where
 rea:=λv hv=>by rw [JR.1 hv];exact .base
 base:=JR.2 rfl
 nd:=by simp
 sub:=λv hv=>hv
 all:=λv hv => .inl hv
 out:=nofun
 len:=by simp
 cur_:=nofun
theorem Srch.pop {V stack:List σ} {s:σ} {outs:LL} (h:Srch M s0 V (stack++[s]) outs none) {outs':LL} (ho:outs'=if M.dn s then outs++[M.oc s] else outs):Srch M s0 V stack outs' (some (s,0)) where
 rea:=h.rea
 base:=h.base
 nd:=h.nd
 sub:=λv hv=>h.sub v<|JW _ hv
 all:=λv hv=>by
  rcases h.all v hv with h1 | ⟨n,h1⟩ | ⟨h1,h2⟩
  ·rcases J4.1 h1 with h1 | h1
   ·exact .inl h1
   rw [JR.1 h1];exact .inr<|.inl ⟨0,rfl⟩
  ·cases h1
  refine .inr<|.inr ⟨h1,λhd=>?_⟩;rw [ho]
  split
  ·exact JW _<|h2 hd
  exact h2 hd
 out:=λo hm=>by
  rw [ho] at hm
  split at hm
  ·rename_i hd;rcases J4.1 hm with hm | hm
   ·exact h.out o hm
   rw [JR.1 hm];exact ⟨s,h.sub s<|JY _<|JR.2 rfl,hd,rfl⟩
  exact h.out o hm
 len:=by
  have := h.len;rw [lla,JU] at this;rw [ho]
  split
  ·rw [lla,JU];omega
  omega
 cur_:=λt n e=>by
  injection e with e;injection e with e1 e2;subst e1 e2;refine ⟨h.sub s<|JY _<|JR.2 rfl,λhd=>?_,λj hj=>absurd hj<|by omega⟩;rw [ho,if_pos hd];exact JY _<|JR.2 rfl
theorem Srch.old {V stack:List σ} {s:σ} {outs:LL} {n:Nat} {m:Int} (h:Srch M s0 V stack outs<|some (s,n)) (hm:(M.mv s)[n]? = some m) (hv:M.af s m∈V):Srch M s0 V stack outs (some (s,n+1)) where
 rea:=h.rea
 base:=h.base
 nd:=h.nd
 sub:=h.sub
 all:=λv hv=>by
  rcases h.all v hv with h1 | ⟨k,h1⟩ | h1
  ·exact .inl h1
  ·injection h1 with h1;injection h1 with h1 _;subst h1;exact .inr<|.inl ⟨n+1,rfl⟩
  exact .inr<|.inr h1
 out:=h.out
 len:=h.len
 cur_:=λt k e=>by
  injection e with e;injection e with e1 e2;subst e1 e2;obtain ⟨g1,g2,g3⟩:=h.cur_ s n rfl;refine ⟨g1,g2,λj hj m' hm' => ?_⟩;rcases Nat.lt_or_ge j n with h' | h'
  ·exact g3 j h' m' hm'
  obtain rfl:j=n:=by omega
  rw [hm] at hm';obtain rfl:=osl hm';exact hv
theorem Srch.new {V stack:List σ} {s:σ} {outs:LL} {n:Nat} {m:Int} (h:Srch M s0 V stack outs<|some (s,n)) (hm:(M.mv s)[n]? = some m) (hv:M.af s m∉V):Srch M s0 (V++[M.af s m]) (stack++[M.af s m]) outs (some (s,n+1)) where
 rea:=λv hv=>by
  rcases J4.1 hv with hv | hv
  ·exact h.rea v hv
  rw [JR.1 hv];exact .step (h.rea s (h.cur_ s n rfl).1)<|J2 hm
 base:=JW _ h.base
 nd:=by
  rw [List.nodup_append];exact ⟨h.nd,by simp,λa ha b hb e=>hv<|by rw [<- JR.1 hb,<- e];exact ha⟩
 sub:=λv hv=>by
  rcases J4.1 hv with hv | hv
  ·exact JW _<|h.sub v hv
  exact JY _ hv
 all:=λv hv=>by
  rcases J4.1 hv with hv | hv
  ·rcases h.all v hv with h1 | ⟨k,h1⟩ | ⟨h1,h2⟩
   ·exact .inl<|JW _ h1
   ·injection h1 with h1;injection h1 with h1 _;subst h1;exact .inr<|.inl ⟨n+1,rfl⟩
   exact .inr<|.inr ⟨λm hm=>JW _<|h1 m hm,h2⟩
  exact .inl<|JY _ hv
 out:=λo ho=>by
  obtain ⟨v,g1,g2⟩:=h.out o ho;exact ⟨v,JW _ g1,g2⟩
 len:=by
  have := h.len;simp only [lla,JU];omega
 cur_:=λt k e=>by
  injection e with e;injection e with e1 e2;subst e1 e2;obtain ⟨g1,g2,g3⟩:=h.cur_ s n rfl;refine ⟨JW _ g1,g2,λj hj m' hm' => ?_⟩;rcases Nat.lt_or_ge j n with h' | h'
  ·exact JW _<|g3 j h' m' hm'
  obtain rfl:j=n:=by omega
  rw [hm] at hm';obtain rfl:=osl hm';exact JY _<|JR.2 rfl
theorem Srch.fin {V stack:List σ} {s:σ} {outs:LL} {n:Nat} (h:Srch M s0 V stack outs<|some (s,n)) (hn:(M.mv s).length<=n):Srch M s0 V stack outs none where
 rea:=h.rea
 base:=h.base
 nd:=h.nd
 sub:=h.sub
 all:=λv hv=>by
  rcases h.all v hv with h1 | ⟨k,h1⟩ | h1
  ·exact .inl h1
  ·injection h1 with h1;injection h1 with h1 _;subst h1;obtain ⟨_,g2,g3⟩:=h.cur_ s n rfl;refine .inr<|.inr ⟨λm hm=>?_,g2⟩;obtain ⟨j,hj⟩:=Kr hm;exact g3 j (by have := (ges hj).1;omega) m hj
  exact .inr<|.inr h1
 out:=h.out
 len:=h.len
 cur_:=nofun
theorem Srch.ends {V:List σ} {outs:LL} (h:Srch M s0 V [] outs none):(∀ o,o∈outs↔EN M s0 o)/\∀ v,v∈V↔Rea M s0 v:=by
 have all:∀ v,Rea M s0 v->v∈V:=λv hv=>by
  induction hv with
  | base=>exact h.base
  | step _ hm ih=>
   rcases h.all _ ih with h1 | ⟨_,h1⟩ | h1
   ·cases h1
   ·cases h1
   exact h1.1 _ hm
 refine ⟨λo=>⟨λho=>?_,λ⟨s,h1,h2,h3⟩ => ?_⟩,λv=>⟨h.rea v,all v⟩⟩
 ·obtain ⟨v,g1,g2,g3⟩:=h.out o ho;exact ⟨v,h.rea v g1,g2,g3⟩
 rcases h.all s (all s h1) with h4 | ⟨_,h4⟩ | h4
 ·cases h4
 ·cases h4
 rw [<- h3];exact h4.2 h2
end
section
variable {σ:Type} [Inhabited σ] (mv:σ->Option (LI)) (af:σ->Int->Option σ) (ky:σ->Option ByteArray) (dn:σ->Option Bool) (oc:σ->Option (LI)) (srt:LL->Option (LL))
def F6 (s9:(List<|ByteArray×Bool)×(LL)×(List σ)) (s19:(LL)) (v27:(LI)):((List<|ByteArray×Bool)×(List σ)×Int)->Option (((List<|ByteArray×Bool)×(List σ)×Int) ⊕ (((List<|ByteArray×Bool)×(LL)×(List σ)) ⊕ ((List<|ByteArray×Bool)×(LL)))):=λs31=>
 bif decide (s31.2.2<(v27.length:Int)) then
  JO (
   gd (decide<|0<=s31.2.2/\s31.2.2<(v27.length:Int)) <|
   JO (af (s9.2.2.getD (((s9.2.2.length:Int)-(1:Int)).toNat) default)<|v27.getD s31.2.2.toNat default) λv37=>
   JO (ky v37) λv38=>
   bif !((wD s31.1 v38).getD false) then
    gd (eB (s31.2.1.length+1) 16) <|
    some ((sO s31.1 v38 true),(s31.2.1++[v37]))
   else
    some (s31.1,s31.2.1)
  ) λs35=>
  gd (GV .i64<|s31.2.2+(1:Int)) <|
  some (.inl (s35.1,s35.2,(s31.2.2+(1:Int))))
 else
  some (.inr<|.inl (s31.1,s19,s31.2.1))
def Gq:((List<|ByteArray×Bool)×(LL)×(List σ))->Option (((List<|ByteArray×Bool)×(LL)×(List σ)) ⊕ ((List<|ByteArray×Bool)×(LL))):=λs9=>
 bif decide ((0:Int)<(s9.2.2.length:Int)) then
  gd (GV .i64<|(s9.2.2.length:Int)-(1:Int)) <|
  gd (decide<|0<=((s9.2.2.length:Int)-(1:Int))/\((s9.2.2.length:Int)-(1:Int))<(s9.2.2.length:Int)) <|
  gd (decide<|0<=(0:Int)/\(0:Int)<=((s9.2.2.length:Int)-(1:Int))/\((s9.2.2.length:Int)-(1:Int))<=(s9.2.2.length:Int)) <|
  JO (
   JO (dn<|s9.2.2.getD (((s9.2.2.length:Int)-(1:Int)).toNat) default) λv20=>
   bif v20 then
    JO (oc<|s9.2.2.getD (((s9.2.2.length:Int)-(1:Int)).toNat) default) λv22=>
    gd (eB (s9.2.1.length+1) 24) <|
    some (s9.2.1++[v22])
   else
    some s9.2.1
  ) λs19=>
  JO (mv<|s9.2.2.getD (((s9.2.2.length:Int)-(1:Int)).toNat) default) λv27=>
  bY (F6 af ky s9 s19 v27) (s9.1,((s9.2.2.drop (0:Int).toNat).take<|((s9.2.2.length:Int)-(1:Int)).toNat-(0:Int).toNat),(0:Int))
 else
  some (.inr (s9.1,s9.2.1))
def FV (start:σ):Option ((LL)×Int):=
 JO (ky start) λv1=>
 JO (
  bY (Gq mv af ky dn oc) ((sO ([]:List<|ByteArray×Bool) v1 true),([]:LL),([start]:List σ))
 ) λs2=>
 JO (srt s2.2) λv46=>
 some (v46,(s2.1.length:Int))
variable {mv af ky dn oc srt} {M:Mac σ} {s0:σ} {N:Nat}
structure Mrt (mv:σ->Option (List Int)) (af:σ->Int->Option σ) (ky:σ->Option ByteArray) (dn:σ->Option Bool) (oc:σ->Option (List Int)) (M:Mac σ) (s0:σ):Prop where
 mv:∀ s,Rea M s0 s->G7 (mv s) (· = M.mv s)
 af:∀ s m,Rea M s0 s->m∈M.mv s->G7 (af s m) (· = M.af s m)
 ky:∀ s,Rea M s0 s->G7 (ky s) (· = M.ky s)
 dn:∀ s,Rea M s0 s->G7 (dn s) (· = M.dn s)
 oc:∀ s,Rea M s0 s->M.dn s=true->G7 (oc s) (· = M.oc s)
 len:∀ s,Rea M s0 s->(M.mv s).length<=1048576
theorem Gr {n m:Nat} (hn:n<=1099511627776) (hm:Nat.ble m 32=true):eB n m=true:=by
 have h1:=nlb hm;have h2:n*m<=1099511627776*32:=J5 hn h1;exact decide_eq_true ⟨by omega,by omega⟩
theorem CC (K:Mok M s0 N) (R:Mrt mv af ky dn oc M s0) (hN:N<1099511627776) {V stk:List σ} {s:σ} {outs outs':LL} (h:Srch M s0 V stk outs'<|some (s,0)) :
  G7 (bY (F6 af ky (kys M V,outs,stk++[s]) outs'<|M.mv s) (kys M V,stk,(0:Int))) λz=>∃ V' stk',z = .inl (kys M V',outs',stk')/\Srch M s0 V' stk' outs' none/\V.length<=V'.length/\2*V.length+stk'.length<=2*V'.length+stk.length:=by
 have hsV:=(h.cur_ s 0 rfl).1;have hs:=h.rea s hsV;have hcur:(stk++[s]).getD ((((stk++[s]).length:Int)-1).toNat) default=s:=by
  rw [lla,JU,show (((stk.length+1:Nat):Int)-1).toNat=stk.length by omega,gdq,gar (JP _)];simp
 have hlen:=R.len s hs;refine G7.loop (λz=>∃ V',z.1=kys M V'/\(0<=z.2.2/\z.2.2<=((M.mv s).length:Int))/\Srch M s0 V' z.2.1 outs' (some (s,z.2.2.toNat))/\V.length<=V'.length/\2*V.length+z.2.1.length<=2*V'.length+stk.length) (λz=>(((M.mv s).length:Int)-z.2.2).toNat) ⟨V,rfl,⟨Int.le_refl _,by simp⟩,h,JP _,JP _⟩ λz ⟨V',h1,h2,h3,h4,h5⟩ => ?_;unfold F6;simp only [hcur];refine .bifD (λhlt=>?_) λhge => .pure ⟨V',z.2.1,by rw [h1],h3.fin (by omega),h4,h5⟩;have hj:z.2.2.toNat<(M.mv s).length:=by omega
 have hm:(M.mv s)[z.2.2.toNat]? = some ((M.mv s).getD z.2.2.toNat default):=by simp [geq hj]
 have hmm:=J2 hm;have hi1:(z.2.2+1).toNat=z.2.2.toNat+1:=by omega
 have hV':=K.cnt V' h3.nd h3.rea;have hl:=h3.len;refine G7.bind (P:=λw=>∃ V2,w.1=kys M V2/\Srch M s0 V2 w.2 outs' (some (s,z.2.2.toNat+1))/\V.length<=V2.length/\2*V.length+w.2.length<=2*V2.length+stk.length) ?_ λw ⟨V2,w1,w2,w3,w4⟩ => .gdI (by omega)<|.pure ⟨⟨V2,w1,⟨by simp only [];omega,by simp only [];omega⟩,by simp only [hi1];exact w2,w3,w4⟩,by simp only [];omega⟩;refine .gdD ⟨h2.1,hlt⟩<|(R.af s _ hs hmm).bind λv37 e37=>?_;subst e37;refine (R.ky _<|.step hs hmm).bind λv38 e38=>?_;subst e38;refine .bif (λhb => .gd (Gr (by omega) rfl)<|.pure ?_) λhb => .pure ?_
 ·have hn : ¬ ∃ v∈V',M.ky v=M.ky (M.af s<|(M.mv s).getD z.2.2.toNat default):=λhh=>by
   rw [h1,(yg V' _).2 hh] at hb
   cases hb
  refine ⟨V'++[M.af s ((M.mv s).getD z.2.2.toNat default)],?_,h3.new hm λhv=>hn ⟨_,hv,rfl⟩,?_,?_⟩
  ·simp only [h1];exact Ec hn
  ·simp;omega
  simp;omega
 have hy:∃ v∈V',M.ky v=M.ky (M.af s<|(M.mv s).getD z.2.2.toNat default):=by
  rw [<- yg,<- h1];simpa using hb
 obtain ⟨v,hv,e⟩:=hy;have := K.key v _ (h3.rea v hv) (.step hs hmm) e;refine ⟨V',h1,h3.old hm<|this ▸ hv,h4,h5⟩
theorem Bd (K:Mok M s0 N) (R:Mrt mv af ky dn oc M s0) (hN:N<1099511627776) {Q:LL->LL->Prop} (hs:∀ l:LL,l.length<=N->(∀ o∈l,EN M s0 o)->G7 (srt l) (Q l)) :
  G7 (FV mv af ky dn oc srt s0) λq=>∃ l,Q l q.1/\(∀ o,o∈l↔EN M s0 o)/\∃ V:List σ,V.Nodup/\(∀ v,v∈V↔Rea M s0 v)/\q.2=(V.length:Int):=by
 unfold FV;refine (R.ky s0 .base).bind λv1 e1=>?_;subst e1;refine G7.bind (P:=λw=>∃ V,w.1=kys M V/\Srch M s0 V [] w.2 none) ?_ λw ⟨V,w1,w2⟩ => ?_
 ·refine G7.loop (λz=>∃ V,z.1=kys M V/\Srch M s0 V z.2.2 z.2.1 none) (λz=>2*(N-z.1.length)+z.2.2.length) ⟨[s0],rfl,.start⟩ λz ⟨V,h1,h2⟩ => ?_;have hV:=K.cnt V h2.nd h2.rea;have hl:=h2.len;obtain ⟨kk,outs,stk⟩:=z;simp only at h1 h2 hl;subst h1;unfold Gq;simp only [];refine .bifD (λhlt=>?_) λhge=>?_
  ·obtain ⟨stk',s,rfl⟩:∃ stk' s,stk=stk'++[s]:=⟨_,_,(List.dropLast_concat_getLast<|by rintro rfl;simp at hlt).symm⟩;have hcur:(stk'++[s]).getD ((((stk'++[s]).length:Int)-1).toNat) default=s:=by
    rw [lla,JU,show (((stk'.length+1:Nat):Int)-1).toNat=stk'.length by omega,gdq,gar (JP _)];simp
   have hcut:((stk'++[s]).drop (0:Int).toNat).take ((((stk'++[s]).length:Int)-1).toNat-(0:Int).toNat)=stk':=by
    rw [lla,JU,show (((stk'.length+1:Nat):Int)-1).toNat-(0:Int).toNat=stk'.length by omega];simp
   have hre:=h2.rea s<|h2.sub s<|JY _<|JR.2 rfl;rw [lla,JU] at hl;refine .gdI (by simp;omega) (.gdD ⟨by simp,by omega⟩<|.gdD ⟨Int.le_refl _,by simp,by omega⟩ ?_);rw [hcur,hcut];refine G7.bind (P:=λo=>o=if M.dn s then outs++[M.oc s] else outs) ?_ λo ho=>?_
   ·refine (R.dn s hre).bind λb hb=>?_;subst hb;refine .bif (λhb=>(R.oc s hre hb).bind λo ho => .gd (Gr (by omega) rfl)<|.pure ?_) λhb => .pure ?_
    ·rw [if_pos hb,ho]
    rw [if_neg (by rw [hb];decide)]
   have h3:=h2.pop ho;refine (R.mv s hre).bind λv27 e27=>?_;subst e27;refine (CC K R hN (outs:=outs) h3).mono λz ⟨V',stk2,e,g1,g2,g3⟩ => ?_;subst e;have hV2:=K.cnt V' g1.nd g1.rea;refine ⟨⟨V',rfl,g1⟩,?_⟩;simp only [kys,llm,lla,JU];omega
  refine .pure ⟨V,rfl,?_⟩;have : stk=[]:=Kt (by omega);subst this;exact h2
 have hV:=K.cnt V w2.nd w2.rea;have hl:=w2.len;refine (hs w.2 (by omega) λo ho=>(w2.ends.1 o).1 ho).bind λq hq => .pure ⟨w.2,hq,w2.ends.1,V,w2.nd,w2.ends.2,?_⟩;rw [w1];simp [kys]
end
theorem CE {σ:Type} (f:σ->Nat) (m:Nat):∀ (V:List σ),V.Nodup->(∀ v∈V,f v<m)->(∀ u∈V,∀ v∈V,f u=f v->u=v)->V.length<=m:=λV hn hl hi=>by
 have h1:(V.map f).Nodup:=by
  rw [List.nodup_iff_pairwise_ne] at hn ⊢;rw [List.pairwise_map];exact hn.imp_of_mem λ{a b} ha hb hne e=>hne<|hi a ha b hb e
 have := List.Nodup.length_le_of_subset h1 (l₂:=List.range m) λx hx=>by
  obtain ⟨v,hv,rfl⟩:=J1.1 hx;exact List.mem_range.2<|hl v hv
 simpa using this
def nB:List (Nat×Nat)->Nat
 | []=>0
 | (d,b)::l=>d+b*nB l
def zm:List (Nat×Nat)->Nat
 | []=>1
 | (_,b)::l=>b*zm l
theorem yh:∀ (l:List<|Nat×Nat),(∀ x∈l,x.1<x.2)->nB l<zm l
 | [],_=>Nat.one_pos
 | (d,b)::l,h=>by
  have h1:d<b:=h _ J3;have h2:=yh l λx hx=>h x<|Kl _ hx;show d+b*nB l<b*zm l;have h3:b*(nB l+1)<=b*zm l:=Nat.mul_le_mul_left _ h2;rw [Nat.mul_add,Nat.mul_one] at h3;omega
theorem vX:∀ (l k:List<|Nat×Nat),l.map (·.2)=k.map (·.2)->(∀ x∈l,x.1<x.2)->(∀ x∈k,x.1<x.2)->nB l=nB k->l=k
 | [],[],_,_,_,_=>rfl
 | [],_::_,h,_,_,_=>by cases h
 | _::_,[],h,_,_,_=>by cases h
 | (d,b)::l,(d',b')::k,h,hl,hk,e=>by
  injection h with hb ht;simp only at hb;subst hb;have h1:d<b:=hl _ J3;have h2:d'<b:=hk _ J3;have e:d+b*nB l=d'+b*nB k:=e;have hd:d=d':=by
   have := congrArg (· % b) e;simp only [Nat.add_mul_mod_self_left,Kh h1,Kh h2] at this;exact this
  subst hd;have hc:nB l=nB k:=Nat.eq_of_mul_eq_mul_left (by omega) (by omega:b*nB l=b*nB k);rw [vX l k ht (λx hx=>hl x<|Kl _ hx) (λx hx=>hk x<|Kl _ hx) hc]
end
end Go.Proofs.YtjcmfddobaplbaaGreat
