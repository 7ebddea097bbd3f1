/- Texts joined. No conditions. -/
import Derived.Outline
import Derived.Deep.RegionWith
import Derived.RegionTactic
import Derived.ChangeAlike
import Derived.Test.YtjcmfddobaplbaaGreatZ4
namespace Go.Proofs.YtjcmfddobaplbaaGreat
noncomputable section
open _root_.Nat renaming le_refl -> Pk, zero_le -> Pm, mul_assoc -> Po, le_trans -> Pp, mul_pos -> Pq, mul_le_mul_right -> Ps, add_mul -> Pt, le_mul_of_pos_right -> Px, mul_comm -> PD
open _root_.List renaming take_of_length_le -> Pn, getElem?_cons_zero -> Pu, getElem?_set_self -> Pv, pairwise_cons -> Pw, replicate -> Pz, getElem?_take -> PE, nil_append -> PF, countP_le_length -> PG, getElem_of_mem -> PH, mergeSort_perm -> PI, mem_of_getElem? -> PK, getElem?_set_ne -> PP, length_singleton -> PQ
open _root_.Int renaming mul_nonneg -> Py
open _root_.Array renaming length_toList -> PL, getElem?_toList -> PM, mem_of_getElem? -> PN, getElem?_eq_getElem -> PO
open Go.ChangeShapes Go.WideShapes Go.ChangeAt Go.RowKit
set_option maxRecDepth 100000
theorem iU (x hi:Int) (b:Bool) (hb:(decide (0<=x)&&decide (x<=hi))=b) (w:World) :
  Calls Tryz.prog 69 #[.int .i64 x,.int .i64 hi] w λe w'=>e = .returned (.bool b)/\w=w':=by
 subst hb
 by_cases h1:0<=x
 ·by_cases h2:x<=hi
  ·go_enter Tryz.func69,Tryz.ntmps69
   go_wp2
   all_goals (go_ret;exact ⟨aZ (by simp [h1,h2]),rfl⟩)
  go_enter Tryz.func69,Tryz.ntmps69
  go_wp2
  all_goals (go_ret;exact ⟨aZ (by simp;omega),rfl⟩)
 go_enter Tryz.func69,Tryz.ntmps69
 go_wp2
 all_goals (go_ret;exact ⟨aZ (by simp;omega),rfl⟩)
def MM (x hi:Int):Bool:=decide (0<=x)&&decide (x<=hi)
def jh (x:Ins):Bool:=
 if x.op=1\/x.op=3 then MM x.loc 2&&MM x.reg 2&&x.val==0
 else if x.op=2 then MM x.loc 2&&x.reg==0&&MM x.val 3
 else if x.op=4 then x.loc==0&&x.reg==0&&x.val==0
 else if x.op=5 then MM x.loc 2&&MM x.reg 2&&MM x.val 3
 else false
theorem qK (x:Ins) (w:World) :
  Calls Tryz.prog 119 #[x.v] w λe w'=>e = .returned (.bool<|jh x)/\Below w.heap.size w w':=by
 obtain ⟨op,a,b,c⟩:=x;have hop:(op=1\/op=3)\/op=2\/op=4\/op=5\/((op==1)=false/\(op==3)=false/\(op==2)=false/\(op==4)=false/\(op==5)=false):=by
  simp only [beq_eq_false_iff_ne,ne_eq];omega
 unfold Ins.v;rcases hop with hop | rfl | rfl | rfl | ⟨h1,h2,h3,h4,h5⟩
 ·have hr:jh ⟨op,a,b,c⟩=(MM a 2&&MM b 2&&c==0):=by unfold jh;rw [if_pos hop]
  generalize ha:MM a 2=pa at *;generalize hb:MM b 2=pb at *;have HR:=Lib.hid hr;clear hr;have HA:=Lib.hid ha;clear ha;have HB:=Lib.hid hb;clear hb;rcases hop with rfl | rfl
  all_goals
   go_enter Tryz.func119,Tryz.ntmps119
   go_wp2_with (first
    | (go_at_call_of 69 (Value.int .i64 a);refine (iU a 2 _ HA.out _).mono ?_;rintro e w1 ⟨rfl,rfl⟩)
    | (go_at_call_of 69 (Value.int .i64 b);refine (iU b 2 _ HB.out _).mono ?_;rintro e w1 ⟨rfl,rfl⟩))
   all_goals (go_ret;exact ⟨aZ (by rw [HR.out];simp_all),(Below.refl _ _).alloc (Pk _) _⟩)
 ·have hr:jh ⟨2,a,b,c⟩=(MM a 2&&b==0&&MM c 3):=rfl;generalize ha:MM a 2=pa at *;generalize hc:MM c 3=pc at *;have HR:=Lib.hid hr;clear hr;have HA:=Lib.hid ha;clear ha;have HC:=Lib.hid hc;clear hc
  go_enter Tryz.func119,Tryz.ntmps119
  go_wp2_with (first
   | (go_at_call_of 69 (Value.int .i64 a);refine (iU a 2 _ HA.out _).mono ?_;rintro e w1 ⟨rfl,rfl⟩)
   | (go_at_call_of 69 (Value.int .i64 c);refine (iU c 3 _ HC.out _).mono ?_;rintro e w1 ⟨rfl,rfl⟩))
  all_goals (go_ret;exact ⟨aZ (by rw [HR.out];simp_all),(Below.refl _ _).alloc (Pk _) _⟩)
 ·have hr:jh ⟨4,a,b,c⟩=(a==0&&b==0&&c==0):=rfl;have HR:=Lib.hid hr;clear hr
  go_enter Tryz.func119,Tryz.ntmps119
  go_wp2_with fail
  all_goals (go_ret;exact ⟨aZ (by rw [HR.out];simp_all),(Below.refl _ _).alloc (Pk _) _⟩)
 ·have hr:jh ⟨5,a,b,c⟩=(MM a 2&&MM b 2&&MM c 3):=rfl;generalize ha:MM a 2=pa at *;generalize hb:MM b 2=pb at *;generalize hc:MM c 3=pc at *;have HR:=Lib.hid hr;clear hr;have HA:=Lib.hid ha;clear ha;have HB:=Lib.hid hb;clear hb;have HC:=Lib.hid hc;clear hc
  go_enter Tryz.func119,Tryz.ntmps119
  go_wp2_with (first
   | (go_at_call_of 69 (Value.int .i64 a);refine (iU a 2 _ HA.out _).mono ?_;rintro e w1 ⟨rfl,rfl⟩)
   | (go_at_call_of 69 (Value.int .i64 b);refine (iU b 2 _ HB.out _).mono ?_;rintro e w1 ⟨rfl,rfl⟩)
   | (go_at_call_of 69 (Value.int .i64 c);refine (iU c 3 _ HC.out _).mono ?_;rintro e w1 ⟨rfl,rfl⟩))
  all_goals (go_ret;exact ⟨aZ (by rw [HR.out];simp_all),(Below.refl _ _).alloc (Pk _) _⟩)
 have hr:jh ⟨op,a,b,c⟩=false:=by
  simp only [beq_eq_false_iff_ne,ne_eq] at h1 h2 h3 h4 h5;simp [jh,h1,h2,h3,h4,h5]
 have HR:=Lib.hid hr;clear hr
 go_enter Tryz.func119,Tryz.ntmps119
 go_wp2_with fail
 all_goals (go_ret;exact ⟨aZ (by rw [HR.out]),(Below.refl _ _).alloc (Pk _) _⟩)
theorem qL (x:Ins) (w:World) :
  Calls Tryz.prog 55 #[x.v] w λe w'=>e = .returned (.bool<|jh x)/\Below w.heap.size w w':=by
 obtain ⟨op,a,b,c⟩:=x;have hop:(op=1\/op=3)\/op=2\/op=4\/op=5\/((op==1)=false/\(op==3)=false/\(op==2)=false/\(op==4)=false/\(op==5)=false):=by
  simp only [beq_eq_false_iff_ne,ne_eq];omega
 unfold Ins.v;rcases hop with hop | rfl | rfl | rfl | ⟨h1,h2,h3,h4,h5⟩
 ·have hr:jh ⟨op,a,b,c⟩=(MM a 2&&MM b 2&&c==0):=by unfold jh;rw [if_pos hop]
  generalize ha:MM a 2=pa at *;generalize hb:MM b 2=pb at *;have HR:=Lib.hid hr;clear hr;have HA:=Lib.hid ha;clear ha;have HB:=Lib.hid hb;clear hb;rcases hop with rfl | rfl
  all_goals
   go_enter Tryz.func55,Tryz.ntmps55
   go_wp2_with fail
   go_region
   go_wp2_with (first
    | (go_at_call_of 47 (Value.int .i64 a);refine (dO a 0 2 _ HA.out _).mono ?_;rintro e w1 ⟨rfl,rfl⟩)
    | (go_at_call_of 47 (Value.int .i64 b);refine (dO b 0 2 _ HB.out _).mono ?_;rintro e w1 ⟨rfl,rfl⟩)
    | (go_at_call 47;refine (dO _ _ _ true (by decide) _).mono ?_;rintro e w1 ⟨rfl,rfl⟩))
   all_goals (first | (go_ret;exact ⟨aZ (by rw [HR.out];simp_all),(((Below.refl _ _).alloc (Pk _) _).alloc (by simp) _).drew⟩) | (go_ret;exact ⟨aZ (by rw [HR.out];simp_all),(((Below.refl _ _).alloc (Pk _) _).alloc (by simp) _)⟩))
 ·have hr:jh ⟨2,a,b,c⟩=(MM a 2&&b==0&&MM c 3):=rfl;generalize ha:MM a 2=pa at *;generalize hc:MM c 3=pc at *;have HR:=Lib.hid hr;clear hr;have HA:=Lib.hid ha;clear ha;have HC:=Lib.hid hc;clear hc
  go_enter Tryz.func55,Tryz.ntmps55
  go_wp2_with fail
  go_region
  go_wp2_with (first
   | (go_at_call_of 47 (Value.int .i64 a);refine (dO a 0 2 _ HA.out _).mono ?_;rintro e w1 ⟨rfl,rfl⟩)
   | (go_at_call_of 47 (Value.int .i64 c);refine (dO c 0 3 _ HC.out _).mono ?_;rintro e w1 ⟨rfl,rfl⟩)
   | (go_at_call 47;refine (dO _ _ _ true (by decide) _).mono ?_;rintro e w1 ⟨rfl,rfl⟩))
  all_goals (first | (go_ret;exact ⟨aZ (by rw [HR.out];simp_all),(((Below.refl _ _).alloc (Pk _) _).alloc (by simp) _).drew⟩) | (go_ret;exact ⟨aZ (by rw [HR.out];simp_all),(((Below.refl _ _).alloc (Pk _) _).alloc (by simp) _)⟩))
 ·have hr:jh ⟨4,a,b,c⟩=(a==0&&b==0&&c==0):=rfl;have HR:=Lib.hid hr;clear hr
  go_enter Tryz.func55,Tryz.ntmps55
  go_wp2_with (first
   | (go_at_call 47;refine (dO _ _ _ true (by decide) _).mono ?_;rintro e w1 ⟨rfl,rfl⟩))
  all_goals (first | (go_ret;exact ⟨aZ (by rw [HR.out];simp_all),(((Below.refl _ _).alloc (Pk _) _).alloc (by simp) _).drew⟩) | (go_ret;exact ⟨aZ (by rw [HR.out];simp_all),(((Below.refl _ _).alloc (Pk _) _).alloc (by simp) _)⟩))
 ·have hr:jh ⟨5,a,b,c⟩=(MM a 2&&MM b 2&&MM c 3):=rfl;generalize ha:MM a 2=pa at *;generalize hb:MM b 2=pb at *;generalize hc:MM c 3=pc at *;have HR:=Lib.hid hr;clear hr;have HA:=Lib.hid ha;clear ha;have HB:=Lib.hid hb;clear hb;have HC:=Lib.hid hc;clear hc
  go_enter Tryz.func55,Tryz.ntmps55
  go_wp2_with (first
   | (go_at_call_of 47 (Value.int .i64 a);refine (dO a 0 2 _ HA.out _).mono ?_;rintro e w1 ⟨rfl,rfl⟩)
   | (go_at_call_of 47 (Value.int .i64 b);refine (dO b 0 2 _ HB.out _).mono ?_;rintro e w1 ⟨rfl,rfl⟩)
   | (go_at_call_of 47 (Value.int .i64 c);refine (dO c 0 3 _ HC.out _).mono ?_;rintro e w1 ⟨rfl,rfl⟩))
  all_goals (first | (go_ret;exact ⟨aZ (by rw [HR.out];simp_all),(((Below.refl _ _).alloc (Pk _) _).alloc (by simp) _).drew⟩) | (go_ret;exact ⟨aZ (by rw [HR.out];simp_all),(((Below.refl _ _).alloc (Pk _) _).alloc (by simp) _)⟩))
 have hr:jh ⟨op,a,b,c⟩=false:=by
  simp only [beq_eq_false_iff_ne,ne_eq] at h1 h2 h3 h4 h5;simp [jh,h1,h2,h3,h4,h5]
 have HR:=Lib.hid hr;clear hr
 go_enter Tryz.func55,Tryz.ntmps55
 go_wp2_with fail
 all_goals (go_ret;exact ⟨aZ (by rw [HR.out]),(((Below.refl _ _).alloc (Pk _) _).alloc (by simp) _)⟩)
def rdO (o:Int):Bool:=o==1||o==5
def wrO (o:Int):Bool:=o==2||o==3||o==5
def rdB (x:Ins):Bool:=rdO x.op
def wrB (x:Ins):Bool:=wrO x.op
theorem Ey (op a b c:Int) (w:World):Calls Tryz.prog 78 #[.agg #[.int .i64 op,.int .i64 a,.int .i64 b,.int .i64 c]] w λe w'=>e = .returned (.bool<|rdO op)/\Below w.heap.size w w':=by
 unfold rdO
 go_enter Tryz.func78,Tryz.ntmps78
 go_wp2_with fail
 all_goals (go_ret;exact ⟨aZ (by simp_all),(Below.refl _ _).alloc (Pk _) _⟩)
theorem AJ (op a b c:Int) (w:World):Calls Tryz.prog 106 #[.agg #[.int .i64 op,.int .i64 a,.int .i64 b,.int .i64 c]] w λe w'=>e = .returned (.bool<|rdO op)/\Below w.heap.size w w':=by
 unfold rdO
 go_enter Tryz.func106,Tryz.ntmps106
 go_wp2_with fail
 all_goals (go_ret;exact ⟨aZ (by simp_all),(Below.refl _ _).alloc (Pk _) _⟩)
theorem CX (op a b c:Int) (w:World):Calls Tryz.prog 95 #[.agg #[.int .i64 op,.int .i64 a,.int .i64 b,.int .i64 c]] w λe w'=>e = .returned (.bool<|wrO op)/\Below w.heap.size w w':=by
 unfold wrO
 go_enter Tryz.func95,Tryz.ntmps95
 go_wp2_with fail
 all_goals (go_ret;exact ⟨aZ (by simp_all),(Below.refl _ _).alloc (Pk _) _⟩)
theorem zA (op a b c:Int) (w:World):Calls Tryz.prog 135 #[.agg #[.int .i64 op,.int .i64 a,.int .i64 b,.int .i64 c]] w λe w'=>e = .returned (.bool<|wrO op)/\Below w.heap.size w w':=by
 unfold wrO
 go_enter Tryz.func135,Tryz.ntmps135
 go_wp2_with fail
 all_goals (go_ret;exact ⟨aZ (by simp_all),(Below.refl _ _).alloc (Pk _) _⟩)
def mF (f:Ins->Bool) (p:List<|List Ins):Nat:=(p.map<|List.countP f).sum
theorem gy (f:Ins->Bool) (p:List<|List Ins) (k:Nat) (h:k<p.length):mF f (p.take<|k+1)=mF f (p.take k)+p[k].countP f:=by
 unfold mF;rw [nE _ _ h,List.map_append,List.sum_append];simp
theorem eC (f:Ins->Bool) (l:List Ins) (k:Nat) (h:k<l.length):(l.take<|k+1).countP f=(l.take k).countP f+if f l[k] then 1 else 0:=by
 rw [nE _ _ h,List.countP_append];simp [List.countP_cons]
theorem vJ (f:Ins->Bool) (p:List<|List Ins):mF f p<=total p:=by
 unfold mF total
 induction p with
 | nil=>simp
 | cons r p ih=>
  simp only [List.map_cons,List.sum_cons];have := PG (p:=f) (l:=r);omega
theorem jb (f:Ins->Bool) (p:List<|List Ins) (k j:Nat) (h:k<p.length):mF f (p.take k)+(p[k].take j).countP f<=total p:=by
 have h1:=vJ f<|p.take k;have h2:=PG (p:=f) (l:=p[k].take j);have h3:=List.length_take_le' j p[k];have h4:=oW p k h;have h5:=rL p<|k+1;omega
def cf (loc:Int) (f:Ins->Bool) (x:Ins):Bool:=x.loc==loc&&f x
theorem Ez {lo hi:Nat} {u:Value} {p:List (List Ins)} {w:World} {loc:Int} (hu:sj Ins.cells 4 w lo hi u p) (ht:total p<=1048576) :
  Calls Tryz.prog 120 #[u,.int .i64 loc,.bool true] w λe w'=>e = .returned (.int .i64<|mF (cf loc wrB) p)/\Below w.heap.size w w':=by
 obtain ⟨xs,hxs,hxl,hxr⟩:=hu;obtain ⟨A,ca,rfl,hca,hma,hA⟩:=hxs.vals;clear hxs;have HX:=Lib.hid hxl;clear hxl;have HXR:=Lib.hid hxr;clear hxr;have HAA:=Lib.hid hA;clear hA
 go_enter Tryz.func120,Tryz.ntmps120
 go_wp2_with fail
 go_loopw [7,8] (λn i wr=>∃ k:Nat,k<=xs.length/\i = .int .i64 k/\n = .int .i64 (mF (cf loc wrB)<|p.take k)/\Below w.heap.size w wr) (λ_ i _=>xs.length-(intOf i).toNat)
 case atStart=>exact ⟨0,Pm _,rfl,rfl,Below.refl _ _⟩
 case round=>
  obtain ⟨k,hk,rfl,rfl,hb⟩:=hrel
  by_cases hlt:k<xs.length
  ·obtain ⟨ba,oa,rfl,_,_,hba,hA⟩:=HAA.out (by omega);have hp:k<p.length:=HX.out ▸ hlt;obtain ⟨Ak,ck,hk1,hk2,hk3,hrow⟩:=(HXR.out k hlt hp).inss;have HROW:=Lib.hid hrow;clear hrow;have ca0:=hA k hlt;rw [hk1] at ca0;have CA:=Lib.hid ca0;clear hA hk1 ca0;have i1:(0:Int)<=(k:Int):=by omega
   have i2:(k:Int)<(xs.length:Int):=by omega
   have HT:=Lib.hid<|gy (cf loc wrB) p k hp;have HPL:=Lib.hid λj=>jb (cf loc wrB) p k j hp;obtain ⟨wo,rfl⟩:∃ wo:World,wo=wr:=⟨_,rfl⟩
   go_wp2_with fail
   go_loopw [7,9] (λn i w2=>∃ j:Nat,j<=p[k].length/\i = .int .i64 j/\n = .int .i64 (mF (cf loc wrB) (p.take k)+(p[k].take j).countP (cf loc wrB):Nat)/\Below w.heap.size w w2) (λ_ i _=>p[k].length-(intOf i).toNat)
   case atStart=>exact ⟨0,Pm _,rfl,by simp,hb⟩
   case round=>
    obtain ⟨j,hj,rfl,rfl,hb2⟩:=hrel;have c0:=(hb2.cell (p:=⟨ba,oa+k,none⟩) hba).trans CA.out;have hsm:mF (cf loc wrB) (p.take k)+(p[k].take j).countP (cf loc wrB)<=1048576:=Pp (HPL.out j) ht
    by_cases hlj:j<p[k].length
    ·obtain ⟨bb,ob,rfl,_,_,hbb,hB⟩:=HROW.out (by omega);obtain ⟨d1,d2,d3,d4⟩:=(hB j hlj).below hb2 hbb;have HS:=Lib.hid<|eC (cf loc wrB) p[k] j hlj;have j1:(0:Int)<=(j:Int):=by omega
     have j2:(j:Int)<(p[k].length:Int):=by omega
     clear hB
     go_wp2_with (go_at_call 135;refine (zA _ _ _ _ _).mono ?_;rintro e w3 ⟨rfl,hq⟩)
     ·have ef:cf loc wrB p[k][j]=true:=by simp [cf,wrB, *]
      go_roundw
      case rel=>
       have h:=HS.out;rw [if_pos ef] at h;exact ⟨j+1,by omega,by go_num,congrArg (Value.int .i64) (by omega),(hb2.alloc hb2.size _).trans<|hq.mono (by simp;have := hb2.size;omega)⟩
      case measure=>simp [intOf];omega
     ·have ef : ¬ cf loc wrB p[k][j]=true:=by simp [cf,wrB, *]
      go_roundw
      case rel=>
       have h:=HS.out;rw [if_neg ef] at h;exact ⟨j+1,by omega,by go_num,congrArg (Value.int .i64) (by omega),(hb2.alloc hb2.size _).trans<|hq.mono (by simp;have := hb2.size;omega)⟩
      case measure=>simp [intOf];omega
     have ef : ¬ cf loc wrB p[k][j]=true:=by simp [cf, *]
     go_roundw
     case rel=>
      have h:=HS.out;rw [if_neg ef] at h;exact ⟨j+1,by omega,by go_num,congrArg (Value.int .i64) (by omega),hb2.alloc hb2.size _⟩
     case measure=>simp [intOf];omega
    have hjx:p[k].take j=p[k]:=Pn (by omega);have HJ:=Lib.hid hjx;clear hjx
    go_wp2_with fail
    go_roundw
    case rel=>exact ⟨k+1,by omega,by go_num,congrArg (Value.int .i64) (by rw [HJ.out,HT.out]),hb2⟩
    case measure=>simp [intOf];omega
  have hkx:p.take k=p:=Pn (by rw [<- HX.out];omega);have HK:=Lib.hid hkx;clear hkx
  go_wp2_with fail
  go_ret
  exact ⟨sU (by rw [HK.out]),hb⟩
theorem EA {lo hi:Nat} {u:Value} {p:List (List Ins)} {w:World} {loc:Int} (hu:sj Ins.cells 4 w lo hi u p) (ht:total p<=1048576) :
  Calls Tryz.prog 120 #[u,.int .i64 loc,.bool false] w λe w'=>e = .returned (.int .i64<|mF (cf loc rdB) p)/\Below w.heap.size w w':=by
 obtain ⟨xs,hxs,hxl,hxr⟩:=hu;obtain ⟨A,ca,rfl,hca,hma,hA⟩:=hxs.vals;clear hxs;have HX:=Lib.hid hxl;clear hxl;have HXR:=Lib.hid hxr;clear hxr;have HAA:=Lib.hid hA;clear hA
 go_enter Tryz.func120,Tryz.ntmps120
 go_wp2_with fail
 go_loopw [7,8] (λn i wr=>∃ k:Nat,k<=xs.length/\i = .int .i64 k/\n = .int .i64 (mF (cf loc rdB)<|p.take k)/\Below w.heap.size w wr) (λ_ i _=>xs.length-(intOf i).toNat)
 case atStart=>exact ⟨0,Pm _,rfl,rfl,Below.refl _ _⟩
 case round=>
  obtain ⟨k,hk,rfl,rfl,hb⟩:=hrel
  by_cases hlt:k<xs.length
  ·obtain ⟨ba,oa,rfl,_,_,hba,hA⟩:=HAA.out (by omega);have hp:k<p.length:=HX.out ▸ hlt;obtain ⟨Ak,ck,hk1,hk2,hk3,hrow⟩:=(HXR.out k hlt hp).inss;have HROW:=Lib.hid hrow;clear hrow;have ca0:=hA k hlt;rw [hk1] at ca0;have CA:=Lib.hid ca0;clear hA hk1 ca0;have i1:(0:Int)<=(k:Int):=by omega
   have i2:(k:Int)<(xs.length:Int):=by omega
   have HT:=Lib.hid<|gy (cf loc rdB) p k hp;have HPL:=Lib.hid λj=>jb (cf loc rdB) p k j hp;obtain ⟨wo,rfl⟩:∃ wo:World,wo=wr:=⟨_,rfl⟩
   go_wp2_with fail
   go_loopw [7,9] (λn i w2=>∃ j:Nat,j<=p[k].length/\i = .int .i64 j/\n = .int .i64 (mF (cf loc rdB) (p.take k)+(p[k].take j).countP (cf loc rdB):Nat)/\Below w.heap.size w w2) (λ_ i _=>p[k].length-(intOf i).toNat)
   case atStart=>exact ⟨0,Pm _,rfl,by simp,hb⟩
   case round=>
    obtain ⟨j,hj,rfl,rfl,hb2⟩:=hrel;have c0:=(hb2.cell (p:=⟨ba,oa+k,none⟩) hba).trans CA.out;have hsm:mF (cf loc rdB) (p.take k)+(p[k].take j).countP (cf loc rdB)<=1048576:=Pp (HPL.out j) ht
    by_cases hlj:j<p[k].length
    ·obtain ⟨bb,ob,rfl,_,_,hbb,hB⟩:=HROW.out (by omega);obtain ⟨d1,d2,d3,d4⟩:=(hB j hlj).below hb2 hbb;have HS:=Lib.hid<|eC (cf loc rdB) p[k] j hlj;have j1:(0:Int)<=(j:Int):=by omega
     have j2:(j:Int)<(p[k].length:Int):=by omega
     clear hB
     go_wp2_with (go_at_call 106;refine (AJ _ _ _ _ _).mono ?_;rintro e w3 ⟨rfl,hq⟩)
     ·have ef:cf loc rdB p[k][j]=true:=by simp [cf,rdB, *]
      go_roundw
      case rel=>
       have h:=HS.out;rw [if_pos ef] at h;exact ⟨j+1,by omega,by go_num,congrArg (Value.int .i64) (by omega),(hb2.alloc hb2.size _).trans<|hq.mono (by simp;have := hb2.size;omega)⟩
      case measure=>simp [intOf];omega
     ·have ef : ¬ cf loc rdB p[k][j]=true:=by simp [cf,rdB, *]
      go_roundw
      case rel=>
       have h:=HS.out;rw [if_neg ef] at h;exact ⟨j+1,by omega,by go_num,congrArg (Value.int .i64) (by omega),(hb2.alloc hb2.size _).trans<|hq.mono (by simp;have := hb2.size;omega)⟩
      case measure=>simp [intOf];omega
     have ef : ¬ cf loc rdB p[k][j]=true:=by simp [cf, *]
     go_roundw
     case rel=>
      have h:=HS.out;rw [if_neg ef] at h;exact ⟨j+1,by omega,by go_num,congrArg (Value.int .i64) (by omega),hb2.alloc hb2.size _⟩
     case measure=>simp [intOf];omega
    have hjx:p[k].take j=p[k]:=Pn (by omega);have HJ:=Lib.hid hjx;clear hjx
    go_wp2_with fail
    go_roundw
    case rel=>exact ⟨k+1,by omega,by go_num,congrArg (Value.int .i64) (by rw [HJ.out,HT.out]),hb2⟩
    case measure=>simp [intOf];omega
  have hkx:p.take k=p:=Pn (by rw [<- HX.out];omega);have HK:=Lib.hid hkx;clear hkx
  go_wp2_with fail
  go_ret
  exact ⟨sU (by rw [HK.out]),hb⟩
def kO (n:Nat):Nat:=min n 3001
def fct:Nat->Nat
 | 0=>1
 | n+1=>fct n*(n+1)
theorem I0 (n:Nat):1<=fct n:=by
 induction n with
 | zero=>exact Pk _
 | succ n ih=>exact Pq ih (by omega)
def cw (p:List<|List Ins) (l:Int):Nat:=mF (cf l wrB) p
def cr (p:List<|List Ins) (l:Int):Nat:=mF (cf l rdB) p
def Ll (p:List<|List Ins) (l:Nat):Nat:=(cw p l+1) ^ (cr p l)*fct (cw p l)
def pT (p:List<|List Ins):Nat->Nat
 | 0=>1
 | l+1=>pT p l*Ll p l
def kV (p:List<|List Ins):Nat:=pT p 3
theorem yt {a b:Nat} (n:Nat) (h:kO a=kO b) (hn:1<=n):kO (a*n)=kO (b*n):=by
 unfold kO at *
 by_cases ha:a<3001
 ·have : a=b:=by omega
  rw [this]
 have h1:a<=a*n:=Px a hn;have h2:b<=b*n:=Px b hn;omega
theorem BL {a b n:Nat} (h:kO a=kO b) (ha:3000<a) (hn:1<=n):kO a=kO (b*n):=by
 unfold kO at *;have h2:b<=b*n:=Px b hn;omega
theorem EB {a i r:Nat} (h:i<=r):a ^ r=a ^ i*a ^ (r-i):=by rw [<- Nat.pow_add];congr 1;omega
theorem zB (i:Nat):∀ d,∃ q,1<=q/\fct (i+d)=fct i*q
 | 0=>⟨1,Pk _,by simp⟩
 | d+1=>by
  obtain ⟨q,hq,h⟩:=zB i d;exact ⟨q*(i+d+1),Pq hq (by omega),by rw [<- Nat.add_assoc,fct,h,Po]⟩
theorem EC {n a:Int} (h:n<=3000) (_:0<=n) (ha:a<=1048577) (ha0:0<=a):n*a<=3145731000:=by
 have : n*a<=3000*1048577:=Int.mul_le_mul h ha ha0 (by omega);omega
theorem ED {n a:Nat} (h:n<=3000) (ha:a<=1048577):n*a<=4000000000:=by
 have : n*a<=3000*1048577:=Nat.mul_le_mul h ha;omega
set_option maxHeartbeats 1000000 in
theorem AK {lo hi:Nat} {u:Value} {p:List (List Ins)} {w:World} (hu:sj Ins.cells 4 w lo hi u p) (hhi:hi<=w.heap.size) (ht:total p<=1048576) :
  Calls Tryz.prog 103 #[u,.int .i64 3000] w λe w'=>e = .returned (.int .i64<|kO<|kV p)/\Below w.heap.size w w':=by
 have HU:=Lib.hid hu;clear hu
 go_enter Tryz.func103,Tryz.ntmps103
 go_wp2_with fail
 go_loopw [5,6] (λsn sl wr=>∃ (l n:Nat),l<=3/\sl = .int .i64 l/\sn = .int .i64 n/\n<=4000000000/\1<=n/\kO n=kO (pT p l)/\Below w.heap.size w wr) (λ_ sl _=>3-(intOf sl).toNat)
 case atStart=>exact ⟨0,1,by omega,rfl,rfl,by omega,by omega,rfl,Below.refl _ _⟩
 case round=>
  obtain ⟨l,n,hl,rfl,rfl,hn,hn1,hcap,hb⟩:=hrel;have HC:=Lib.hid hcap;clear hcap
  by_cases hl3:l<3
  ·have hle:(l:Int)<=2:=by omega
   have HW:=Lib.hid (show pT p (l+1)=pT p l*((cw p l+1) ^ (cr p l)*fct (cw p l)) from rfl);have hcw:=vJ (cf (l:Int) wrB) p;have hcr:=vJ (cf (l:Int) rdB) p;have CW:=Lib.hid λW hs=>Ez (loc:=(l:Int)) (w:=W) (hs:sj Ins.cells 4 W lo hi u p) ht;have CR:=Lib.hid λW hs=>EA (loc:=(l:Int)) (w:=W) (hs:sj Ins.cells 4 W lo hi u p) ht;change cw p l<=total p at hcw;change cr p l<=total p at hcr;have CW2:Hid (∀ W,sj Ins.cells 4 W lo hi u p->Calls Tryz.prog 120 #[u,.int .i64 (l:Int),.bool true] W λe w'=>e = .returned (.int .i64<|cw p l)/\Below W.heap.size W w'):=CW.out;have CR2:Hid (∀ W,sj Ins.cells 4 W lo hi u p->Calls Tryz.prog 120 #[u,.int .i64 (l:Int),.bool false] W λe w'=>e = .returned (.int .i64<|cr p l)/\Below W.heap.size W w'):=CR.out;clear CW CR;generalize cw p l=a at *;generalize cr p l=r at *;obtain ⟨wo,rfl⟩:∃ wo:World,wo=wr:=⟨_,rfl⟩
   go_wp2_with fail
   refine (CW2.out _<|HU.out.below hb hhi).mono ?_;rintro e w1 ⟨rfl,hq1⟩;have hb1:Below w.heap.size w w1:=hb.trans<|hq1.mono hb.size;have ha1:(a:Int)<=1048576:=by omega
   go_wp2_with fail
   go_loopw [5,8] (λsn si w2=>∃ (i n:Nat),i<=r/\si = .int .i64 i/\sn = .int .i64 n/\n<=4000000000/\1<=n/\kO n=kO (pT p l*(a+1) ^ i)/\Below w.heap.size w w2) (λ_ si _=>r-(intOf si).toNat)
   case atStart=>exact ⟨0,n,Pm _,rfl,rfl,hn,hn1,by rw [HC.out];simp,hb1⟩
   case round=>
    obtain ⟨i,n,hi,rfl,rfl,hn,hn1,hcap,hb2⟩:=hrel;have HC1:=Lib.hid hcap;clear hcap
    by_cases hgo:i<r/\n<=3000
    ·obtain ⟨h1,h2⟩:=hgo;have h1':(i:Int)<(r:Int):=by omega
     have h2':(n:Int)<=3000:=by omega
     have hmul:n*(a+1)<=4000000000:=ED h2 (by omega);have hmul1:1<=n*(a+1):=Pq hn1 (by omega);have hmulI:(n:Int)*((a:Int)+1)<=3145731000:=EC h2' (by omega) (by omega) (by omega);have hmulI0:0<=(n:Int)*((a:Int)+1):=Py (by omega) (by omega);have HM:=Lib.hid hmul;clear hmul;have HM1:=Lib.hid hmul1;clear hmul1
     go_wp2_with (go_at_call 120;refine (CR2.out _<|HU.out.below hb2 hhi).mono ?_;rintro e w3 ⟨rfl,hq3⟩)
     go_roundw
     case rel=>
      refine ⟨i+1,n*(a+1),by omega,by go_num,by push_cast;rfl,HM.out,HM1.out,?_,hb2.trans<|hq3.mono hb2.size⟩;rw [Nat.pow_succ,<- Po];exact yt _ HC1.out (by omega)
     case measure=>simp [intOf];omega
    have hc2:kO n=kO (pT p l*(a+1) ^ r):=by
     by_cases h:i<r
     ·rw [EB hi,<- Po];exact BL HC1.out (by omega)<|Nat.pow_pos (by omega)
     have : i=r:=by omega
     rw [<- this];exact HC1.out
    have HC2:=Lib.hid hc2;clear hc2;have hor:((i:Int)<(r:Int) /\ ¬ (n:Int)<=3000) \/ ¬ (i:Int)<(r:Int):=by omega
    clear hgo;rcases hor with ⟨h1,h2⟩ | h1
    all_goals
     obtain ⟨wi,rfl⟩:∃ wi:World,wi=wr:=⟨_,rfl⟩
     go_wp2_with (go_at_call 120;refine (CR2.out _<|HU.out.below hb2 hhi).mono ?_;rintro e w3 ⟨rfl,hq3⟩)
     have hb3:Below w.heap.size w w3:=hb2.trans<|hq3.mono hb2.size
     go_loopw [5,9] (λsn si w4=>∃ (i n:Nat),2<=i/\i<=max 2 (a+1)/\si = .int .i64 i/\sn = .int .i64 n/\n<=4000000000/\1<=n/\kO n=kO (pT p l*(a+1) ^ r*fct (i-1))/\Below w.heap.size w w4) (λ_ si _=>a+3-(intOf si).toNat)
     case atStart=>exact ⟨2,n,Pk _,by omega,rfl,rfl,hn,hn1,by rw [HC2.out];simp [fct],hb3⟩
     case round=>
      obtain ⟨i,n,hi2,hi,rfl,rfl,hn,hn1,hcap,hb4⟩:=hrel;have HC3:=Lib.hid hcap;clear hcap
      by_cases hgo:i<=a/\n<=3000
      ·obtain ⟨h1,h2⟩:=hgo;have h1':(i:Int)<=(a:Int):=by omega
       have h2':(n:Int)<=3000:=by omega
       have hmul:n*i<=4000000000:=ED h2 (by omega);have hmul1:1<=n*i:=Pq hn1 (by omega);have hmulI:(n:Int)*(i:Int)<=3145731000:=EC h2' (by omega) (by omega) (by omega);have hmulI0:0<=(n:Int)*(i:Int):=Py (by omega) (by omega);have HM:=Lib.hid hmul;clear hmul;have HM1:=Lib.hid hmul1;clear hmul1
       go_wp2_with fail
       go_roundw
       case rel=>
        refine ⟨i+1,n*i,by omega,by omega,by go_num,by push_cast;rfl,HM.out,HM1.out,?_,hb4⟩;have : fct (i+1-1)=fct (i-1)*i:=by
         obtain ⟨q,rfl⟩:∃ q,i=q+1:=⟨i-1,by omega⟩
         rfl
        rw [this,<- Po];exact yt _ HC3.out (by omega)
       case measure=>simp [intOf];omega
      have hc4:kO n=kO (pT p<|l+1):=by
       rw [HW.out,<- Po]
       by_cases h:i<=a
       ·obtain ⟨q,hq,hf⟩:=zB (i-1)<|a-(i-1);rw [show i-1+(a-(i-1))=a from by omega] at hf;rw [hf,<- Po];exact BL HC3.out (by omega) hq
       have : fct (i-1)=fct a:=by
        by_cases ha0:a=0
        ·have : i=2:=by omega
         subst this ha0
         rfl
        congr 1;omega
       rw [<- this];exact HC3.out
      have HC4:=Lib.hid hc4;clear hc4;have hor:((i:Int)<=(a:Int) /\ ¬ (n:Int)<=3000) \/ ¬ (i:Int)<=(a:Int):=by omega
      clear hgo;rcases hor with ⟨h1,h2⟩ | h1
      all_goals
       go_wp2_with fail
       go_roundw
       case rel=>exact ⟨l+1,n,by omega,by go_num,rfl,hn,hn1,HC4.out,hb4⟩
       case measure=>simp [intOf];omega
  have hl4:l=3:=by omega
  subst hl4
  by_cases hbig:n<=3000
  ·have hfin:n=kO (kV p):=by
    have := HC.out;unfold kV kO at *;omega
   have HF:=Lib.hid hfin;clear hfin;have hb' : ¬ (3000:Int)<(n:Int):=by omega
   go_wp2_with fail
   go_ret
   exact ⟨sU (by rw [<- HF.out]),hb⟩
  have hfin:3001=kO (kV p):=by
   have := HC.out;unfold kV kO at *;omega
  have HF:=Lib.hid hfin;clear hfin;have hb':(3000:Int)<(n:Int):=by omega
  go_wp2_with fail
  go_ret
  exact ⟨sU (by rw [<- HF.out];rfl),hb⟩
theorem xD (g a n:Nat) (t:TypeId) (w:World) (hB:ML w g t #[.int .i64 a]) (ha:a<=3001) (hn:n<=1048577) :
  Calls Tryz.prog 94 #[.int .i64 n,.pointer (some ⟨g,0,none⟩)] w λe w'=>e = .returned (.tuple #[])/\w.setCell ⟨g,0,none⟩ (.int .i64 (kO (a*n):Nat))=w':=by
 have h1:(a:Int)*(n:Int)<=4000000000:=by
  have : (a:Int)*n<=3001*1048577:=Int.mul_le_mul (by omega) (by omega) (by omega) (by omega);omega
 have h0:0<=(a:Int)*(n:Int):=Py (by omega) (by omega);have c:=hB.cell 0;have f:=hB.frozen 0;have hc:w.cell? ⟨g,0,none⟩=some (.int .i64 a):=c;clear c hB
 go_enter Tryz.func94,Tryz.ntmps94
 go_wp2_with fail
 ·have hv:((kO (a*n):Nat):Int)=3001:=by
   have : ((a*n:Nat):Int)=(a:Int)*(n:Int):=by push_cast;rfl
   unfold kO;omega
  go_end0
  exact ⟨rfl,by rw [hv]⟩
 have hv:((kO (a*n):Nat):Int)=(a:Int)*(n:Int):=by
  have : ((a*n:Nat):Int)=(a:Int)*(n:Int):=by push_cast;rfl
  unfold kO;omega
 go_end0
 exact ⟨rfl,by rw [hv]⟩
theorem EE (n:Nat):kO n<=3001:=Nat.min_le_right _ _
theorem zC (a n:Nat) (hn:1<=n):kO (kO a*n)=kO (a*n):=yt n (by unfold kO;omega) hn
set_option maxHeartbeats 2000000 in
theorem EF {lo hi:Nat} {u:Value} {p:List (List Ins)} {w:World} (hu:sj Ins.cells 4 w lo hi u p) (ht:total p<=1048576) :
    Calls Tryz.prog 56 #[u] w λe w'=>e = .returned (.int .i64<|kO<|kV p)/\Below w.heap.size w w':=by
  obtain ⟨xs,hxs,hxl,hxr⟩:=hu;obtain ⟨A,ca,rfl,hca,hma,hA⟩:=hxs.vals;clear hxs;have HX:=Lib.hid hxl;clear hxl;have HXR:=Lib.hid hxr;clear hxr;have HAA:=Lib.hid hA;clear hA
  go_enter Tryz.func56,Tryz.ntmps56
  go_wp2_with fail
  go_loopw [14] (λsl wr=>∃ (l:Nat),l<=3/\sl = .int .i64 l/\ML wr w.heap.size 3 #[.int .i64 (kO (pT p l):Nat)]/\Below w.heap.size w wr) (λsl _=>3-(intOf sl).toNat)
  case atStart=>exact ⟨0,by omega,rfl,ML.new _ _ _,(Below.refl _ _).alloc (Pk _) _⟩
  case round=>
    obtain ⟨l,hl,rfl,hB,hb⟩:=hrel;have HB:=Lib.hid hB;clear hB;have hgl:=HB.out.lt
    by_cases hl3:l<3
    · have HW:=Lib.hid (show pT p (l+1)=pT p l*((cw p l+1) ^ (cr p l)*fct (cw p l)) from rfl);obtain ⟨wo,rfl⟩:∃ wo:World,wo=wr:=⟨_,rfl⟩;have hl3':(l:Int)<3:=by omega
      go_wp2_with fail
      go_loopw [6,7,19] (λsr sw i w1=>∃ k:Nat,k<=xs.length/\i = .int .i64 k/\sr = .int .i64 (mF (cf l rdB)<|p.take k)/\sw = .int .i64 (mF (cf l wrB)<|p.take k)/\Below wo.heap.size wo w1) (λ_ _ i _=>xs.length-(intOf i).toNat)
      case atStart=>exact ⟨0,Pm _,rfl,rfl,rfl,Below.refl _ _⟩
      case round=>
        obtain ⟨k,hk,rfl,rfl,rfl,hb1⟩:=hrel;have hbw:=hb.trans<|hb1.mono hb.size
        by_cases hlt:k<xs.length
        · obtain ⟨ba,oa,rfl,_,_,hba,hA⟩:=HAA.out (by omega);have hp:k<p.length:=HX.out ▸ hlt;obtain ⟨Ak,ck,hk1,hk2,hk3,hrow⟩:=(HXR.out k hlt hp).inss;have HROW:=Lib.hid hrow;clear hrow;have ca0:=(hbw.cell (p:=⟨ba,oa+k,none⟩) hba).trans<|hA k hlt;rw [hk1] at ca0;clear hA hk1;have i1:(0:Int)<=(k:Int):=by omega
          have i2:(k:Int)<(xs.length:Int):=by omega
          have HTr:=Lib.hid<|gy (cf l rdB) p k hp;have HTw:=Lib.hid<|gy (cf l wrB) p k hp;have HPr:=Lib.hid λj=>jb (cf l rdB) p k j hp;have HPw:=Lib.hid λj=>jb (cf l wrB) p k j hp;obtain ⟨w1,rfl⟩:∃ w1:World,w1=wr:=⟨_,rfl⟩
          go_wp2_with fail
          go_loopw [6,7,25] (λsr sw i w2=>∃ j:Nat,j<=p[k].length/\i = .int .i64 j/\sr = .int .i64 (mF (cf l rdB) (p.take k)+(p[k].take j).countP (cf l rdB):Nat)/\sw = .int .i64 (mF (cf l wrB) (p.take k)+(p[k].take j).countP (cf l wrB):Nat)/\Below w1.heap.size w1 w2) (λ_ _ i _=>p[k].length-(intOf i).toNat)
          case atStart=>exact ⟨0,Pm _,rfl,by simp,by simp,Below.refl _ _⟩
          case round=>
            obtain ⟨j,hj,rfl,rfl,rfl,hb2⟩:=hrel;have hbw2:=hbw.trans<|hb2.mono hbw.size;have hsm1:mF (cf l rdB) (p.take k)+(p[k].take j).countP (cf l rdB)<=1048576:=Pp (HPr.out j) ht;have hsm2:mF (cf l wrB) (p.take k)+(p[k].take j).countP (cf l wrB)<=1048576:=Pp (HPw.out j) ht
            by_cases hlj:j<p[k].length
            · obtain ⟨bb,ob,rfl,_,_,hbb,hBB⟩:=HROW.out (by omega);obtain ⟨d1,d2,d3,d4⟩:=(hBB j hlj).below hbw2 hbb;have HSr:=Lib.hid<|eC (cf l rdB) p[k] j hlj;have HSw:=Lib.hid<|eC (cf l wrB) p[k] j hlj;have j1:(0:Int)<=(j:Int):=by omega
              have j2:(j:Int)<(p[k].length:Int):=by omega
              clear hBB
              go_wp2_with (first
                | (go_at_call 78;refine (Ey _ _ _ _ _).mono ?_;rintro e w3 ⟨rfl,hq⟩;have z0:=hq.cell (p:=⟨wr.heap.size,0,none⟩) (by simp);have z1:=hq.cell (p:=⟨wr.heap.size,1,none⟩) (by simp);have z2:=hq.cell (p:=⟨wr.heap.size,2,none⟩) (by simp);have z3:=hq.cell (p:=⟨wr.heap.size,3,none⟩)<|by simp)
                | (go_at_call 95;refine (CX _ _ _ _ _).mono ?_;rintro e w4 ⟨rfl,hq2⟩))
              all_goals
                have hr:=HSr.out;have hw:=HSw.out
                first
                  | (have ef:cf (l:Int) rdB p[k][j]=true:=by simp [cf,rdB, *]
                     rw [if_pos ef] at hr)
                  | (have ef : ¬ cf (l:Int) rdB p[k][j]=true:=by simp [cf,rdB, *]
                     rw [if_neg ef] at hr)
                first
                  | (have ef:cf (l:Int) wrB p[k][j]=true:=by simp [cf,wrB, *]
                     rw [if_pos ef] at hw)
                  | (have ef : ¬ cf (l:Int) wrB p[k][j]=true:=by simp [cf,wrB, *]
                     rw [if_neg ef] at hw)
                go_roundw
                case rel=>
                  have hsz:=hb2.size;refine ⟨j+1,by omega,by go_num,congrArg (Value.int .i64) (by omega),congrArg (Value.int .i64) (by omega),?_⟩
                  first
                    | exact hb2.alloc hb2.size _
                    | exact ((hb2.alloc hb2.size _).trans<|hq.mono<|by simp;omega).trans (hq2.mono (by have := hq.size;simp at this;omega))
                case measure=>simp [intOf];omega
            have hjx:p[k].take j=p[k]:=Pn (by omega);have HJ:=Lib.hid hjx;clear hjx
            go_wp2_with fail
            go_roundw
            case rel=>exact ⟨k+1,by omega,by go_num,congrArg (Value.int .i64) (by rw [HJ.out,HTr.out]),congrArg (Value.int .i64) (by rw [HJ.out,HTw.out]),hb1.trans<|hb2.mono hb1.size⟩
            case measure=>simp [intOf];omega
        have hkx:p.take k=p:=Pn (by rw [<- HX.out];omega);have B1:=HB.out.below hb1 hgl;have hcw:=vJ (cf (l:Int) wrB) p;have hcr:=vJ (cf (l:Int) rdB) p;have er:mF (cf (l:Int) rdB) (p.take k)=cr p l:=by rw [hkx];rfl
        have ew:mF (cf (l:Int) wrB) (p.take k)=cw p l:=by rw [hkx];rfl
        rw [er,ew];change cw p l<=total p at hcw;change cr p l<=total p at hcr;clear er ew hkx;generalize cw p l=a at *;generalize cr p l=r at *;have BB1:=Lib.hid B1;clear B1;have ha1:(a:Int)<=1048576:=by omega
        have hr1:(r:Int)<=1048576:=by omega
        go_wp2_with fail
        go_loopw [52] (λsi w4=>∃ (i:Nat),i<=r/\si = .int .i64 i/\ML w4 w.heap.size 3 #[.int .i64 (kO (pT p l*(a+1) ^ i):Nat)]/\Below w.heap.size w w4) (λsi _=>r-(intOf si).toNat)
        case atStart=>exact ⟨0,Pm _,rfl,by simpa using BB1.out,hbw⟩
        case round=>
          obtain ⟨i,hi,rfl,hBi,hb4⟩:=hrel;have HBi:=Lib.hid hBi;clear hBi
          by_cases hir:i<r
          · have hir':(i:Int)<(r:Int):=by omega
            have hc3:kO (pT p l*(a+1) ^ i)<=3001:=EE _;have hstep:kO (kO (pT p l*(a+1) ^ i)*(a+1))=kO (pT p l*(a+1) ^ (i+1)):=by rw [zC _ _ (by omega),Nat.pow_succ,Po]
            have HST:=Lib.hid hstep;clear hstep;have hcast:((a+1:Nat):Int)=(a:Int)+1:=by push_cast;rfl
            have EX:=xD w.heap.size (kO<|pT p l*(a+1) ^ i) (a+1) 3 wr HBi.out hc3 (by omega);rw [hcast] at EX;have HEX:=Lib.hid EX;clear EX hcast hc3
            go_wp2_with (go_at_call 94;refine HEX.out.mono ?_;rintro e w5 ⟨rfl,rfl⟩)
            go_roundw
            case rel=>exact ⟨i+1,by omega,by go_num,by rw [<- HST.out];exact HBi.out.set_ 0 _,hb4.setCell (by simp) _⟩
            case measure=>simp [intOf];omega
          have hix:i=r:=by omega
          subst hix
          go_wp2_with fail
          go_loopw [60] (λsi w4=>∃ (j:Nat),j<=a/\si = .int .i64 j/\ML w4 w.heap.size 3 #[.int .i64 (kO (pT p l*(a+1) ^ i*fct j):Nat)]/\Below w.heap.size w w4) (λsi _=>a-(intOf si).toNat)
          case atStart=>exact ⟨0,Pm _,rfl,by simpa [fct] using HBi.out,hb4⟩
          case round=>
            obtain ⟨j,hj,rfl,hBj,hb5⟩:=hrel;have HBj:=Lib.hid hBj;clear hBj
            by_cases hja:j<a
            · have hja':(j:Int)<(a:Int):=by omega
              have hc3:kO (pT p l*(a+1) ^ i*fct j)<=3001:=EE _;have hstep:kO (kO (pT p l*(a+1) ^ i*fct j)*(j+1))=kO (pT p l*(a+1) ^ i*fct (j+1)):=by rw [zC _ _ (by omega),fct,<- Po]
              have HST:=Lib.hid hstep;clear hstep;have hcast:((j+1:Nat):Int)=(j:Int)+1:=by push_cast;rfl
              have EX:=xD w.heap.size (kO<|pT p l*(a+1) ^ i*fct j) (j+1) 3 wr HBj.out hc3 (by omega);rw [hcast] at EX;have HEX:=Lib.hid EX;clear EX hcast hc3
              go_wp2_with (go_at_call 94;refine HEX.out.mono ?_;rintro e w5 ⟨rfl,rfl⟩)
              go_roundw
              case rel=>exact ⟨j+1,by omega,by go_num,by rw [<- HST.out];exact HBj.out.set_ 0 _,hb5.setCell (by simp) _⟩
              case measure=>simp [intOf];omega
            have hjx:j=a:=by omega
            subst hjx
            go_wp2_with fail
            go_roundw
            case rel=>exact ⟨l+1,by omega,by go_num,by rw [HW.out,<- Po];exact HBj.out,hb5⟩
            case measure=>simp [intOf];omega
    have hl4:l=3:=by omega
    subst hl4;have c0:=HB.out.cell 0;have c1:wr.cell? ⟨w.heap.size,0,none⟩=some (.int .i64 (kO (pT p 3):Nat)):=c0;clear c0
    go_wp2_with fail
    go_ret
    exact ⟨sU rfl,hb⟩
def p9 (x:Ins):Bool:=x.op != 4
def rowOk (r:List Ins):Bool:=decide (r.length<=7)&&r.all jh
def mb (p:List<|List Ins):Bool:=decide (p.length<=3)&&p.all rowOk&&decide (mF p9 p<=12)
def dh (p:List<|List Ins):Bool:=mb p&&decide (0<p.length)&&decide (kV p<=3000)
theorem tj {p:List (List Ins)} (k:Nat) (h:k<p.length) (hb:rowOk p[k]=false):mb p=false:=by
 have : p.all rowOk=false:=by
  rw [List.all_eq_false];exact ⟨p[k],List.getElem_mem h,by rw [hb];simp⟩
 simp [mb,this]
theorem xE {r:List Ins} (h:7<r.length):rowOk r=false:=by
 simp [rowOk];omega
theorem zD {r:List Ins} (j:Nat) (h:j<r.length) (hb:jh r[j]=false):rowOk r=false:=by
 have : r.all jh=false:=by
  rw [List.all_eq_false];exact ⟨r[j],List.getElem_mem h,by rw [hb];simp⟩
 simp [rowOk,this]
theorem xH {r:List Ins} (h:r.length<=7) (hg:∀ j (h:j<r.length),jh r[j]=true):rowOk r=true:=by
 simp only [rowOk,bae,dte,List.all_eq_true];refine ⟨h,λx hx=>?_⟩;obtain ⟨j,hj,rfl⟩:=PH hx;exact hg j hj
theorem vK {p:List (List Ins)} (h:p.length<=3) (hg:∀ j (h:j<p.length),rowOk p[j]=true):mb p=decide (mF p9 p<=12):=by
 have : p.all rowOk=true:=by
  rw [List.all_eq_true];intro x hx;obtain ⟨j,hj,rfl⟩:=PH hx;exact hg j hj
 simp [mb,this,h]
set_option maxHeartbeats 1000000 in
theorem vL {lo hi:Nat} {u:Value} {p:List (List Ins)} {w:World} (hu:sj Ins.cells 4 w lo hi u p) (ht:total p<=1048576) :
    Calls Tryz.prog 102 #[u] w λe w'=>e = .returned (.bool<|mb p)/\Below w.heap.size w w':=by
  obtain ⟨xs,hxs,hxl,hxr⟩:=hu;obtain ⟨A,ca,rfl,hca,hma,hA⟩:=hxs.vals;clear hxs;have HX:=Lib.hid hxl;clear hxl;have HXR:=Lib.hid hxr;clear hxr;have HAA:=Lib.hid hA;clear hA
  by_cases h3:xs.length<=3
  · have h3' : ¬ (3:Int)<(xs.length:Int):=by omega
    go_enter Tryz.func102,Tryz.ntmps102
    go_wp2_with fail
    go_loopw [3,4] (λn i wr=>∃ k:Nat,k<=xs.length/\i = .int .i64 k/\n = .int .i64 (mF p9<|p.take k)/\(∀ q (h:q<p.length),q<k->rowOk p[q]=true)/\Below w.heap.size w wr) (λ_ i _=>xs.length-(intOf i).toNat)
    case atStart=>exact ⟨0,Pm _,rfl,rfl,λq _ h=>absurd h (by omega),Below.refl _ _⟩
    case round=>
      obtain ⟨k,hk,rfl,rfl,hgood,hb⟩:=hrel;have HG:=Lib.hid hgood;clear hgood
      by_cases hlt:k<xs.length
      · obtain ⟨ba,oa,rfl,_,_,hba,hA⟩:=HAA.out (by omega);have hp:k<p.length:=HX.out ▸ hlt;obtain ⟨Ak,ck,hk1,hk2,hk3,hrow⟩:=(HXR.out k hlt hp).inss;have HROW:=Lib.hid hrow;clear hrow;have ca0:=hA k hlt;rw [hk1] at ca0;have CA:=Lib.hid ca0;have c00:=(hb.cell (p:=⟨ba,oa+k,none⟩) hba).trans ca0;clear hA hk1 ca0;have i1:(0:Int)<=(k:Int):=by omega
        have i2:(k:Int)<(xs.length:Int):=by omega
        have HT:=Lib.hid<|gy p9 p k hp;have HPL:=Lib.hid λj=>jb p9 p k j hp;obtain ⟨wo,rfl⟩:∃ wo:World,wo=wr:=⟨_,rfl⟩
        by_cases h7:p[k].length<=7
        · have h7' : ¬ (7:Int)<(p[k].length:Int):=by omega
          go_wp2_with fail
          go_loopw [3,5] (λn i w2=>∃ j:Nat,j<=p[k].length/\i = .int .i64 j/\n = .int .i64 (mF p9 (p.take k)+(p[k].take j).countP p9:Nat)/\(∀ q (h:q<p[k].length),q<j->jh p[k][q]=true)/\Below w.heap.size w w2) (λ_ i _=>p[k].length-(intOf i).toNat)
          case atStart=>exact ⟨0,Pm _,rfl,by simp,λq _ h=>absurd h (by omega),hb⟩
          case round=>
            obtain ⟨j,hj,rfl,rfl,hgj,hb2⟩:=hrel;have HGJ:=Lib.hid hgj;clear hgj;have c0:=(hb2.cell (p:=⟨ba,oa+k,none⟩) hba).trans CA.out;have hsm:mF p9 (p.take k)+(p[k].take j).countP p9<=1048576:=Pp (HPL.out j) ht
            by_cases hlj:j<p[k].length
            · obtain ⟨bb,ob,rfl,_,_,hbb,hB⟩:=HROW.out (by omega);obtain ⟨d1,d2,d3,d4⟩:=(hB j hlj).below hb2 hbb;have HS:=Lib.hid<|eC p9 p[k] j hlj;have j1:(0:Int)<=(j:Int):=by omega
              have j2:(j:Int)<(p[k].length:Int):=by omega
              clear hB c00
              go_wp2_with fail
              refine (qK p[k][j] _).mono ?_;rintro e w3 ⟨rfl,hq⟩;have e0:=(hq.cell (p:=⟨ba,oa+k,none⟩)<|Nat.lt_of_lt_of_le hba hb2.size).trans c0;have e1:=(hq.cell (p:=⟨bb,ob+j*4,none⟩)<|Nat.lt_of_lt_of_le hbb hb2.size).trans d1;have hb3:=hb2.trans<|hq.mono hb2.size
              by_cases hok:jh p[k][j]=true
              · go_wp2_with fail
                all_goals
                  have h:=HS.out
                  first
                    | (have ef:p9 p[k][j]=true:=by simpa [p9] using ‹(p[k][j].op != 4)=true›
                       rw [if_pos ef] at h)
                    | (have ef : ¬ p9 p[k][j]=true:=by simpa [p9] using ‹(p[k][j].op != 4)=false›
                       rw [if_neg ef] at h)
                  go_roundw
                  case rel=>
                    refine ⟨j+1,by omega,by go_num,congrArg (Value.int .i64) (by omega),λq hq hqj=>?_,hb3⟩
                    by_cases e:q=j
                    · subst e;exact hok
                    exact HGJ.out q hq (by omega)
                  case measure=>simp [intOf];omega
              have hok':jh p[k][j]=false:=by simpa using hok
              have hbad:=tj k hp<|zD j hlj hok';have HBAD:=Lib.hid hbad;clear hok hbad
              go_wp2_with fail
              go_ret
              exact ⟨aZ (by rw [HBAD.out]),hb3⟩
            have hjx:p[k].take j=p[k]:=Pn (by omega);have HJ:=Lib.hid hjx;clear hjx;have hrk:rowOk p[k]=true:=xH h7 λq hq=>HGJ.out q hq (by omega);have HRK:=Lib.hid hrk;clear hrk
            go_wp2_with fail
            go_roundw
            case rel=>
              refine ⟨k+1,by omega,by go_num,congrArg (Value.int .i64) (by rw [HJ.out,HT.out]),λq hq hqk=>?_,hb2⟩
              by_cases e:q=k
              · subst e;exact HRK.out
              exact HG.out q hq (by omega)
            case measure=>simp [intOf];omega
        have h7':(7:Int)<(p[k].length:Int):=by omega
        have HBAD:=Lib.hid<|tj k hp<|xE (by omega);clear h7
        go_wp2_with fail
        go_ret
        exact ⟨aZ (by rw [HBAD.out]),hb⟩
      have hkx:p.take k=p:=Pn (by rw [<- HX.out];omega);have hsh:=vK (p:=p) (by rw [<- HX.out];exact h3) λq hq=>HG.out q hq (by rw [<- HX.out] at hq;omega);have HK:=Lib.hid hkx;clear hkx;have HS:=Lib.hid hsh;clear hsh
      go_wp2_with fail
      go_ret
      exact ⟨aZ (by rw [HS.out,HK.out];exact decide_eq_decide.2<|by omega),hb⟩
  have h3':(3:Int)<(xs.length:Int):=by omega
  have hsh:mb p=false:=by
    have := HX.out;simp [mb];omega
  have HS:=Lib.hid hsh;clear h3 hsh
  go_enter Tryz.func102,Tryz.ntmps102
  go_wp2_with fail
  go_ret
  exact ⟨aZ (by rw [HS.out]),Below.refl _ _⟩
theorem vM (n:Nat):decide (((kO n:Nat):Int)<=3000)=decide (n<=3000):=by
 unfold kO;simp only [decide_eq_decide];omega
theorem kF {lo hi:Nat} {u:Value} {p:List (List Ins)} {w:World} (hu:sj Ins.cells 4 w lo hi u p) (hhi:hi<=w.heap.size) (ht:total p<=1048576) :
  Calls Tryz.prog 68 #[u] w λe w'=>e = .returned (.bool<|dh p)/\Below w.heap.size w w':=by
 have HU:=Lib.hid hu;obtain ⟨xs,hxs,hxl,hxr⟩:=hu;obtain ⟨A,ca,rfl,hca,hma,hA⟩:=hxs.vals;clear hxs hxr hA;have HX:=Lib.hid hxl;clear hxl;have hv:dh p=(mb p&&decide (0<xs.length)&&decide (kV p<=3000)):=by rw [HX.out];rfl
 have HV:=Lib.hid hv;clear hv;have hc:=vM<|kV p;have HCC:=Lib.hid hc;clear hc
 cases hs:mb p with
 | false=>
  have SH:=Lib.hid<|vL (w:=w) HU.out ht;rw [hs] at SH;have HS:=Lib.hid hs;clear hs
  go_enter Tryz.func68,Tryz.ntmps68
  go_wp2_with (first | (go_at_call 102;refine SH.out.mono ?_;rintro e w1 ⟨rfl,hb⟩))
  go_ret
  exact ⟨aZ (by rw [HV.out,HS.out];rfl),hb⟩
 | true=>
  have SH:=Lib.hid<|vL (w:=w) HU.out ht;rw [hs] at SH;have HS:=Lib.hid hs;clear hs
  by_cases h0:(0:Int)<(xs.length:Int)
  ·go_enter Tryz.func68,Tryz.ntmps68
   go_wp2_with (first | (go_at_call 102;refine SH.out.mono ?_;rintro e w1 ⟨rfl,hb⟩) | (go_at_call 103;refine (AK (HU.out.below hb hhi) (Pp hhi hb.size) ht).mono ?_;rintro e w2 ⟨rfl,hb2⟩))
   all_goals
    go_ret
    refine ⟨aZ ?_,hb.trans<|hb2.mono hb.size⟩;rw [HV.out,HS.out];have := HCC.out
    simp_all
  go_enter Tryz.func68,Tryz.ntmps68
  go_wp2_with (first | (go_at_call 102;refine SH.out.mono ?_;rintro e w1 ⟨rfl,hb⟩))
  go_ret
  refine ⟨aZ ?_,hb⟩;rw [HV.out,HS.out];simp;omega
theorem xJ {p:List (List Ins)} (k:Nat) (h:k<p.length) (hb:rowOk p[k]=false):dh p=false:=by
 simp [dh,tj k h hb]
set_option maxHeartbeats 1000000 in
theorem kG {lo hi:Nat} {u:Value} {p:List (List Ins)} {w:World} (hu:sj Ins.cells 4 w lo hi u p) (hhi:hi<=w.heap.size) (ht:total p<=1048576) :
    Calls Tryz.prog 16 #[u] w λe w'=>e = .returned (.bool<|dh p)/\Below w.heap.size w w':=by
  have HU:=Lib.hid hu;obtain ⟨xs,hxs,hxl,hxr⟩:=hu;obtain ⟨A,ca,rfl,hca,hma,hA⟩:=hxs.vals;clear hxs;have HX:=Lib.hid hxl;clear hxl;have HXR:=Lib.hid hxr;clear hxr;have HAA:=Lib.hid hA;clear hA
  by_cases h3:1<=xs.length/\xs.length<=3
  · obtain ⟨h1,h3⟩:=h3
    go_enter Tryz.func16,Tryz.ntmps16
    go_wp2_with (go_at_call 47;refine (dO _ _ _ true (by simp;omega) _).mono ?_;rintro e w1 ⟨rfl,rfl⟩)
    go_loopw [3,14] (λn i wr=>∃ k:Nat,k<=xs.length/\i = .int .i64 k/\n = .int .i64 (mF p9<|p.take k)/\(∀ q (h:q<p.length),q<k->rowOk p[q]=true)/\Below w.heap.size w wr) (λ_ i _=>xs.length-(intOf i).toNat)
    case atStart=>exact ⟨0,Pm _,rfl,rfl,λq _ h=>absurd h (by omega),Below.refl _ _⟩
    case round=>
      obtain ⟨k,hk,rfl,rfl,hgood,hb⟩:=hrel;have HG:=Lib.hid hgood;clear hgood
      by_cases hlt:k<xs.length
      · obtain ⟨ba,oa,rfl,_,_,hba,hA⟩:=HAA.out (by omega);have hp:k<p.length:=HX.out ▸ hlt;obtain ⟨Ak,ck,hk1,hk2,hk3,hrow⟩:=(HXR.out k hlt hp).inss;have HROW:=Lib.hid hrow;clear hrow;have ca0:=hA k hlt;rw [hk1] at ca0;have c00:=(hb.cell (p:=⟨ba,oa+k,none⟩) hba).trans ca0;clear hA hk1 ca0;have i1:(0:Int)<=(k:Int):=by omega
        have i2:(k:Int)<(xs.length:Int):=by omega
        have HT:=Lib.hid<|gy p9 p k hp;have HPL:=Lib.hid λj=>jb p9 p k j hp;obtain ⟨wo,rfl⟩:∃ wo:World,wo=wr:=⟨_,rfl⟩
        go_wp2_with fail
        clear c00
        go_loopw [3,20] (λn i w2=>∃ j:Nat,j<=p[k].length/\i = .int .i64 j/\n = .int .i64 (mF p9 (p.take k)+(p[k].take j).countP p9:Nat)/\(∀ q (h:q<p[k].length),q<j->jh p[k][q]=true)/\Below w.heap.size w w2) (λ_ i _=>p[k].length-(intOf i).toNat)
        case atStart=>exact ⟨0,Pm _,rfl,by simp,λq _ h=>absurd h (by omega),hb⟩
        case round=>
          obtain ⟨j,hj,rfl,rfl,hgj,hb2⟩:=hrel;have HGJ:=Lib.hid hgj;clear hgj;have hsm:mF p9 (p.take k)+(p[k].take j).countP p9<=1048576:=Pp (HPL.out j) ht
          by_cases hlj:j<p[k].length
          · obtain ⟨bb,ob,rfl,_,_,hbb,hB⟩:=HROW.out (by omega);obtain ⟨d1,d2,d3,d4⟩:=(hB j hlj).below hb2 hbb;have HS:=Lib.hid<|eC p9 p[k] j hlj;have j1:(0:Int)<=(j:Int):=by omega
            have j2:(j:Int)<(p[k].length:Int):=by omega
            clear hB
            go_wp2_with fail
            refine (qL p[k][j] _).mono ?_;rintro e w3 ⟨rfl,hq⟩;have z0:=hq.cell (p:=⟨wr.heap.size,0,none⟩) (by simp);have hb3:=(hb2.alloc hb2.size<|.cells #[.int .i64 p[k][j].op,.int .i64 p[k][j].loc,.int .i64 p[k][j].reg,.int .i64 p[k][j].val] 69).trans<|hq.mono (by simp;have := hb2.size;omega)
            by_cases hok:jh p[k][j]=true
            · go_wp2_with fail
              all_goals
                have h:=HS.out
                first
                  | (have ef:p9 p[k][j]=true:=by simpa [p9] using ‹(p[k][j].op != 4)=true›
                     rw [if_pos ef] at h)
                  | (have ef : ¬ p9 p[k][j]=true:=by simpa [p9] using ‹(p[k][j].op != 4)=false›
                     rw [if_neg ef] at h)
                go_roundw
                case rel=>
                  refine ⟨j+1,by omega,by go_num,congrArg (Value.int .i64) (by omega),λq hq hqj=>?_,hb3⟩
                  by_cases e:q=j
                  · subst e;exact hok
                  exact HGJ.out q hq (by omega)
                case measure=>simp [intOf];omega
            have hok':jh p[k][j]=false:=by simpa using hok
            have hbad:=xJ k hp<|zD j hlj hok';have HBAD:=Lib.hid hbad;clear hok hbad
            go_wp2_with fail
            go_ret
            exact ⟨aZ (by rw [HBAD.out]),hb3⟩
          have hjx:p[k].take j=p[k]:=Pn (by omega);have HJ:=Lib.hid hjx;clear hjx
          by_cases h7:p[k].length<=7
          · have h7' : ¬ (7:Int)<(p[k].length:Int):=by omega
            have hrk:rowOk p[k]=true:=xH h7 λq hq=>HGJ.out q hq (by omega);have HRK:=Lib.hid hrk;clear hrk
            go_wp2_with fail
            go_roundw
            case rel=>
              refine ⟨k+1,by omega,by go_num,congrArg (Value.int .i64) (by rw [HJ.out,HT.out]),λq hq hqk=>?_,hb2⟩
              by_cases e:q=k
              · subst e;exact HRK.out
              exact HG.out q hq (by omega)
            case measure=>simp [intOf];omega
          have h7':(7:Int)<(p[k].length:Int):=by omega
          have HBAD:=Lib.hid<|xJ k hp<|xE (by omega);clear h7
          go_wp2_with fail
          go_ret
          exact ⟨aZ (by rw [HBAD.out]),hb2⟩
      have hkx:p.take k=p:=Pn (by rw [<- HX.out];omega);have hsh:=vK (p:=p) (by rw [<- HX.out];exact h3) λq hq=>HG.out q hq (by rw [<- HX.out] at hq;omega);have hv:dh p=(decide (mF p9 p<=12)&&decide (kV p<=3000)):=by
        have : 0<p.length:=by rw [<- HX.out];omega
        simp [dh,hsh,this]
      rw [hkx];have HV:=Lib.hid hv;clear hv hsh hkx;have HCC:=Lib.hid<|vM<|kV p
      by_cases h12:mF p9 p<=12
      · have h12':(mF p9 p:Int)<=12:=by omega
        go_wp2_with (go_at_call 56;refine (EF (HU.out.below hb hhi) ht).mono ?_;rintro e w2 ⟨rfl,hb2⟩)
        go_ret
        exact ⟨aZ (by rw [HV.out,decide_eq_true h12,Bool.true_and];exact HCC.out),hb.trans<|hb2.mono hb.size⟩
      have h12' : ¬ (mF p9 p:Int)<=12:=by omega
      have hf:dh p=false:=by rw [HV.out];simp [h12]
      have HF:=Lib.hid hf;clear hf h12
      go_wp2_with fail
      go_ret
      exact ⟨aZ (by rw [HF.out]),hb⟩
  have hv:dh p=false:=by
    have := HX.out
    by_cases h:p.length<=3
    · have : p.length=0:=by omega
      simp [dh,this]
    simp [dh,mb,h]
  have HV:=Lib.hid hv;clear hv;have HN:=Lib.hid h3;clear h3
  go_enter Tryz.func16,Tryz.ntmps16
  go_wp2_with (go_at_call 47;refine (dO _ _ _ false (by have := HN.out;simp;omega) _).mono ?_;rintro e w1 ⟨rfl,rfl⟩)
  go_ret
  exact ⟨aZ (by rw [HV.out]),Below.refl _ _⟩
open Go.RowKit
def aA (p:List<|List MI):Option Bool:=gd (decide<|p.length<=1048576/\total p<=1048576)<|some<|dh<|p.map λr=>r.map gq
def cW (p:List<|List MI):Option Bool:=gd (decide<|p.length<=1048576/\total p<=1048576)<|some<|dh<|p.map λr=>r.map gq
def cK (s:List ai) (i:Int) (v:List ai):Option (List ai):=
 gd (decide<|(0<=i/\i<=(s.length:Int))/\0<s.length/\s.length<=1000/\v.length=1) (some<|s.take i.toNat++v++s.drop i.toNat)
def JY (l:LI):LI:=l.mergeSort λx y=>decide<|x<=y
theorem mP (l:LI):(JY l).Perm l:=PI l _
def lc (l:LI):Option (LI):=gd (decide<|l.length<4611686018427387904)<|some<|JY l
theorem tq {l q:LI} (h:l=[]) (c:lc l=some q):q=[]:=by
 subst h;obtain ⟨_,c⟩:=gdD c;rw [<- osl c];exact (mP []).eq_nil
theorem tu {l q:LI} (c:lc l=some q):q.length=l.length:=by
 obtain ⟨_,c⟩:=gdD c;rw [<- osl c];exact (mP l).length_eq
section
variable {P:Program} {H:AH} {s:Nat} {o:Oper} {ρ:Operand->AV}
theorem EG {e:TypeId} {i:TypeInfo} {z:Value} (w:World) (hi:P.info? e=some i) (hz:i.zero=some z):(zeroValue e).run P w = .ok z w:=by simp [zeroValue,typeInfo,hi,hz]
theorem EH {cl:Call} {x:Operand} {t e:TypeId} {b ver off len:Nat} {k:ABlk} {z:Value} {zr:List AV} (ho:o.op = .call cl) (h1:cl.callee = .builtin .clear) (h2:cl.args.toList=[x]) (h3:cl.argTypes.toList=[t])
  (ht:P.underlying t=some (.slice e)) (hz:(P.info? e).bind (·.zero)=some z) (hz1:j4 z.cells=true) (hzs:z.cells.size=s) (hzr:zr.length=s) (hzc:∀ (c:Cx) (j:Nat) (a:AV),zr[j]? = some a->∃ u,z.cells[j]? = some u/\c.rel a u)
  (hx:ρ x = .hs b ver s off len) (hb:H[b]? = some (some k)) (hv:k.ver=ver) (hs:k.s=s) (hoff:off+len<=k.rows.length) :
  MB P o ρ H .top (H.set b<|some { k with rows:=k.rows.take off++(Pz len zr).take len++k.rows.drop (off+len) }):=by
 intro c a K Q hH hr hxs hK;obtain ⟨callee,args,ts⟩:=cl;simp only at h1 h2 h3;obtain rfl:args = #[x]:=by cases args;simp_all
 obtain rfl:ts = #[t]:=by cases ts;simp_all
 subst h1;have hx1:=hx ▸ hxs x (by rw [ho];simp [Op.operands,Call.operands]);generalize hn:len=n at hK ⊢;generalize hnews:Pz n zr=news at hK ⊢;have hrl:∀ (i:Nat) (row:List AV),news[i]? = some row->row.length=s:=λi row h=>by
  rw [<- hnews] at h;have := PK h;rw [List.mem_replicate] at this;rw [this.2,hzr]
 have hnl0:news.length=n:=by rw [<- hnews,List.length_replicate]
 have hone:∀ v∈z.cells,v.oneCell'=true:=by
  rw [rf,Array.all_eq_true_iff_forall_mem] at hz1;exact hz1
 generalize hvs:(Builtin.zeroCells z.cells n).toList=vs;have hvl:vs.length=n*s:=by rw [<- hvs,PL,dQ,hzs]
 have hvget:∀ i j,i<n->j<s->vs[i*s+j]? = z.cells[j]? := λi j hi hj=>by
  have hfit:i*s+j<n*s:=by
   have : (i+1)*s<=n*s:=Ps _ (by omega);rw [Pt] at this;omega
  rw [<- hvs,PM];unfold Builtin.zeroCells;rw [hzs];have := uI z.cells (n*s) (i*s+j) hfit (by omega);rw [hzs] at this;rw [this,PD i s,Nat.mul_add_mod,Nat.mod_eq_of_lt hj]
 have hv1:∀ v∈vs,v.oneCell'=true:=λv hm=>by
  obtain ⟨q,hq⟩:=List.getElem?_of_mem hm;have hq':=(ges hq).1;rw [hvl] at hq';have hs0:0<s:=Nat.pos_of_ne_zero λh=>by rw [h,Nat.mul_zero] at hq';omega
  have e1:q=q / s*s+q % s:=by rw [PD];exact (Nat.div_add_mod q s).symm
  rw [e1,hvget (q / s) (q % s) (Nat.div_lt_of_lt_mul<|by rw [PD];exact hq') (Nat.mod_lt _ hs0)] at hq;exact hone v<|PN hq
 have hvr:∀ (i:Nat) (row:List AV) (j:Nat) (a:AV),(news.take n)[i]? = some row->row[j]? = some a->∃ u,vs[i*s+j]? = some u/\u.oneCell'=true/\c.rel a u:=λi row j a hi hj=>by
  have hin:i<n:=by
   have := (ges hi).1;rw [List.length_take] at this;omega
  rw [PE,if_pos hin,<- hnews] at hi;have := PK hi;rw [List.mem_replicate] at this;rw [this.2] at hj;have hjs:j<s:=by rw [<- hzr];exact (ges hj).1
  obtain ⟨u,g1,g2⟩:=hzc c j a hj;exact ⟨u,by rw [hvget i j hin hjs];exact g1,hone u<|PN g1,g2⟩
 have hl:c.live b k:=by unfold Cx.live;rw [hH];exact hb
 generalize hux:a.eval x=ux at hx1
 cases hx1 with
 | fr h=>cases h
 | @hs _ _ _ _ _ cap A hbn hcl hcm h0 hh=>
  obtain ⟨cur,fr,hB⟩:=hr.blk b k hl;obtain ⟨fr,rfl,hat,hd⟩:=hB.cells hl λx hx=>(hh x<|hv ▸ hx).1.trans hs.symm;rw [hv] at hd;obtain ⟨_,_,hA,hcf⟩:=hh _ hd;simp only at hA hcf;have hexec:∀ w',(n=0/\w'=c.w)\/(∃ ad,A=some ad/\0<n/\(storeCells ad vs).run P c.w = .ok () w')->(execOp a.eval o).run P c.w = .ok (.value<|.tuple #[]) w':=λw' hw=>by
   have e1:(Builtin.clear_ #[t] o.type #[.slice A len cap]).run P c.w = .ok (.tuple #[]) w':=by
    obtain ⟨inf,h5,h6⟩:=Option.bind_eq_some_iff.1 hz;rcases hw with ⟨h0',rfl⟩ | ⟨ad,rfl,hp,hst⟩
    ·rw [hn,h0']
     cases A <;> simp [Builtin.clear_,Sem.run_bind,az ht]
    obtain ⟨q,rfl⟩:∃ q,n=q+1:=⟨n-1,by omega⟩;rw [hn];simp [Builtin.clear_,Sem.run_bind,az ht,EG c.w h5 h6,hvs,hst]
   simp [execOp,ho,resolve,invoke,builtin,hux,e1]
  unfold Oper.wp;rcases Nat.eq_zero_or_pos n with h00 | hpos
  ·-- nothing is copied
   have hv0:vs=[]:=List.eq_nil_of_length_eq_zero (by rw [hvl,h00,Nat.zero_mul]);have hk0:({ k with rows:=k.rows.take off++news.take n++k.rows.drop (off+n) }:ABlk)=k:=by
    rw [h00];simp
   rw [hexec c.w (.inl ⟨h00,rfl⟩)];refine hK _ c ?_ hr (Ext.refl c) .top;rw [hk0,uL H b _ hb,hH]
  have h0':0<cap:=by omega
  obtain rfl:=hA h0';have hfit:=hB.fits;have hsp:=hB.pos;have hle:(c.φ b).2+off*s+vs.length<=cur.toList.length:=by
   have h5:(off+len)*s<=k.rows.length*s:=Ps _ hoff;have h6:n*s<=len*s:=Ps _ (by omega);rw [Pt] at h5;have hct:cur.toList.length=cur.size:=PL;rw [hs] at hfit;rw [hvl,hct];omega
  have hst:=dN (P:=P) (c.φ b).1 ((c.φ b).2+off*s) k.ty fr vs 0 cur c.w hat (hB.fre fr rfl) (by simpa using hle) hv1;rw [Nat.add_zero] at hst;have hg2:=λq=>nz cur.toList _ _ hle q;have hs2:=l8 cur.toList _ _ hle;generalize hcs2:(cur.toList.take ((c.φ b).2+off*s)++vs++cur.toList.drop ((c.φ b).2+off*s+vs.length))=ls at *;have hsz2:ls.toArray.size=cur.size:=by simpa using hs2
  have hget:∀ q,ls.toArray[q]? = if (c.φ b).2+off*s<=q/\q<(c.φ b).2+off*s+vs.length then vs[q-((c.φ b).2+off*s)]? else cur[q]? := λq=>by
   rw [List.getElem?_toArray,hg2,PM (xs:=cur)]
  have hrl2:(k.rows.take off++news.take n++k.rows.drop (off+n)).length=k.rows.length:=by
   simp only [lla,List.length_take,List.length_drop];omega
  have hrow:∀ (i:Nat) (row:List AV),(k.rows.take off++news.take n++k.rows.drop (off+n))[i]? = some row->(off<=i/\i<off+n/\news[i-off]? = some row)\/((i<off\/off+n<=i)/\k.rows[i]? = some row):=λi row h=>by
   have hnl:(news.take n).length=n:=by simp;omega
   have e:=nz k.rows off (news.take n) (by rw [hnl];omega) i;rw [hnl] at e;rw [e] at h
   split at h
   ·rename_i h2;refine .inl ⟨h2.1,h2.2,?_⟩;rw [PE,if_pos (by omega)] at h;exact h
   rename_i h2;exact .inr ⟨by omega,h⟩
  have hlen2:∀ (i:Nat) (row:List AV),(k.rows.take off++news.take n++k.rows.drop (off+n))[i]? = some row->row.length=k.s:=λi row h=>by
   rcases hrow i row h with ⟨_,_,h2⟩ | ⟨_,h2⟩
   ·rw [hrl _ row h2,hs]
   exact hB.len i row h2
  have hext:=Cx.upd_ext (k:={ k with rows:=k.rows.take off++news.take n++k.rows.drop (off+n) }) (o:=(c.φ b).2) (cs:=ls.toArray) hr hl hB hsz2 (.inl ⟨rfl,rfl,hrl2,rfl⟩);have hrel:=Cx.upd_rel (k:={ k with rows:=k.rows.take off++news.take n++k.rows.drop (off+n) }) (o:=(c.φ b).2) (cs:=ls.toArray) hr hl hB hsz2 rfl hext hsp (by simp only;rw [hrl2,hsz2];exact hfit) hlen2 (λi row j a' h h'=>by
   have hj:j<s:=by
    have := (ges h').1;rw [hlen2 i row h,hs] at this;exact this
   simp only;rw [hget,hs,hvl];rcases hrow i row h with ⟨g1,g2,g3⟩ | ⟨g1,g3⟩
   ·have hf:=pU (s:=s) (show i-off<n by omega) (j:=j+1) hj;have e:i*s=(i-off)*s+off*s:=by
     rw [<- Pt]
     congr 1
     omega
    rw [if_pos (by omega)];obtain ⟨u',q1,q2,q3⟩:=hvr (i-off) row j a' (by rw [PE,if_pos (by omega)];exact g3) h';refine ⟨u',?_,q2,q3⟩;rw [<- q1]
    congr 1
    omega
   have hi':=(ges g3).1;rw [if_neg (λhq=>?_)]
   ·have := hB.rel i row j a' g3 h';rw [hs] at this;exact this
   rcases g1 with g1 | g1
   ·have hf:=pU (s:=s) g1 (j:=j+1) hj;omega
   have hf:(off+n)*s<=i*s:=Ps _ g1;rw [Pt] at hf;omega)
  rw [hexec _ (.inr ⟨_,rfl,hpos,hst⟩)];exact hK _ _ (by rw [<- hH];rfl) hrel hext .top
variable {α:Type} {c:α->List AV} {l:List α} {x y:Operand} {t e:TypeId} {ag:Bool} {w m b ver off len:Nat} {zs:List AV}
def ZrR (zs zr:List AV):Prop:=zr.length=zs.length/\∀ (cx:Cx) (j:Nat) (a a':AV) (v:Value),zs[j]? = some a->zr[j]? = some a'->cx.rel a v->cx.rel a' v
theorem CY {β:Type} [Inhabited β] {f:β->List AV} {cx:Cx} {v:Value} (h:cx.rel .nil v):cx.rel (eL f ([]:List β)) v:=by
 obtain rfl:=eP h;exact .fr<|.sl (s:=1) (g:=0) (o:=0) (λ_ _ => .bool false) (Pk _) (by decide) (λh=>absurd h<|by simp) (λi h=>absurd h<|by simp) (λi j a h=>absurd h<|by simp) (λi j a h=>absurd h<|by simp) λi j a h=>absurd h (by simp)
theorem zrN {β:Type} [Inhabited β] {f:β->List AV}:ZrR [.nil] [eL f ([]:List β)]:=⟨rfl,λcx j a a' v h h' hr=>by
 match j with
 | 0=>
  obtain rfl:=osl h;obtain rfl:=osl h';exact CY hr
 | j+1=>simp at h⟩
theorem MF.ixP {k:IntKind} {i:Int} {n lo:Nat} (q:SlT P t e ag w zs m) (hx:ρ x = .hs b ver w lo n) (hy:ρ y = .v (.int k i)) (hi:0<=i/\i<(n:Int)):MF P ρ (.indexAddr t x y) (.hp b ver w (lo+i.toNat) 0):=MF.ixhs q.u q.ty hx hy hi
theorem MF.lenP {n lo:Nat} (q:SlT P t e ag w zs m) (hx:ρ x = .hs b ver w lo n):MF P ρ (.call ⟨.builtin .len,#[x],#[t]⟩) (I n):=MF.lenhs q.u hx
theorem EvA.clearO [Inhabited α] (q:SlT P t e ag w zs m) (hz:ZrR zs<|c default) (hx:ρ x = .hs b ver w off len) (hk:H[b]? = some (bE false ver w e<|l.map c)) (ho:off+len<=l.length) :
  EvA P ρ (.call ⟨.builtin .clear,#[x],#[t]⟩) H .top (H.set b<|bE false ver w e<|(cpy l off (Pz len default) len).map c):=λo ho'=>by
 obtain ⟨z,hz0,hzz⟩:=Option.map_eq_some_iff.1 q.z.z;have hone:j4 z.cells=true:=by
  have := q.z.one;rw [hz0] at this;exact osl this
 have hsz:z.cells.size=w:=by
  have := congrArg List.length hzz;rw [<- q.zl,<- this];simp [dC]
 have h:=EH (o:=o) (P:=P) (ρ:=ρ) (H:=H) (s:=w) (k:=⟨ver,w,e,l.map c⟩) (zr:=c default) ho' rfl rfl rfl q.u hz0 hone hsz (hz.1.trans q.zl) (λcx j a ha=>by
  have hjl:j<zs.length:=by rw [<- hz.1];exact (ges ha).1
  have hzs:zs[j]? = some zs[j]:=geq hjl;have hju:j<z.cells.size:=by rw [hsz,<- q.zl];exact hjl
  refine ⟨z.cells[j],PO hju,hz.2 cx j _ a _ hzs ha ?_⟩;have hc:=mM cx hone;obtain ⟨u,g1,g2⟩:=hc.get (j:=j) (a:=zs[j]) (by rw [hzz];exact hzs);rw [PO hju] at g1;obtain rfl:=osl g1
  first | exact g2 | exact g2.2) hx hk rfl rfl (by simpa using ho)
 unfold cpy;rw [if_pos ho];simpa [bE,List.map_take,List.map_drop] using h
end
section
variable {P:Program} {H:AH}
theorem cQ.wown {f:FuncId} {as0 MU:List AV} {b:Nat} {g:Bool} {ver w w':Nat} {ty ty':TypeId} {lY rows:List (List AV)} {mk:AV->AV} {n:Nat} (h:cQ P f as0 [bE g ver w ty lY]<|zx w' ty' mk n rows 0 []) (hb:H[b]? = some (bE g ver w ty lY))
  (has:RenL (λc i=>[b][i]? = some c) MU as0) (hk0:∀ r∈lY,∀ a∈r,isF 9 a=true) (hk:∀ r∈rows,∀ a∈r,isF 9 a=true) (hmk:∀ (S:Nat->Nat->Prop) (a b:AV),Ren S a b->Ren S (mk a) (mk b)) :
  cQ P f MU H (λr G=>∃ g' oH,(g'=true->n=0)/\r=mk (hS g' b oH w' n)/\G=H.set b (bE g' oH w' ty' rows)):=by
 have hlt:b<H.length:=(ges hb).1;refine h.frameN [b] (by simp) rfl (λi c hi=>?_) has.spec.1 has.spec.2 λr0 G0 ⟨g',oH,hg,hr0,hG0⟩ => ?_
 ·match i with
  | 0=>
   obtain rfl:b=c:=by simpa using hi
   cases g with
   | true=>exact .inl ⟨hb,rfl⟩
   | false=>exact .inr ⟨_,_,hb,rfl,.ofF hk0⟩
  | i+1=>simp at hi
 subst hr0 hG0;have key:∀ i c,sg [b] H.length i c->i<1->c=b:=λi c hs hi=>by
  rcases hs with hs | ⟨hs,_⟩
  ·obtain rfl:i=0:=by omega
   simpa using hs.symm
  simp at hs;omega
 refine ⟨_,_,⟨by simp,by simp,λi c hi hs hn=>?_,λi c k0 hs hk0=>?_,λc hc hne=>PP λe=>hne<|by simp [e]⟩,hmk _ _ _ ?_,⟨g',oH,hg,rfl,rfl⟩⟩
 ·simp only [PF,PQ] at hi;obtain rfl:=key i c hs hi;obtain rfl:i=0:=by omega
  simp only [PF,Pu,sie] at hn;rw [Pv hlt,hn]
 ·have hi:i<1:=by
   have := (ges hk0).1;simpa using this
  obtain rfl:=key i c hs hi;obtain rfl:i=0:=by omega
  simp only [PF,Pu,sie] at hk0;refine ⟨k0,by rw [Pv hlt,hk0],.ofF λr hr a ha=>?_⟩
  cases g' with
  | true=>cases hk0
  | false=>
   obtain rfl:=osl hk0;exact hk r hr a ha
 cases g' with
 | true=>exact .nil
 | false=>exact .hs (.inl rfl)
theorem eX.oneE {f:FuncId} {as0 MU:List AV} {b:Nat} {g:Bool} {ver w:Nat} {ty:TypeId} {lY rows:List (List AV)} {r:AV} (h:eX P f as0 [bE g ver w ty lY] r [bE g ver w ty rows]) (hb:H[b]? = some (bE g ver w ty lY))
  (has:RenL (λc i=>[b][i]? = some c) MU as0) (hk0:∀ r∈lY,∀ a∈r,isF 9 a=true) (hk:∀ r∈rows,∀ a∈r,isF 9 a=true) (hr:isF 9 r=true):eX P f MU H r (H.set b<|bE g ver w ty rows):=by
 have hlt:b<H.length:=(ges hb).1;have h0:cQ P f as0 [bE g ver w ty lY] (λr' G=>r'=r/\G=[bE g ver w ty rows]):=⟨h.1,λc vs hH hr hall=>(h.2 c vs hH hr hall).mono λe w' ⟨v,c',h1,h2,h3,h4,h5,h6⟩=>⟨v,c',r,h1,h2,⟨rfl,h3⟩,h4,h5,h6⟩⟩;refine cQ.acall<|h0.frameN [b] (by simp) rfl (λi c hi=>?_) has.spec.1 has.spec.2 λr0 G0 ⟨hr0,hG0⟩ => ?_
 ·match i with
  | 0=>
   obtain rfl:b=c:=by simpa using hi
   cases g with
   | true=>exact .inl ⟨hb,rfl⟩
   | false=>exact .inr ⟨_,_,hb,rfl,.ofF hk0⟩
  | i+1=>simp at hi
 subst hr0 hG0;have key:∀ i c,sg [b] H.length i c->i<1->c=b:=λi c hs hi=>by
  rcases hs with hs | ⟨hs,_⟩
  ·obtain rfl:i=0:=by omega
   simpa using hs.symm
  simp at hs;omega
 refine ⟨_,_,⟨by simp,by simp,λi c hi hs hn=>?_,λi c k0 hs hk0=>?_,λc hc hne=>PP λe=>hne<|by simp [e]⟩,lK 9 _ hr,rfl,rfl⟩
 ·simp only [PQ] at hi;obtain rfl:=key i c hs hi;obtain rfl:i=0:=by omega
  simp only [Pu,sie] at hn;rw [Pv hlt,hn]
 have hi:i<1:=by
  have := (ges hk0).1;simpa using this
 obtain rfl:=key i c hs hi;obtain rfl:i=0:=by omega
 simp only [Pu,sie] at hk0;refine ⟨k0,by rw [Pv hlt,hk0],.ofF λr hr a ha=>?_⟩
 cases g with
 | true=>cases hk0
 | false=>
  obtain rfl:=osl hk0;exact hk r hr a ha
theorem Gi {S:Nat->Nat->Prop} {g:Bool} {i j v w n n':Nat} (h:S i j) (hn:n=n'):Ren S (hS g i v w n) (hS g j v w n'):=hn ▸ kR h
variable {nt b0:Nat} {Q:Exit->Env->AH->Prop} {en:List (Nat×AV)} {ops:Array Oper} {l:List Oper} {d:Tmp} {t:TypeId} {pos:String} {af:Array Edge}
theorem oGW {cl:Call} {f:Operand} {g:FuncId} {kE as0:List AV} {H:AH} {b w0 ver w:Nat} {g0:Bool} {ty0 ty:TypeId} {lY rows:List (List AV)} {mk:AV->AV} {n:Nat} (hc:cl.callee = .value f) (hf:rho (ax en) f = .fn (.func g) kE)
  (h:cQ P g as0 [bE g0 ver w0 ty0 lY]<|zx w ty mk n rows 0 []) (hb:H[b]? = some (bE g0 ver w0 ty0 lY)) (has:RenL (λc i=>[b][i]? = some c) (cl.args.toList.map (rho<|ax en)++kE) as0) (hk0:∀ r∈lY,∀ a∈r,isF 9 a=true) (hk:∀ r∈rows,∀ a∈r,isF 9 a=true)
  (hmk:∀ (S:Nat->Nat->Prop) (a b:AV),Ren S a b->Ren S (mk a) (mk b)) (k:∀ g' oH,(g'=true->n=0)->TO P nt b0 ops l Q (ax ((d,mk<|hS g' b oH w n)::en)) (H.set b<|bE g' oH w ty rows)):TO P nt b0 ops (⟨some d,.call cl,t,pos,af,none⟩::l) Q (ax en) H:=by
 exact TO.runG (.free rfl) (nD rfl hc hf<|h.wown hb has hk0 hk hmk) λr' H' ⟨g',oH,hg,hr,hH⟩=>by
  subst hr hH;exact k g' oH hg
end
section
variable {P:Program} {ρ:Operand->AV} {H:AH} {x y z:Operand} {t e oF:TypeId} {ag:Bool} {w j b kn:Nat}
theorem MF.slA {α:Type} [Inhabited α] {c:α->List AV} (l:List α) {row:List AV} (hu:P.underlying t=some (.array 3 e)) (ty:TyF P e ag w) (hx:ρ x = .fp row j) (hl:l.length=3) (hr:Nat.ble (j+3*w) row.length=true)
  (h:[(row.drop<|j+0*w).take w,(row.drop<|j+1*w).take w,(row.drop<|j+2*w).take w]=[c (l.getD 0 default),c (l.getD 1 default),c (l.getD 2 default)]):MF P ρ (.slice t x none none none) (eL c l):=by
 injection h with h0 h;injection h with h1 h;injection h with h2 _;have key:MF P ρ (.slice t x none none none) (.sl 3 λi=>(row.drop<|j+i*w).take w) := .mk λK hK=>by
  show tY P ρ (.slice t x none none none) K;simp only [tY,qq,hu,hx,Option.map_none];show (0<=(0:Int)/\(0:Int)<=((3:Nat):Int)/\((3:Nat):Int)<=((3:Nat):Int)/\j+3*P.cellsOf e<=row.length/\(P.info? e).isSome=true/\3<=9223372036854775807)/\_;rw [ty.cells];exact ⟨⟨by omega,by omega,by omega,nlb hr,ty.info,by omega⟩,hK⟩
 refine key.res λC v hv=>?_;unfold Go.Proofs.YtjcmfddobaplbaaGreat.eL;rw [hl];exact zu (λi hi=>by
  match i,hi with
  | 0,_=>exact h0
  | 1,_=>exact h1
  | 2,_=>exact h2) hv
variable {K:Type} [DecidableEq K] {kc:K->List Value} {l:List (K×Bool)}
theorem EvA.minsB (q:KeyA P oF kn kc) (ht:P.underlying t=some (.map oF e)) (k:K) (v:Bool)
  (hx:ρ x = .mp b (kn+1)) (hy:ρ y=mkA ((kc k).map AV.v)) (hz:ρ z=Bo v) (hb:H[b]? = some (some<|mB kn 1 kc cB l)) :
  EvA P ρ (.insert t x y z) H .top (H.set b<|some<|mB kn 1 kc cB<|um l k v):=
 EvA.mins (vn:=1) (cv:=cB) q (λ_=>rfl) ht (Nat.succ_pos kn) k v hx hy (by rw [hz];rfl) (by rw [hz];rfl) hb
omit [DecidableEq K] in
theorem EvA.mlenB (ht:P.underlying t=some (.map oF e)) (hx:ρ x = .mp b (kn+1)) (hb:H[b]? = some (some<|mB kn 1 kc cB l)):EvA P ρ (.call ⟨.builtin .len,#[x],#[t]⟩) H (I l.length) H:=
 EvA.mlen (vn:=1) (cv:=cB) ht hx hb
end
def cmpL:LI->LI->Int
 | [],[]=>0
 | [],_::_ => -1
 | _::_,[]=>1
 | a::l,b::k=>if a<b then -1 else if b<a then 1 else cmpL l k
theorem mQ:∀ l,cmpL l l=0
 | []=>rfl
 | a::l=>by rw [cmpL,if_neg (Int.lt_irrefl _),if_neg (Int.lt_irrefl _),mQ l]
theorem pX:∀ l k,cmpL k l = - cmpL l k
 | [],[]=>rfl
 | [],_::_=>rfl
 | _::_,[]=>rfl
 | a::l,b::k=>by
  rw [cmpL,cmpL]
  by_cases h:a<b
  ·rw [if_pos h,if_pos h,if_neg (by omega)]
   rfl
  rw [if_neg h,if_neg h]
  by_cases h2:b<a
  ·rw [if_pos h2,if_pos h2]
  rw [if_neg h2,if_neg h2,pX l k]
theorem cmpL_eq:∀ {l k},cmpL l k=0->l=k
 | [],[],_=>rfl
 | [],_::_,h=>by cases h
 | _::_,[],h=>by cases h
 | a::l,b::k,h=>by
  rw [cmpL] at h
  split at h
  ·cases h
  split at h
  ·cases h
  rw [cmpL_eq h]
  congr 1
  omega
theorem pY:∀ {l k m},cmpL l k<0->cmpL k m<0->cmpL l m<0
 | [],[],_,h,_=>by cases h
 | [],_::_,[],_,h=>by simp [cmpL] at h
 | [],_::_,_::_,_,_=>by simp [cmpL]
 | _::_,[],_,h,_=>by simp [cmpL] at h
 | _::_,_::_,[],_,h=>by simp [cmpL] at h
 | a::l,b::k,c::m,h1,h2=>by
  rw [cmpL] at h1 h2 ⊢
  by_cases e1:a<b
  ·by_cases e2:c<b
   ·rw [if_neg (by omega),if_pos e2] at h2
    cases h2
   rw [if_pos (by omega)]
   decide
  rw [if_neg e1] at h1
  by_cases e2:b<a
  ·rw [if_pos e2] at h1
   cases h1
  rw [if_neg e2] at h1;obtain rfl:a=b:=by omega
  by_cases e3:a<c
  ·rw [if_pos e3]
   decide
  rw [if_neg e3] at h2 ⊢
  by_cases e4:c<a
  ·rw [if_pos e4] at h2
   cases h2
  rw [if_neg e4] at h2 ⊢;exact pY h1 h2
theorem p5 (l k:LI):cmpL l k<0\/l=k\/cmpL k l<0:=by
 have := pX l k;rcases Int.lt_trichotomy (cmpL l k) 0 with h | h | h
 ·exact .inl h
 ·exact .inr<|.inl<|cmpL_eq h
 exact .inr<|.inr (by omega)
def leL (x y:LI):Bool:=decide<|¬ cmpL y x<0
def zE (l:LL):LL:=l.mergeSort leL
theorem EI (x y:LI):(leL x y||leL y x)=true:=by
 unfold leL;rw [Bool.or_eq_true,dte,dte];rcases p5 x y with h | h | h
 ·left;have := pX x y;omega
 ·left;rw [h,mQ];decide
 right;have := pX x y;omega
theorem EJ (x y z:LI) (h1:leL x y=true) (h2:leL y z=true):leL x z=true:=by
 unfold leL at *;rw [dte] at *;intro h;rcases p5 x y with g | g | g
 ·rcases p5 y z with g2 | g2 | g2
  ·exact h2<|pY h g
  ·rw [g2] at h1;exact h1 h
  exact h2 g2
 ·rw [g] at h;exact h2 h
 exact h1 g
theorem BM (x y:LI) (h1:leL x y=true) (h2:leL y x=true):x=y:=by
 unfold leL at *;rw [dte] at *;rcases p5 x y with h | h | h
 ·exact absurd h h2
 ·exact h
 exact absurd h h1
theorem lL (l:LL):(zE l).Perm l:=PI l leL
theorem vN (l:LL):(zE l).Pairwise λx y=>leL x y=true:=List.pairwise_mergeSort EJ EI l
theorem vO:∀ {l k:LL},l.Perm k->l.Pairwise (λx y=>leL x y=true)->k.Pairwise (λx y=>leL x y=true)->l=k
 | [],k,h,_,_=>h.nil_eq
 | a::l,[],h,_,_=>absurd h.length_eq (by simp)
 | a::l,b::k,h,h1,h2=>by
  have hab:a=b:=by
   rcases List.mem_cons.1 (h.subset<|List.mem_cons_self) with e | e
   ·exact e
   rcases List.mem_cons.1 (h.symm.subset<|List.mem_cons_self) with e2 | e2
   ·exact e2.symm
   exact BM a b ((Pw.1 h1).1 b e2)<|(Pw.1 h2).1 a e
  subst hab;rw [vO (List.perm_cons a |>.1 h) (Pw.1 h1).2 (Pw.1 h2).2]
def fo (l:LL):Option (LL):=gd (decide<|l.length<4611686018427387904)<|some<|zE l
theorem oZ {l q:LL} (h:l=[]) (c:fo l=some q):q=[]:=by
 subst h;obtain ⟨_,c⟩:=gdD c;rw [<- osl c];exact (lL []).eq_nil
theorem o9 {l q:LL} (c:fo l=some q):q.length=l.length:=by
 obtain ⟨_,c⟩:=gdD c;rw [<- osl c];exact (lL l).length_eq
end
end Go.Proofs.YtjcmfddobaplbaaGreat
