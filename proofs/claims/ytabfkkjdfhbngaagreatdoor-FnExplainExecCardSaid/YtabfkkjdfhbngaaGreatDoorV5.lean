/- Texts joined. No conditions. -/
import Derived.Outline
import Derived.Deep.RegionWith
import Derived.RegionTactic
import Derived.ChangeAlike
import Derived.Test.YtabfkkjdfhbngaaGreatDoorV4
namespace Go.Proofs.YtabfkkjdfhbngaaGreatDoor
noncomputable section
open _root_.Bool renaming true -> QX
open _root_.Bool renaming false -> QY
open _root_.Option renaming some -> QZ
open _root_.Option renaming none -> Q0
open _root_.Decidable renaming decide -> Q3
open _root_.Go.Proofs.Tryz
open _root_.Go.Proofs.Tryz renaming prog -> Q4
open _root_.Nat renaming le_refl -> Tv, zero_le -> Tw, mul_assoc -> Ty, le_trans -> Tz, mul_pos -> TA, le_mul_of_pos_right -> TB
open _root_.List renaming take_of_length_le -> Tx, countP_le_length -> TD, getElem_of_mem -> TE
open _root_.Int renaming mul_nonneg -> TC
open Go.ChangeShapes Go.WideShapes Go.ChangeAt Go.RowKit
set_option maxRecDepth 100000
theorem tZ (x hi:Int) (b:Bool) (hb:(Q3 (0<=x)&&Q3 (x<=hi))=b) (w:World) :
  Calls Q4 53 #[.int .i64 x,.int .i64 hi] w λe w'=>e = .returned (.bool b)/\w=w':=by
 subst hb
 by_cases h1:0<=x
 ·by_cases h2:x<=hi
  ·go_enter func53,Tryz.ntmps53
   go_wp2
   all_goals (go_ret;exact ⟨aL (by simp [h1,h2]),rfl⟩)
  go_enter func53,Tryz.ntmps53
  go_wp2
  all_goals (go_ret;exact ⟨aL (by simp;omega),rfl⟩)
 go_enter func53,Tryz.ntmps53
 go_wp2
 all_goals (go_ret;exact ⟨aL (by simp;omega),rfl⟩)
def QK (x hi:Int):Bool:=Q3 (0<=x)&&Q3 (x<=hi)
def dZ (x:Ins):Bool:=
 if x.op=1\/x.op=3 then QK x.loc 2&&QK x.reg 2&&x.val==0
 else if x.op=2 then QK x.loc 2&&x.reg==0&&QK x.val 3
 else if x.op=4 then x.loc==0&&x.reg==0&&x.val==0
 else if x.op=5 then QK x.loc 2&&QK x.reg 2&&QK x.val 3
 else QY
theorem xc (x:Ins) (w:World) :
  Calls Q4 188 #[x.v] w λe w'=>e = .returned (.bool<|dZ x)/\Below w.heap.size w w':=by
 obtain ⟨op,a,b,c⟩:=x;have hop:(op=1\/op=3)\/op=2\/op=4\/op=5\/((op==1)=QY/\(op==3)=QY/\(op==2)=QY/\(op==4)=QY/\(op==5)=QY):=by
  simp only [beq_eq_false_iff_ne,ne_eq];omega
 unfold Ins.v;rcases hop with hop | rfl | rfl | rfl | ⟨h1,h2,h3,h4,h5⟩
 ·have hr:dZ ⟨op,a,b,c⟩=(QK a 2&&QK b 2&&c==0):=by unfold dZ;rw [if_pos hop]
  generalize ha:QK a 2=pa at *;generalize hb:QK b 2=pb at *;have HR:=Lib.hid hr;clear hr;have HA:=Lib.hid ha;clear ha;have HB:=Lib.hid hb;clear hb;rcases hop with rfl | rfl
  all_goals
   go_enter func188,Tryz.ntmps188
   go_wp2_with (first
    | (go_at_call_of 53 (Value.int .i64 a);refine (tZ a 2 _ HA.out _).mono ?_;rintro e w1 ⟨rfl,rfl⟩)
    | (go_at_call_of 53 (Value.int .i64 b);refine (tZ b 2 _ HB.out _).mono ?_;rintro e w1 ⟨rfl,rfl⟩))
   all_goals (go_ret;exact ⟨aL (by rw [HR.out];simp_all),(Below.refl _ _).alloc (Tv _) _⟩)
 ·have hr:dZ ⟨2,a,b,c⟩=(QK a 2&&b==0&&QK c 3):=rfl;generalize ha:QK a 2=pa at *;generalize hc:QK c 3=pc at *;have HR:=Lib.hid hr;clear hr;have HA:=Lib.hid ha;clear ha;have HC:=Lib.hid hc;clear hc
  go_enter func188,Tryz.ntmps188
  go_wp2_with (first
   | (go_at_call_of 53 (Value.int .i64 a);refine (tZ a 2 _ HA.out _).mono ?_;rintro e w1 ⟨rfl,rfl⟩)
   | (go_at_call_of 53 (Value.int .i64 c);refine (tZ c 3 _ HC.out _).mono ?_;rintro e w1 ⟨rfl,rfl⟩))
  all_goals (go_ret;exact ⟨aL (by rw [HR.out];simp_all),(Below.refl _ _).alloc (Tv _) _⟩)
 ·have hr:dZ ⟨4,a,b,c⟩=(a==0&&b==0&&c==0):=rfl;have HR:=Lib.hid hr;clear hr
  go_enter func188,Tryz.ntmps188
  go_wp2_with fail
  all_goals (go_ret;exact ⟨aL (by rw [HR.out];simp_all),(Below.refl _ _).alloc (Tv _) _⟩)
 ·have hr:dZ ⟨5,a,b,c⟩=(QK a 2&&QK b 2&&QK c 3):=rfl;generalize ha:QK a 2=pa at *;generalize hb:QK b 2=pb at *;generalize hc:QK c 3=pc at *;have HR:=Lib.hid hr;clear hr;have HA:=Lib.hid ha;clear ha;have HB:=Lib.hid hb;clear hb;have HC:=Lib.hid hc;clear hc
  go_enter func188,Tryz.ntmps188
  go_wp2_with (first
   | (go_at_call_of 53 (Value.int .i64 a);refine (tZ a 2 _ HA.out _).mono ?_;rintro e w1 ⟨rfl,rfl⟩)
   | (go_at_call_of 53 (Value.int .i64 b);refine (tZ b 2 _ HB.out _).mono ?_;rintro e w1 ⟨rfl,rfl⟩)
   | (go_at_call_of 53 (Value.int .i64 c);refine (tZ c 3 _ HC.out _).mono ?_;rintro e w1 ⟨rfl,rfl⟩))
  all_goals (go_ret;exact ⟨aL (by rw [HR.out];simp_all),(Below.refl _ _).alloc (Tv _) _⟩)
 have hr:dZ ⟨op,a,b,c⟩=QY:=by
  simp only [beq_eq_false_iff_ne,ne_eq] at h1 h2 h3 h4 h5;simp [dZ,h1,h2,h3,h4,h5]
 have HR:=Lib.hid hr;clear hr
 go_enter func188,Tryz.ntmps188
 go_wp2_with fail
 all_goals (go_ret;exact ⟨aL (by rw [HR.out]),(Below.refl _ _).alloc (Tv _) _⟩)
theorem xd (x:Ins) (w:World) :
  Calls Q4 78 #[x.v] w λe w'=>e = .returned (.bool<|dZ x)/\Below w.heap.size w w':=by
 obtain ⟨op,a,b,c⟩:=x;have hop:(op=1\/op=3)\/op=2\/op=4\/op=5\/((op==1)=QY/\(op==3)=QY/\(op==2)=QY/\(op==4)=QY/\(op==5)=QY):=by
  simp only [beq_eq_false_iff_ne,ne_eq];omega
 unfold Ins.v;rcases hop with hop | rfl | rfl | rfl | ⟨h1,h2,h3,h4,h5⟩
 ·have hr:dZ ⟨op,a,b,c⟩=(QK a 2&&QK b 2&&c==0):=by unfold dZ;rw [if_pos hop]
  generalize ha:QK a 2=pa at *;generalize hb:QK b 2=pb at *;have HR:=Lib.hid hr;clear hr;have HA:=Lib.hid ha;clear ha;have HB:=Lib.hid hb;clear hb;rcases hop with rfl | rfl
  all_goals
   go_enter func78,Tryz.ntmps78
   go_wp2_with fail
   go_region
   go_wp2_with (first
    | (go_at_call_of 77 (Value.int .i64 a);refine (dM a 0 2 _ HA.out _).mono ?_;rintro e w1 ⟨rfl,rfl⟩)
    | (go_at_call_of 77 (Value.int .i64 b);refine (dM b 0 2 _ HB.out _).mono ?_;rintro e w1 ⟨rfl,rfl⟩)
    | (go_at_call 77;refine (dM _ _ _ QX (by decide) _).mono ?_;rintro e w1 ⟨rfl,rfl⟩))
   all_goals (first | (go_ret;exact ⟨aL (by rw [HR.out];simp_all),(((Below.refl _ _).alloc (Tv _) _).alloc (by simp) _).drew⟩) | (go_ret;exact ⟨aL (by rw [HR.out];simp_all),(((Below.refl _ _).alloc (Tv _) _).alloc (by simp) _)⟩))
 ·have hr:dZ ⟨2,a,b,c⟩=(QK a 2&&b==0&&QK c 3):=rfl;generalize ha:QK a 2=pa at *;generalize hc:QK c 3=pc at *;have HR:=Lib.hid hr;clear hr;have HA:=Lib.hid ha;clear ha;have HC:=Lib.hid hc;clear hc
  go_enter func78,Tryz.ntmps78
  go_wp2_with fail
  go_region
  go_wp2_with (first
   | (go_at_call_of 77 (Value.int .i64 a);refine (dM a 0 2 _ HA.out _).mono ?_;rintro e w1 ⟨rfl,rfl⟩)
   | (go_at_call_of 77 (Value.int .i64 c);refine (dM c 0 3 _ HC.out _).mono ?_;rintro e w1 ⟨rfl,rfl⟩)
   | (go_at_call 77;refine (dM _ _ _ QX (by decide) _).mono ?_;rintro e w1 ⟨rfl,rfl⟩))
  all_goals (first | (go_ret;exact ⟨aL (by rw [HR.out];simp_all),(((Below.refl _ _).alloc (Tv _) _).alloc (by simp) _).drew⟩) | (go_ret;exact ⟨aL (by rw [HR.out];simp_all),(((Below.refl _ _).alloc (Tv _) _).alloc (by simp) _)⟩))
 ·have hr:dZ ⟨4,a,b,c⟩=(a==0&&b==0&&c==0):=rfl;have HR:=Lib.hid hr;clear hr
  go_enter func78,Tryz.ntmps78
  go_wp2_with (first
   | (go_at_call 77;refine (dM _ _ _ QX (by decide) _).mono ?_;rintro e w1 ⟨rfl,rfl⟩))
  all_goals (first | (go_ret;exact ⟨aL (by rw [HR.out];simp_all),(((Below.refl _ _).alloc (Tv _) _).alloc (by simp) _).drew⟩) | (go_ret;exact ⟨aL (by rw [HR.out];simp_all),(((Below.refl _ _).alloc (Tv _) _).alloc (by simp) _)⟩))
 ·have hr:dZ ⟨5,a,b,c⟩=(QK a 2&&QK b 2&&QK c 3):=rfl;generalize ha:QK a 2=pa at *;generalize hb:QK b 2=pb at *;generalize hc:QK c 3=pc at *;have HR:=Lib.hid hr;clear hr;have HA:=Lib.hid ha;clear ha;have HB:=Lib.hid hb;clear hb;have HC:=Lib.hid hc;clear hc
  go_enter func78,Tryz.ntmps78
  go_wp2_with (first
   | (go_at_call_of 77 (Value.int .i64 a);refine (dM a 0 2 _ HA.out _).mono ?_;rintro e w1 ⟨rfl,rfl⟩)
   | (go_at_call_of 77 (Value.int .i64 b);refine (dM b 0 2 _ HB.out _).mono ?_;rintro e w1 ⟨rfl,rfl⟩)
   | (go_at_call_of 77 (Value.int .i64 c);refine (dM c 0 3 _ HC.out _).mono ?_;rintro e w1 ⟨rfl,rfl⟩))
  all_goals (first | (go_ret;exact ⟨aL (by rw [HR.out];simp_all),(((Below.refl _ _).alloc (Tv _) _).alloc (by simp) _).drew⟩) | (go_ret;exact ⟨aL (by rw [HR.out];simp_all),(((Below.refl _ _).alloc (Tv _) _).alloc (by simp) _)⟩))
 have hr:dZ ⟨op,a,b,c⟩=QY:=by
  simp only [beq_eq_false_iff_ne,ne_eq] at h1 h2 h3 h4 h5;simp [dZ,h1,h2,h3,h4,h5]
 have HR:=Lib.hid hr;clear hr
 go_enter func78,Tryz.ntmps78
 go_wp2_with fail
 all_goals (go_ret;exact ⟨aL (by rw [HR.out]),(((Below.refl _ _).alloc (Tv _) _).alloc (by simp) _)⟩)
def rdO (o:Int):Bool:=o==1||o==5
def wrO (o:Int):Bool:=o==2||o==3||o==5
def rdB (x:Ins):Bool:=rdO x.op
def wrB (x:Ins):Bool:=wrO x.op
theorem Je (op a b c:Int) (w:World):Calls Q4 80 #[.agg #[.int .i64 op,.int .i64 a,.int .i64 b,.int .i64 c]] w λe w'=>e = .returned (.bool<|rdO op)/\Below w.heap.size w w':=by
 unfold rdO
 go_enter func80,Tryz.ntmps80
 go_wp2_with fail
 all_goals (go_ret;exact ⟨aL (by simp_all),(Below.refl _ _).alloc (Tv _) _⟩)
theorem FV (op a b c:Int) (w:World):Calls Q4 130 #[.agg #[.int .i64 op,.int .i64 a,.int .i64 b,.int .i64 c]] w λe w'=>e = .returned (.bool<|rdO op)/\Below w.heap.size w w':=by
 unfold rdO
 go_enter func130,Tryz.ntmps130
 go_wp2_with fail
 all_goals (go_ret;exact ⟨aL (by simp_all),(Below.refl _ _).alloc (Tv _) _⟩)
theorem H9 (op a b c:Int) (w:World):Calls Q4 81 #[.agg #[.int .i64 op,.int .i64 a,.int .i64 b,.int .i64 c]] w λe w'=>e = .returned (.bool<|wrO op)/\Below w.heap.size w w':=by
 unfold wrO
 go_enter func81,Tryz.ntmps81
 go_wp2_with fail
 all_goals (go_ret;exact ⟨aL (by simp_all),(Below.refl _ _).alloc (Tv _) _⟩)
theorem EP (op a b c:Int) (w:World):Calls Q4 131 #[.agg #[.int .i64 op,.int .i64 a,.int .i64 b,.int .i64 c]] w λe w'=>e = .returned (.bool<|wrO op)/\Below w.heap.size w w':=by
 unfold wrO
 go_enter func131,Tryz.ntmps131
 go_wp2_with fail
 all_goals (go_ret;exact ⟨aL (by simp_all),(Below.refl _ _).alloc (Tv _) _⟩)
def ub (f:Ins->Bool) (p:List<|List Ins):Nat:=(p.map<|List.countP f).sum
theorem eY (f:Ins->Bool) (p:List<|List Ins) (k:Nat) (h:k<p.length):ub f (p.take<|k+1)=ub f (p.take k)+p[k].countP f:=by
 unfold ub;rw [tY _ _ h,List.map_append,List.sum_append];simp
theorem dN (f:Ins->Bool) (l:List Ins) (k:Nat) (h:k<l.length):(l.take<|k+1).countP f=(l.take k).countP f+if f l[k] then 1 else 0:=by
 rw [tY _ _ h,List.countP_append];simp [List.countP_cons]
theorem BZ (f:Ins->Bool) (p:List<|List Ins):ub f p<=total p:=by
 unfold ub total
 induction p with
 | nil=>simp
 | cons r p ih=>
  simp only [List.map_cons,List.sum_cons];have := TD (p:=f) (l:=r);omega
theorem lm (f:Ins->Bool) (p:List<|List Ins) (k j:Nat) (h:k<p.length):ub f (p.take k)+(p[k].take j).countP f<=total p:=by
 have h1:=BZ f<|p.take k;have h2:=TD (p:=f) (l:=p[k].take j);have h3:=List.length_take_le' j p[k];have h4:=BX p k h;have h5:=DX p<|k+1;omega
def bu (loc:Int) (f:Ins->Bool) (x:Ins):Bool:=x.loc==loc&&f x
theorem Jf {lo hi:Nat} {u:Value} {p:List (List Ins)} {w:World} {loc:Int} (hu:Ag Ins.cells 4 w lo hi u p) (ht:total p<=1048576) :
  Calls Q4 189 #[u,.int .i64 loc,.bool QX] w λe w'=>e = .returned (.int .i64<|ub (bu loc wrB) p)/\Below w.heap.size w w':=by
 obtain ⟨xs,hxs,hxl,hxr⟩:=hu;obtain ⟨A,ca,rfl,hca,hma,hA⟩:=hxs.vals;clear hxs;have HX:=Lib.hid hxl;clear hxl;have HXR:=Lib.hid hxr;clear hxr;have HAA:=Lib.hid hA;clear hA
 go_enter func189,Tryz.ntmps189
 go_wp2_with fail
 go_loopw [7,8] (λn i wr=>∃ k:Nat,k<=xs.length/\i = .int .i64 k/\n = .int .i64 (ub (bu loc wrB)<|p.take k)/\Below w.heap.size w wr) (λ_ i _=>xs.length-(intOf i).toNat)
 case atStart=>exact ⟨0,Tw _,rfl,rfl,Below.refl _ _⟩
 case round=>
  obtain ⟨k,hk,rfl,rfl,hb⟩:=hrel
  by_cases hlt:k<xs.length
  ·obtain ⟨ba,oa,rfl,_,_,hba,hA⟩:=HAA.out (by omega);have hp:k<p.length:=HX.out ▸ hlt;obtain ⟨Ak,ck,hk1,hk2,hk3,hrow⟩:=(HXR.out k hlt hp).inss;have HROW:=Lib.hid hrow;clear hrow;have ca0:=hA k hlt;rw [hk1] at ca0;have CA:=Lib.hid ca0;clear hA hk1 ca0;have i1:(0:Int)<=(k:Int):=by omega
   have i2:(k:Int)<(xs.length:Int):=by omega
   have HT:=Lib.hid<|eY (bu loc wrB) p k hp;have HPL:=Lib.hid λj=>lm (bu loc wrB) p k j hp;obtain ⟨wo,rfl⟩:∃ wo:World,wo=wr:=⟨_,rfl⟩
   go_wp2_with fail
   go_loopw [7,9] (λn i w2=>∃ j:Nat,j<=p[k].length/\i = .int .i64 j/\n = .int .i64 (ub (bu loc wrB) (p.take k)+(p[k].take j).countP (bu loc wrB):Nat)/\Below w.heap.size w w2) (λ_ i _=>p[k].length-(intOf i).toNat)
   case atStart=>exact ⟨0,Tw _,rfl,by simp,hb⟩
   case round=>
    obtain ⟨j,hj,rfl,rfl,hb2⟩:=hrel;have c0:=(hb2.cell (p:=⟨ba,oa+k,Q0⟩) hba).trans CA.out;have hsm:ub (bu loc wrB) (p.take k)+(p[k].take j).countP (bu loc wrB)<=1048576:=Tz (HPL.out j) ht
    by_cases hlj:j<p[k].length
    ·obtain ⟨bb,ob,rfl,_,_,hbb,hB⟩:=HROW.out (by omega);obtain ⟨d1,d2,d3,d4⟩:=(hB j hlj).below hb2 hbb;have HS:=Lib.hid<|dN (bu loc wrB) p[k] j hlj;have j1:(0:Int)<=(j:Int):=by omega
     have j2:(j:Int)<(p[k].length:Int):=by omega
     clear hB
     go_wp2_with (go_at_call 131;refine (EP _ _ _ _ _).mono ?_;rintro e w3 ⟨rfl,hq⟩)
     ·have ef:bu loc wrB p[k][j]=QX:=by simp [bu,wrB, *]
      go_roundw
      case rel=>
       have h:=HS.out;rw [if_pos ef] at h;exact ⟨j+1,by omega,by go_num,congrArg (Value.int .i64) (by omega),(hb2.alloc hb2.size _).trans<|hq.mono (by simp;have := hb2.size;omega)⟩
      case measure=>simp [intOf];omega
     ·have ef : ¬ bu loc wrB p[k][j]=QX:=by simp [bu,wrB, *]
      go_roundw
      case rel=>
       have h:=HS.out;rw [if_neg ef] at h;exact ⟨j+1,by omega,by go_num,congrArg (Value.int .i64) (by omega),(hb2.alloc hb2.size _).trans<|hq.mono (by simp;have := hb2.size;omega)⟩
      case measure=>simp [intOf];omega
     have ef : ¬ bu loc wrB p[k][j]=QX:=by simp [bu, *]
     go_roundw
     case rel=>
      have h:=HS.out;rw [if_neg ef] at h;exact ⟨j+1,by omega,by go_num,congrArg (Value.int .i64) (by omega),hb2.alloc hb2.size _⟩
     case measure=>simp [intOf];omega
    have hjx:p[k].take j=p[k]:=Tx (by omega);have HJ:=Lib.hid hjx;clear hjx
    go_wp2_with fail
    go_roundw
    case rel=>exact ⟨k+1,by omega,by go_num,congrArg (Value.int .i64) (by rw [HJ.out,HT.out]),hb2⟩
    case measure=>simp [intOf];omega
  have hkx:p.take k=p:=Tx (by rw [<- HX.out];omega);have HK:=Lib.hid hkx;clear hkx
  go_wp2_with fail
  go_ret
  exact ⟨BW (by rw [HK.out]),hb⟩
theorem Jg {lo hi:Nat} {u:Value} {p:List (List Ins)} {w:World} {loc:Int} (hu:Ag Ins.cells 4 w lo hi u p) (ht:total p<=1048576) :
  Calls Q4 189 #[u,.int .i64 loc,.bool QY] w λe w'=>e = .returned (.int .i64<|ub (bu loc rdB) p)/\Below w.heap.size w w':=by
 obtain ⟨xs,hxs,hxl,hxr⟩:=hu;obtain ⟨A,ca,rfl,hca,hma,hA⟩:=hxs.vals;clear hxs;have HX:=Lib.hid hxl;clear hxl;have HXR:=Lib.hid hxr;clear hxr;have HAA:=Lib.hid hA;clear hA
 go_enter func189,Tryz.ntmps189
 go_wp2_with fail
 go_loopw [7,8] (λn i wr=>∃ k:Nat,k<=xs.length/\i = .int .i64 k/\n = .int .i64 (ub (bu loc rdB)<|p.take k)/\Below w.heap.size w wr) (λ_ i _=>xs.length-(intOf i).toNat)
 case atStart=>exact ⟨0,Tw _,rfl,rfl,Below.refl _ _⟩
 case round=>
  obtain ⟨k,hk,rfl,rfl,hb⟩:=hrel
  by_cases hlt:k<xs.length
  ·obtain ⟨ba,oa,rfl,_,_,hba,hA⟩:=HAA.out (by omega);have hp:k<p.length:=HX.out ▸ hlt;obtain ⟨Ak,ck,hk1,hk2,hk3,hrow⟩:=(HXR.out k hlt hp).inss;have HROW:=Lib.hid hrow;clear hrow;have ca0:=hA k hlt;rw [hk1] at ca0;have CA:=Lib.hid ca0;clear hA hk1 ca0;have i1:(0:Int)<=(k:Int):=by omega
   have i2:(k:Int)<(xs.length:Int):=by omega
   have HT:=Lib.hid<|eY (bu loc rdB) p k hp;have HPL:=Lib.hid λj=>lm (bu loc rdB) p k j hp;obtain ⟨wo,rfl⟩:∃ wo:World,wo=wr:=⟨_,rfl⟩
   go_wp2_with fail
   go_loopw [7,9] (λn i w2=>∃ j:Nat,j<=p[k].length/\i = .int .i64 j/\n = .int .i64 (ub (bu loc rdB) (p.take k)+(p[k].take j).countP (bu loc rdB):Nat)/\Below w.heap.size w w2) (λ_ i _=>p[k].length-(intOf i).toNat)
   case atStart=>exact ⟨0,Tw _,rfl,by simp,hb⟩
   case round=>
    obtain ⟨j,hj,rfl,rfl,hb2⟩:=hrel;have c0:=(hb2.cell (p:=⟨ba,oa+k,Q0⟩) hba).trans CA.out;have hsm:ub (bu loc rdB) (p.take k)+(p[k].take j).countP (bu loc rdB)<=1048576:=Tz (HPL.out j) ht
    by_cases hlj:j<p[k].length
    ·obtain ⟨bb,ob,rfl,_,_,hbb,hB⟩:=HROW.out (by omega);obtain ⟨d1,d2,d3,d4⟩:=(hB j hlj).below hb2 hbb;have HS:=Lib.hid<|dN (bu loc rdB) p[k] j hlj;have j1:(0:Int)<=(j:Int):=by omega
     have j2:(j:Int)<(p[k].length:Int):=by omega
     clear hB
     go_wp2_with (go_at_call 130;refine (FV _ _ _ _ _).mono ?_;rintro e w3 ⟨rfl,hq⟩)
     ·have ef:bu loc rdB p[k][j]=QX:=by simp [bu,rdB, *]
      go_roundw
      case rel=>
       have h:=HS.out;rw [if_pos ef] at h;exact ⟨j+1,by omega,by go_num,congrArg (Value.int .i64) (by omega),(hb2.alloc hb2.size _).trans<|hq.mono (by simp;have := hb2.size;omega)⟩
      case measure=>simp [intOf];omega
     ·have ef : ¬ bu loc rdB p[k][j]=QX:=by simp [bu,rdB, *]
      go_roundw
      case rel=>
       have h:=HS.out;rw [if_neg ef] at h;exact ⟨j+1,by omega,by go_num,congrArg (Value.int .i64) (by omega),(hb2.alloc hb2.size _).trans<|hq.mono (by simp;have := hb2.size;omega)⟩
      case measure=>simp [intOf];omega
     have ef : ¬ bu loc rdB p[k][j]=QX:=by simp [bu, *]
     go_roundw
     case rel=>
      have h:=HS.out;rw [if_neg ef] at h;exact ⟨j+1,by omega,by go_num,congrArg (Value.int .i64) (by omega),hb2.alloc hb2.size _⟩
     case measure=>simp [intOf];omega
    have hjx:p[k].take j=p[k]:=Tx (by omega);have HJ:=Lib.hid hjx;clear hjx
    go_wp2_with fail
    go_roundw
    case rel=>exact ⟨k+1,by omega,by go_num,congrArg (Value.int .i64) (by rw [HJ.out,HT.out]),hb2⟩
    case measure=>simp [intOf];omega
  have hkx:p.take k=p:=Tx (by rw [<- HX.out];omega);have HK:=Lib.hid hkx;clear hkx
  go_wp2_with fail
  go_ret
  exact ⟨BW (by rw [HK.out]),hb⟩
def n8 (n:Nat):Nat:=min n 3001
def QL:Nat->Nat
 | 0=>1
 | n+1=>QL n*(n+1)
theorem DY (n:Nat):1<=QL n:=by
 induction n with
 | zero=>exact Tv _
 | succ n ih=>exact TA ih (by omega)
def cw (p:List<|List Ins) (l:Int):Nat:=ub (bu l wrB) p
def cr (p:List<|List Ins) (l:Int):Nat:=ub (bu l rdB) p
def Oi (p:List<|List Ins) (l:Nat):Nat:=(cw p l+1) ^ (cr p l)*QL (cw p l)
def pT (p:List<|List Ins):Nat->Nat
 | 0=>1
 | l+1=>pT p l*Oi p l
def vu (p:List<|List Ins):Nat:=pT p 3
theorem DZ {a b:Nat} (n:Nat) (h:n8 a=n8 b) (hn:1<=n):n8 (a*n)=n8 (b*n):=by
 unfold n8 at *
 by_cases ha:a<3001
 ·have : a=b:=by omega
  rw [this]
 have h1:a<=a*n:=TB a hn;have h2:b<=b*n:=TB b hn;omega
theorem GY {a b n:Nat} (h:n8 a=n8 b) (ha:3000<a) (hn:1<=n):n8 a=n8 (b*n):=by
 unfold n8 at *;have h2:b<=b*n:=TB b hn;omega
theorem Jh {a i r:Nat} (h:i<=r):a ^ r=a ^ i*a ^ (r-i):=by rw [<- Nat.pow_add];congr 1;omega
theorem EQ (i:Nat):∀ d,∃ q,1<=q/\QL (i+d)=QL i*q
 | 0=>⟨1,Tv _,by simp⟩
 | d+1=>by
  obtain ⟨q,hq,h⟩:=EQ i d;exact ⟨q*(i+d+1),TA hq (by omega),by rw [<- Nat.add_assoc,QL,h,Ty]⟩
theorem Ji {n a:Int} (h:n<=3000) (_:0<=n) (ha:a<=1048577) (ha0:0<=a):n*a<=3145731000:=by
 have : n*a<=3000*1048577:=Int.mul_le_mul h ha ha0 (by omega);omega
theorem Jj {n a:Nat} (h:n<=3000) (ha:a<=1048577):n*a<=4000000000:=by
 have : n*a<=3000*1048577:=Nat.mul_le_mul h ha;omega
set_option maxHeartbeats 1000000 in
theorem FW {lo hi:Nat} {u:Value} {p:List (List Ins)} {w:World} (hu:Ag Ins.cells 4 w lo hi u p) (hhi:hi<=w.heap.size) (ht:total p<=1048576) :
  Calls Q4 116 #[u,.int .i64 3000] w λe w'=>e = .returned (.int .i64<|n8<|vu p)/\Below w.heap.size w w':=by
 have HU:=Lib.hid hu;clear hu
 go_enter func116,Tryz.ntmps116
 go_wp2_with fail
 go_loopw [5,6] (λsn sl wr=>∃ (l n:Nat),l<=3/\sl = .int .i64 l/\sn = .int .i64 n/\n<=4000000000/\1<=n/\n8 n=n8 (pT p l)/\Below w.heap.size w wr) (λ_ sl _=>3-(intOf sl).toNat)
 case atStart=>exact ⟨0,1,by omega,rfl,rfl,by omega,by omega,rfl,Below.refl _ _⟩
 case round=>
  obtain ⟨l,n,hl,rfl,rfl,hn,hn1,hcap,hb⟩:=hrel;have HC:=Lib.hid hcap;clear hcap
  by_cases hl3:l<3
  ·have hle:(l:Int)<=2:=by omega
   have HW:=Lib.hid (show pT p (l+1)=pT p l*((cw p l+1) ^ (cr p l)*QL (cw p l)) from rfl);have hcw:=BZ (bu (l:Int) wrB) p;have hcr:=BZ (bu (l:Int) rdB) p;have CW:=Lib.hid λW hs=>Jf (loc:=(l:Int)) (w:=W) (hs:Ag Ins.cells 4 W lo hi u p) ht;have CR:=Lib.hid λW hs=>Jg (loc:=(l:Int)) (w:=W) (hs:Ag Ins.cells 4 W lo hi u p) ht;change cw p l<=total p at hcw;change cr p l<=total p at hcr;have CW2:Hid (∀ W,Ag Ins.cells 4 W lo hi u p->Calls Q4 189 #[u,.int .i64 (l:Int),.bool QX] W λe w'=>e = .returned (.int .i64<|cw p l)/\Below W.heap.size W w'):=CW.out;have CR2:Hid (∀ W,Ag Ins.cells 4 W lo hi u p->Calls Q4 189 #[u,.int .i64 (l:Int),.bool QY] W λe w'=>e = .returned (.int .i64<|cr p l)/\Below W.heap.size W w'):=CR.out;clear CW CR;generalize cw p l=a at *;generalize cr p l=r at *;obtain ⟨wo,rfl⟩:∃ wo:World,wo=wr:=⟨_,rfl⟩
   go_wp2_with fail
   refine (CW2.out _<|HU.out.below hb hhi).mono ?_;rintro e w1 ⟨rfl,hq1⟩;have hb1:Below w.heap.size w w1:=hb.trans<|hq1.mono hb.size;have ha1:(a:Int)<=1048576:=by omega
   go_wp2_with fail
   go_loopw [5,8] (λsn si w2=>∃ (i n:Nat),i<=r/\si = .int .i64 i/\sn = .int .i64 n/\n<=4000000000/\1<=n/\n8 n=n8 (pT p l*(a+1) ^ i)/\Below w.heap.size w w2) (λ_ si _=>r-(intOf si).toNat)
   case atStart=>exact ⟨0,n,Tw _,rfl,rfl,hn,hn1,by rw [HC.out];simp,hb1⟩
   case round=>
    obtain ⟨i,n,hi,rfl,rfl,hn,hn1,hcap,hb2⟩:=hrel;have HC1:=Lib.hid hcap;clear hcap
    by_cases hgo:i<r/\n<=3000
    ·obtain ⟨h1,h2⟩:=hgo;have h1':(i:Int)<(r:Int):=by omega
     have h2':(n:Int)<=3000:=by omega
     have hmul:n*(a+1)<=4000000000:=Jj h2 (by omega);have hmul1:1<=n*(a+1):=TA hn1 (by omega);have hmulI:(n:Int)*((a:Int)+1)<=3145731000:=Ji h2' (by omega) (by omega) (by omega);have hmulI0:0<=(n:Int)*((a:Int)+1):=TC (by omega) (by omega);have HM:=Lib.hid hmul;clear hmul;have HM1:=Lib.hid hmul1;clear hmul1
     go_wp2_with (go_at_call 189;refine (CR2.out _<|HU.out.below hb2 hhi).mono ?_;rintro e w3 ⟨rfl,hq3⟩)
     go_roundw
     case rel=>
      refine ⟨i+1,n*(a+1),by omega,by go_num,by push_cast;rfl,HM.out,HM1.out,?_,hb2.trans<|hq3.mono hb2.size⟩;rw [Nat.pow_succ,<- Ty];exact DZ _ HC1.out (by omega)
     case measure=>simp [intOf];omega
    have hc2:n8 n=n8 (pT p l*(a+1) ^ r):=by
     by_cases h:i<r
     ·rw [Jh hi,<- Ty];exact GY HC1.out (by omega)<|Nat.pow_pos (by omega)
     have : i=r:=by omega
     rw [<- this];exact HC1.out
    have HC2:=Lib.hid hc2;clear hc2;have hor:((i:Int)<(r:Int) /\ ¬ (n:Int)<=3000) \/ ¬ (i:Int)<(r:Int):=by omega
    clear hgo;rcases hor with ⟨h1,h2⟩ | h1
    all_goals
     obtain ⟨wi,rfl⟩:∃ wi:World,wi=wr:=⟨_,rfl⟩
     go_wp2_with (go_at_call 189;refine (CR2.out _<|HU.out.below hb2 hhi).mono ?_;rintro e w3 ⟨rfl,hq3⟩)
     have hb3:Below w.heap.size w w3:=hb2.trans<|hq3.mono hb2.size
     go_loopw [5,9] (λsn si w4=>∃ (i n:Nat),2<=i/\i<=max 2 (a+1)/\si = .int .i64 i/\sn = .int .i64 n/\n<=4000000000/\1<=n/\n8 n=n8 (pT p l*(a+1) ^ r*QL (i-1))/\Below w.heap.size w w4) (λ_ si _=>a+3-(intOf si).toNat)
     case atStart=>exact ⟨2,n,Tv _,by omega,rfl,rfl,hn,hn1,by rw [HC2.out];simp [QL],hb3⟩
     case round=>
      obtain ⟨i,n,hi2,hi,rfl,rfl,hn,hn1,hcap,hb4⟩:=hrel;have HC3:=Lib.hid hcap;clear hcap
      by_cases hgo:i<=a/\n<=3000
      ·obtain ⟨h1,h2⟩:=hgo;have h1':(i:Int)<=(a:Int):=by omega
       have h2':(n:Int)<=3000:=by omega
       have hmul:n*i<=4000000000:=Jj h2 (by omega);have hmul1:1<=n*i:=TA hn1 (by omega);have hmulI:(n:Int)*(i:Int)<=3145731000:=Ji h2' (by omega) (by omega) (by omega);have hmulI0:0<=(n:Int)*(i:Int):=TC (by omega) (by omega);have HM:=Lib.hid hmul;clear hmul;have HM1:=Lib.hid hmul1;clear hmul1
       go_wp2_with fail
       go_roundw
       case rel=>
        refine ⟨i+1,n*i,by omega,by omega,by go_num,by push_cast;rfl,HM.out,HM1.out,?_,hb4⟩;have : QL (i+1-1)=QL (i-1)*i:=by
         obtain ⟨q,rfl⟩:∃ q,i=q+1:=⟨i-1,by omega⟩
         rfl
        rw [this,<- Ty];exact DZ _ HC3.out (by omega)
       case measure=>simp [intOf];omega
      have hc4:n8 n=n8 (pT p<|l+1):=by
       rw [HW.out,<- Ty]
       by_cases h:i<=a
       ·obtain ⟨q,hq,hf⟩:=EQ (i-1)<|a-(i-1);rw [show i-1+(a-(i-1))=a from by omega] at hf;rw [hf,<- Ty];exact GY HC3.out (by omega) hq
       have : QL (i-1)=QL a:=by
        by_cases ha0:a=0
        ·have : i=2:=by omega
         subst this ha0
         rfl
        congr 1;omega
       rw [<- this];exact HC3.out
      have HC4:=Lib.hid hc4;clear hc4;have hor:((i:Int)<=(a:Int) /\ ¬ (n:Int)<=3000) \/ ¬ (i:Int)<=(a:Int):=by omega
      clear hgo;rcases hor with ⟨h1,h2⟩ | h1
      all_goals
       go_wp2_with fail
       go_roundw
       case rel=>exact ⟨l+1,n,by omega,by go_num,rfl,hn,hn1,HC4.out,hb4⟩
       case measure=>simp [intOf];omega
  have hl4:l=3:=by omega
  subst hl4
  by_cases hbig:n<=3000
  ·have hfin:n=n8 (vu p):=by
    have := HC.out;unfold vu n8 at *;omega
   have HF:=Lib.hid hfin;clear hfin;have hb' : ¬ (3000:Int)<(n:Int):=by omega
   go_wp2_with fail
   go_ret
   exact ⟨BW (by rw [<- HF.out]),hb⟩
  have hfin:3001=n8 (vu p):=by
   have := HC.out;unfold vu n8 at *;omega
  have HF:=Lib.hid hfin;clear hfin;have hb':(3000:Int)<(n:Int):=by omega
  go_wp2_with fail
  go_ret
  exact ⟨BW (by rw [<- HF.out];rfl),hb⟩
theorem Di (g a n:Nat) (t:TypeId) (w:World) (hB:Blk w g t #[.int .i64 a]) (ha:a<=3001) (hn:n<=1048577) :
  Calls Q4 134 #[.int .i64 n,.pointer (QZ ⟨g,0,Q0⟩)] w λe w'=>e = .returned (.tuple #[])/\w.setCell ⟨g,0,Q0⟩ (.int .i64 (n8 (a*n):Nat))=w':=by
 have h1:(a:Int)*(n:Int)<=4000000000:=by
  have : (a:Int)*n<=3001*1048577:=Int.mul_le_mul (by omega) (by omega) (by omega) (by omega);omega
 have h0:0<=(a:Int)*(n:Int):=TC (by omega) (by omega);have c:=hB.cell 0;have f:=hB.frozen 0;have hc:w.cell? ⟨g,0,Q0⟩=QZ (.int .i64 a):=c;clear c hB
 go_enter func134,Tryz.ntmps134
 go_wp2_with fail
 ·have hv:((n8 (a*n):Nat):Int)=3001:=by
   have : ((a*n:Nat):Int)=(a:Int)*(n:Int):=by push_cast;rfl
   unfold n8;omega
  go_end0
  exact ⟨rfl,by rw [hv]⟩
 have hv:((n8 (a*n):Nat):Int)=(a:Int)*(n:Int):=by
  have : ((a*n:Nat):Int)=(a:Int)*(n:Int):=by push_cast;rfl
  unfold n8;omega
 go_end0
 exact ⟨rfl,by rw [hv]⟩
theorem Jk (n:Nat):n8 n<=3001:=Nat.min_le_right _ _
theorem ER (a n:Nat) (hn:1<=n):n8 (n8 a*n)=n8 (a*n):=DZ n (by unfold n8;omega) hn
set_option maxHeartbeats 2000000 in
theorem Jl {lo hi:Nat} {u:Value} {p:List (List Ins)} {w:World} (hu:Ag Ins.cells 4 w lo hi u p) (ht:total p<=1048576) :
    Calls Q4 79 #[u] w λe w'=>e = .returned (.int .i64<|n8<|vu p)/\Below w.heap.size w w':=by
  obtain ⟨xs,hxs,hxl,hxr⟩:=hu;obtain ⟨A,ca,rfl,hca,hma,hA⟩:=hxs.vals;clear hxs;have HX:=Lib.hid hxl;clear hxl;have HXR:=Lib.hid hxr;clear hxr;have HAA:=Lib.hid hA;clear hA
  go_enter func79,Tryz.ntmps79
  go_wp2_with fail
  go_loopw [14] (λsl wr=>∃ (l:Nat),l<=3/\sl = .int .i64 l/\Blk wr w.heap.size 3 #[.int .i64 (n8 (pT p l):Nat)]/\Below w.heap.size w wr) (λsl _=>3-(intOf sl).toNat)
  case atStart=>exact ⟨0,by omega,rfl,Blk.new _ _ _,(Below.refl _ _).alloc (Tv _) _⟩
  case round=>
    obtain ⟨l,hl,rfl,hB,hb⟩:=hrel;have HB:=Lib.hid hB;clear hB;have hgl:=HB.out.lt
    by_cases hl3:l<3
    · have HW:=Lib.hid (show pT p (l+1)=pT p l*((cw p l+1) ^ (cr p l)*QL (cw p l)) from rfl);obtain ⟨wo,rfl⟩:∃ wo:World,wo=wr:=⟨_,rfl⟩;have hl3':(l:Int)<3:=by omega
      go_wp2_with fail
      go_loopw [6,7,19] (λsr sw i w1=>∃ k:Nat,k<=xs.length/\i = .int .i64 k/\sr = .int .i64 (ub (bu l rdB)<|p.take k)/\sw = .int .i64 (ub (bu l wrB)<|p.take k)/\Below wo.heap.size wo w1) (λ_ _ i _=>xs.length-(intOf i).toNat)
      case atStart=>exact ⟨0,Tw _,rfl,rfl,rfl,Below.refl _ _⟩
      case round=>
        obtain ⟨k,hk,rfl,rfl,rfl,hb1⟩:=hrel;have hbw:=hb.trans<|hb1.mono hb.size
        by_cases hlt:k<xs.length
        · obtain ⟨ba,oa,rfl,_,_,hba,hA⟩:=HAA.out (by omega);have hp:k<p.length:=HX.out ▸ hlt;obtain ⟨Ak,ck,hk1,hk2,hk3,hrow⟩:=(HXR.out k hlt hp).inss;have HROW:=Lib.hid hrow;clear hrow;have ca0:=(hbw.cell (p:=⟨ba,oa+k,Q0⟩) hba).trans<|hA k hlt;rw [hk1] at ca0;clear hA hk1;have i1:(0:Int)<=(k:Int):=by omega
          have i2:(k:Int)<(xs.length:Int):=by omega
          have HTr:=Lib.hid<|eY (bu l rdB) p k hp;have HTw:=Lib.hid<|eY (bu l wrB) p k hp;have HPr:=Lib.hid λj=>lm (bu l rdB) p k j hp;have HPw:=Lib.hid λj=>lm (bu l wrB) p k j hp;obtain ⟨w1,rfl⟩:∃ w1:World,w1=wr:=⟨_,rfl⟩
          go_wp2_with fail
          go_loopw [6,7,25] (λsr sw i w2=>∃ j:Nat,j<=p[k].length/\i = .int .i64 j/\sr = .int .i64 (ub (bu l rdB) (p.take k)+(p[k].take j).countP (bu l rdB):Nat)/\sw = .int .i64 (ub (bu l wrB) (p.take k)+(p[k].take j).countP (bu l wrB):Nat)/\Below w1.heap.size w1 w2) (λ_ _ i _=>p[k].length-(intOf i).toNat)
          case atStart=>exact ⟨0,Tw _,rfl,by simp,by simp,Below.refl _ _⟩
          case round=>
            obtain ⟨j,hj,rfl,rfl,rfl,hb2⟩:=hrel;have hbw2:=hbw.trans<|hb2.mono hbw.size;have hsm1:ub (bu l rdB) (p.take k)+(p[k].take j).countP (bu l rdB)<=1048576:=Tz (HPr.out j) ht;have hsm2:ub (bu l wrB) (p.take k)+(p[k].take j).countP (bu l wrB)<=1048576:=Tz (HPw.out j) ht
            by_cases hlj:j<p[k].length
            · obtain ⟨bb,ob,rfl,_,_,hbb,hBB⟩:=HROW.out (by omega);obtain ⟨d1,d2,d3,d4⟩:=(hBB j hlj).below hbw2 hbb;have HSr:=Lib.hid<|dN (bu l rdB) p[k] j hlj;have HSw:=Lib.hid<|dN (bu l wrB) p[k] j hlj;have j1:(0:Int)<=(j:Int):=by omega
              have j2:(j:Int)<(p[k].length:Int):=by omega
              clear hBB
              go_wp2_with (first
                | (go_at_call 80;refine (Je _ _ _ _ _).mono ?_;rintro e w3 ⟨rfl,hq⟩;have z0:=hq.cell (p:=⟨wr.heap.size,0,Q0⟩) (by simp);have z1:=hq.cell (p:=⟨wr.heap.size,1,Q0⟩) (by simp);have z2:=hq.cell (p:=⟨wr.heap.size,2,Q0⟩) (by simp);have z3:=hq.cell (p:=⟨wr.heap.size,3,Q0⟩)<|by simp)
                | (go_at_call 81;refine (H9 _ _ _ _ _).mono ?_;rintro e w4 ⟨rfl,hq2⟩))
              all_goals
                have hr:=HSr.out;have hw:=HSw.out
                first
                  | (have ef:bu (l:Int) rdB p[k][j]=QX:=by simp [bu,rdB, *]
                     rw [if_pos ef] at hr)
                  | (have ef : ¬ bu (l:Int) rdB p[k][j]=QX:=by simp [bu,rdB, *]
                     rw [if_neg ef] at hr)
                first
                  | (have ef:bu (l:Int) wrB p[k][j]=QX:=by simp [bu,wrB, *]
                     rw [if_pos ef] at hw)
                  | (have ef : ¬ bu (l:Int) wrB p[k][j]=QX:=by simp [bu,wrB, *]
                     rw [if_neg ef] at hw)
                go_roundw
                case rel=>
                  have hsz:=hb2.size;refine ⟨j+1,by omega,by go_num,congrArg (Value.int .i64) (by omega),congrArg (Value.int .i64) (by omega),?_⟩
                  first
                    | exact hb2.alloc hb2.size _
                    | exact ((hb2.alloc hb2.size _).trans<|hq.mono<|by simp;omega).trans (hq2.mono (by have := hq.size;simp at this;omega))
                case measure=>simp [intOf];omega
            have hjx:p[k].take j=p[k]:=Tx (by omega);have HJ:=Lib.hid hjx;clear hjx
            go_wp2_with fail
            go_roundw
            case rel=>exact ⟨k+1,by omega,by go_num,congrArg (Value.int .i64) (by rw [HJ.out,HTr.out]),congrArg (Value.int .i64) (by rw [HJ.out,HTw.out]),hb1.trans<|hb2.mono hb1.size⟩
            case measure=>simp [intOf];omega
        have hkx:p.take k=p:=Tx (by rw [<- HX.out];omega);have B1:=HB.out.below hb1 hgl;have hcw:=BZ (bu (l:Int) wrB) p;have hcr:=BZ (bu (l:Int) rdB) p;have er:ub (bu (l:Int) rdB) (p.take k)=cr p l:=by rw [hkx];rfl
        have ew:ub (bu (l:Int) wrB) (p.take k)=cw p l:=by rw [hkx];rfl
        rw [er,ew];change cw p l<=total p at hcw;change cr p l<=total p at hcr;clear er ew hkx;generalize cw p l=a at *;generalize cr p l=r at *;have BB1:=Lib.hid B1;clear B1;have ha1:(a:Int)<=1048576:=by omega
        have hr1:(r:Int)<=1048576:=by omega
        go_wp2_with fail
        go_loopw [52] (λsi w4=>∃ (i:Nat),i<=r/\si = .int .i64 i/\Blk w4 w.heap.size 3 #[.int .i64 (n8 (pT p l*(a+1) ^ i):Nat)]/\Below w.heap.size w w4) (λsi _=>r-(intOf si).toNat)
        case atStart=>exact ⟨0,Tw _,rfl,by simpa using BB1.out,hbw⟩
        case round=>
          obtain ⟨i,hi,rfl,hBi,hb4⟩:=hrel;have HBi:=Lib.hid hBi;clear hBi
          by_cases hir:i<r
          · have hir':(i:Int)<(r:Int):=by omega
            have hc3:n8 (pT p l*(a+1) ^ i)<=3001:=Jk _;have hstep:n8 (n8 (pT p l*(a+1) ^ i)*(a+1))=n8 (pT p l*(a+1) ^ (i+1)):=by rw [ER _ _ (by omega),Nat.pow_succ,Ty]
            have HST:=Lib.hid hstep;clear hstep;have hcast:((a+1:Nat):Int)=(a:Int)+1:=by push_cast;rfl
            have EX:=Di w.heap.size (n8<|pT p l*(a+1) ^ i) (a+1) 3 wr HBi.out hc3 (by omega);rw [hcast] at EX;have HEX:=Lib.hid EX;clear EX hcast hc3
            go_wp2_with (go_at_call 134;refine HEX.out.mono ?_;rintro e w5 ⟨rfl,rfl⟩)
            go_roundw
            case rel=>exact ⟨i+1,by omega,by go_num,by rw [<- HST.out];exact HBi.out.set_ 0 _,hb4.setCell (by simp) _⟩
            case measure=>simp [intOf];omega
          have hix:i=r:=by omega
          subst hix
          go_wp2_with fail
          go_loopw [60] (λsi w4=>∃ (j:Nat),j<=a/\si = .int .i64 j/\Blk w4 w.heap.size 3 #[.int .i64 (n8 (pT p l*(a+1) ^ i*QL j):Nat)]/\Below w.heap.size w w4) (λsi _=>a-(intOf si).toNat)
          case atStart=>exact ⟨0,Tw _,rfl,by simpa [QL] using HBi.out,hb4⟩
          case round=>
            obtain ⟨j,hj,rfl,hBj,hb5⟩:=hrel;have HBj:=Lib.hid hBj;clear hBj
            by_cases hja:j<a
            · have hja':(j:Int)<(a:Int):=by omega
              have hc3:n8 (pT p l*(a+1) ^ i*QL j)<=3001:=Jk _;have hstep:n8 (n8 (pT p l*(a+1) ^ i*QL j)*(j+1))=n8 (pT p l*(a+1) ^ i*QL (j+1)):=by rw [ER _ _ (by omega),QL,<- Ty]
              have HST:=Lib.hid hstep;clear hstep;have hcast:((j+1:Nat):Int)=(j:Int)+1:=by push_cast;rfl
              have EX:=Di w.heap.size (n8<|pT p l*(a+1) ^ i*QL j) (j+1) 3 wr HBj.out hc3 (by omega);rw [hcast] at EX;have HEX:=Lib.hid EX;clear EX hcast hc3
              go_wp2_with (go_at_call 134;refine HEX.out.mono ?_;rintro e w5 ⟨rfl,rfl⟩)
              go_roundw
              case rel=>exact ⟨j+1,by omega,by go_num,by rw [<- HST.out];exact HBj.out.set_ 0 _,hb5.setCell (by simp) _⟩
              case measure=>simp [intOf];omega
            have hjx:j=a:=by omega
            subst hjx
            go_wp2_with fail
            go_roundw
            case rel=>exact ⟨l+1,by omega,by go_num,by rw [HW.out,<- Ty];exact HBj.out,hb5⟩
            case measure=>simp [intOf];omega
    have hl4:l=3:=by omega
    subst hl4;have c0:=HB.out.cell 0;have c1:wr.cell? ⟨w.heap.size,0,Q0⟩=QZ (.int .i64 (n8 (pT p 3):Nat)):=c0;clear c0
    go_wp2_with fail
    go_ret
    exact ⟨BW rfl,hb⟩
def wC (x:Ins):Bool:=x.op != 4
def rowOk (r:List Ins):Bool:=Q3 (r.length<=7)&&r.all dZ
def sN (p:List<|List Ins):Bool:=Q3 (p.length<=3)&&p.all rowOk&&Q3 (ub wC p<=12)
def bf (p:List<|List Ins):Bool:=sN p&&Q3 (0<p.length)&&Q3 (vu p<=3000)
theorem yZ {p:List (List Ins)} (k:Nat) (h:k<p.length) (hb:rowOk p[k]=QY):sN p=QY:=by
 have : p.all rowOk=QY:=by
  rw [List.all_eq_false];exact ⟨p[k],List.getElem_mem h,by rw [hb];simp⟩
 simp [sN,this]
theorem Dj {r:List Ins} (h:7<r.length):rowOk r=QY:=by
 simp [rowOk];omega
theorem ES {r:List Ins} (j:Nat) (h:j<r.length) (hb:dZ r[j]=QY):rowOk r=QY:=by
 have : r.all dZ=QY:=by
  rw [List.all_eq_false];exact ⟨r[j],List.getElem_mem h,by rw [hb];simp⟩
 simp [rowOk,this]
theorem Dk {r:List Ins} (h:r.length<=7) (hg:∀ j (h:j<r.length),dZ r[j]=QX):rowOk r=QX:=by
 simp only [rowOk,bae,dte,List.all_eq_true];refine ⟨h,λx hx=>?_⟩;obtain ⟨j,hj,rfl⟩:=TE hx;exact hg j hj
theorem B0 {p:List (List Ins)} (h:p.length<=3) (hg:∀ j (h:j<p.length),rowOk p[j]=QX):sN p=Q3 (ub wC p<=12):=by
 have : p.all rowOk=QX:=by
  rw [List.all_eq_true];intro x hx;obtain ⟨j,hj,rfl⟩:=TE hx;exact hg j hj
 simp [sN,this,h]
set_option maxHeartbeats 1000000 in
theorem Ca {lo hi:Nat} {u:Value} {p:List (List Ins)} {w:World} (hu:Ag Ins.cells 4 w lo hi u p) (ht:total p<=1048576) :
    Calls Q4 115 #[u] w λe w'=>e = .returned (.bool<|sN p)/\Below w.heap.size w w':=by
  obtain ⟨xs,hxs,hxl,hxr⟩:=hu;obtain ⟨A,ca,rfl,hca,hma,hA⟩:=hxs.vals;clear hxs;have HX:=Lib.hid hxl;clear hxl;have HXR:=Lib.hid hxr;clear hxr;have HAA:=Lib.hid hA;clear hA
  by_cases h3:xs.length<=3
  · have h3' : ¬ (3:Int)<(xs.length:Int):=by omega
    go_enter func115,Tryz.ntmps115
    go_wp2_with fail
    go_loopw [3,4] (λn i wr=>∃ k:Nat,k<=xs.length/\i = .int .i64 k/\n = .int .i64 (ub wC<|p.take k)/\(∀ q (h:q<p.length),q<k->rowOk p[q]=QX)/\Below w.heap.size w wr) (λ_ i _=>xs.length-(intOf i).toNat)
    case atStart=>exact ⟨0,Tw _,rfl,rfl,λq _ h=>absurd h (by omega),Below.refl _ _⟩
    case round=>
      obtain ⟨k,hk,rfl,rfl,hgood,hb⟩:=hrel;have HG:=Lib.hid hgood;clear hgood
      by_cases hlt:k<xs.length
      · obtain ⟨ba,oa,rfl,_,_,hba,hA⟩:=HAA.out (by omega);have hp:k<p.length:=HX.out ▸ hlt;obtain ⟨Ak,ck,hk1,hk2,hk3,hrow⟩:=(HXR.out k hlt hp).inss;have HROW:=Lib.hid hrow;clear hrow;have ca0:=hA k hlt;rw [hk1] at ca0;have CA:=Lib.hid ca0;have c00:=(hb.cell (p:=⟨ba,oa+k,Q0⟩) hba).trans ca0;clear hA hk1 ca0;have i1:(0:Int)<=(k:Int):=by omega
        have i2:(k:Int)<(xs.length:Int):=by omega
        have HT:=Lib.hid<|eY wC p k hp;have HPL:=Lib.hid λj=>lm wC p k j hp;obtain ⟨wo,rfl⟩:∃ wo:World,wo=wr:=⟨_,rfl⟩
        by_cases h7:p[k].length<=7
        · have h7' : ¬ (7:Int)<(p[k].length:Int):=by omega
          go_wp2_with fail
          go_loopw [3,5] (λn i w2=>∃ j:Nat,j<=p[k].length/\i = .int .i64 j/\n = .int .i64 (ub wC (p.take k)+(p[k].take j).countP wC:Nat)/\(∀ q (h:q<p[k].length),q<j->dZ p[k][q]=QX)/\Below w.heap.size w w2) (λ_ i _=>p[k].length-(intOf i).toNat)
          case atStart=>exact ⟨0,Tw _,rfl,by simp,λq _ h=>absurd h (by omega),hb⟩
          case round=>
            obtain ⟨j,hj,rfl,rfl,hgj,hb2⟩:=hrel;have HGJ:=Lib.hid hgj;clear hgj;have c0:=(hb2.cell (p:=⟨ba,oa+k,Q0⟩) hba).trans CA.out;have hsm:ub wC (p.take k)+(p[k].take j).countP wC<=1048576:=Tz (HPL.out j) ht
            by_cases hlj:j<p[k].length
            · obtain ⟨bb,ob,rfl,_,_,hbb,hB⟩:=HROW.out (by omega);obtain ⟨d1,d2,d3,d4⟩:=(hB j hlj).below hb2 hbb;have HS:=Lib.hid<|dN wC p[k] j hlj;have j1:(0:Int)<=(j:Int):=by omega
              have j2:(j:Int)<(p[k].length:Int):=by omega
              clear hB c00
              go_wp2_with fail
              refine (xc p[k][j] _).mono ?_;rintro e w3 ⟨rfl,hq⟩;have e0:=(hq.cell (p:=⟨ba,oa+k,Q0⟩)<|Nat.lt_of_lt_of_le hba hb2.size).trans c0;have e1:=(hq.cell (p:=⟨bb,ob+j*4,Q0⟩)<|Nat.lt_of_lt_of_le hbb hb2.size).trans d1;have hb3:=hb2.trans<|hq.mono hb2.size
              by_cases hok:dZ p[k][j]=QX
              · go_wp2_with fail
                all_goals
                  have h:=HS.out
                  first
                    | (have ef:wC p[k][j]=QX:=by simpa [wC] using ‹(p[k][j].op != 4)=QX›
                       rw [if_pos ef] at h)
                    | (have ef : ¬ wC p[k][j]=QX:=by simpa [wC] using ‹(p[k][j].op != 4)=QY›
                       rw [if_neg ef] at h)
                  go_roundw
                  case rel=>
                    refine ⟨j+1,by omega,by go_num,congrArg (Value.int .i64) (by omega),λq hq hqj=>?_,hb3⟩
                    by_cases e:q=j
                    · subst e;exact hok
                    exact HGJ.out q hq (by omega)
                  case measure=>simp [intOf];omega
              have hok':dZ p[k][j]=QY:=by simpa using hok
              have hbad:=yZ k hp<|ES j hlj hok';have HBAD:=Lib.hid hbad;clear hok hbad
              go_wp2_with fail
              go_ret
              exact ⟨aL (by rw [HBAD.out]),hb3⟩
            have hjx:p[k].take j=p[k]:=Tx (by omega);have HJ:=Lib.hid hjx;clear hjx;have hrk:rowOk p[k]=QX:=Dk h7 λq hq=>HGJ.out q hq (by omega);have HRK:=Lib.hid hrk;clear hrk
            go_wp2_with fail
            go_roundw
            case rel=>
              refine ⟨k+1,by omega,by go_num,congrArg (Value.int .i64) (by rw [HJ.out,HT.out]),λq hq hqk=>?_,hb2⟩
              by_cases e:q=k
              · subst e;exact HRK.out
              exact HG.out q hq (by omega)
            case measure=>simp [intOf];omega
        have h7':(7:Int)<(p[k].length:Int):=by omega
        have HBAD:=Lib.hid<|yZ k hp<|Dj (by omega);clear h7
        go_wp2_with fail
        go_ret
        exact ⟨aL (by rw [HBAD.out]),hb⟩
      have hkx:p.take k=p:=Tx (by rw [<- HX.out];omega);have hsh:=B0 (p:=p) (by rw [<- HX.out];exact h3) λq hq=>HG.out q hq (by rw [<- HX.out] at hq;omega);have HK:=Lib.hid hkx;clear hkx;have HS:=Lib.hid hsh;clear hsh
      go_wp2_with fail
      go_ret
      exact ⟨aL (by rw [HS.out,HK.out];exact decide_eq_decide.2<|by omega),hb⟩
  have h3':(3:Int)<(xs.length:Int):=by omega
  have hsh:sN p=QY:=by
    have := HX.out;simp [sN];omega
  have HS:=Lib.hid hsh;clear h3 hsh
  go_enter func115,Tryz.ntmps115
  go_wp2_with fail
  go_ret
  exact ⟨aL (by rw [HS.out]),Below.refl _ _⟩
theorem Cb (n:Nat):Q3 (((n8 n:Nat):Int)<=3000)=Q3 (n<=3000):=by
 unfold n8;simp only [decide_eq_decide];omega
theorem vv {lo hi:Nat} {u:Value} {p:List (List Ins)} {w:World} (hu:Ag Ins.cells 4 w lo hi u p) (hhi:hi<=w.heap.size) (ht:total p<=1048576) :
  Calls Q4 52 #[u] w λe w'=>e = .returned (.bool<|bf p)/\Below w.heap.size w w':=by
 have HU:=Lib.hid hu;obtain ⟨xs,hxs,hxl,hxr⟩:=hu;obtain ⟨A,ca,rfl,hca,hma,hA⟩:=hxs.vals;clear hxs hxr hA;have HX:=Lib.hid hxl;clear hxl;have hv:bf p=(sN p&&Q3 (0<xs.length)&&Q3 (vu p<=3000)):=by rw [HX.out];rfl
 have HV:=Lib.hid hv;clear hv;have hc:=Cb<|vu p;have HCC:=Lib.hid hc;clear hc
 cases hs:sN p with
 | false=>
  have SH:=Lib.hid<|Ca (w:=w) HU.out ht;rw [hs] at SH;have HS:=Lib.hid hs;clear hs
  go_enter func52,Tryz.ntmps52
  go_wp2_with (first | (go_at_call 115;refine SH.out.mono ?_;rintro e w1 ⟨rfl,hb⟩))
  go_ret
  exact ⟨aL (by rw [HV.out,HS.out];rfl),hb⟩
 | true=>
  have SH:=Lib.hid<|Ca (w:=w) HU.out ht;rw [hs] at SH;have HS:=Lib.hid hs;clear hs
  by_cases h0:(0:Int)<(xs.length:Int)
  ·go_enter func52,Tryz.ntmps52
   go_wp2_with (first | (go_at_call 115;refine SH.out.mono ?_;rintro e w1 ⟨rfl,hb⟩) | (go_at_call 116;refine (FW (HU.out.below hb hhi) (Tz hhi hb.size) ht).mono ?_;rintro e w2 ⟨rfl,hb2⟩))
   all_goals
    go_ret
    refine ⟨aL ?_,hb.trans<|hb2.mono hb.size⟩;rw [HV.out,HS.out];have := HCC.out
    simp_all
  go_enter func52,Tryz.ntmps52
  go_wp2_with (first | (go_at_call 115;refine SH.out.mono ?_;rintro e w1 ⟨rfl,hb⟩))
  go_ret
  refine ⟨aL ?_,hb⟩;rw [HV.out,HS.out];simp;omega
theorem Dl {p:List (List Ins)} (k:Nat) (h:k<p.length) (hb:rowOk p[k]=QY):bf p=QY:=by
 simp [bf,yZ k h hb]
set_option maxHeartbeats 1000000 in
theorem vw {lo hi:Nat} {u:Value} {p:List (List Ins)} {w:World} (hu:Ag Ins.cells 4 w lo hi u p) (hhi:hi<=w.heap.size) (ht:total p<=1048576) :
    Calls Q4 29 #[u] w λe w'=>e = .returned (.bool<|bf p)/\Below w.heap.size w w':=by
  have HU:=Lib.hid hu;obtain ⟨xs,hxs,hxl,hxr⟩:=hu;obtain ⟨A,ca,rfl,hca,hma,hA⟩:=hxs.vals;clear hxs;have HX:=Lib.hid hxl;clear hxl;have HXR:=Lib.hid hxr;clear hxr;have HAA:=Lib.hid hA;clear hA
  by_cases h3:1<=xs.length/\xs.length<=3
  · obtain ⟨h1,h3⟩:=h3
    go_enter func29,Tryz.ntmps29
    go_wp2_with (go_at_call 77;refine (dM _ _ _ QX (by simp;omega) _).mono ?_;rintro e w1 ⟨rfl,rfl⟩)
    go_loopw [3,14] (λn i wr=>∃ k:Nat,k<=xs.length/\i = .int .i64 k/\n = .int .i64 (ub wC<|p.take k)/\(∀ q (h:q<p.length),q<k->rowOk p[q]=QX)/\Below w.heap.size w wr) (λ_ i _=>xs.length-(intOf i).toNat)
    case atStart=>exact ⟨0,Tw _,rfl,rfl,λq _ h=>absurd h (by omega),Below.refl _ _⟩
    case round=>
      obtain ⟨k,hk,rfl,rfl,hgood,hb⟩:=hrel;have HG:=Lib.hid hgood;clear hgood
      by_cases hlt:k<xs.length
      · obtain ⟨ba,oa,rfl,_,_,hba,hA⟩:=HAA.out (by omega);have hp:k<p.length:=HX.out ▸ hlt;obtain ⟨Ak,ck,hk1,hk2,hk3,hrow⟩:=(HXR.out k hlt hp).inss;have HROW:=Lib.hid hrow;clear hrow;have ca0:=hA k hlt;rw [hk1] at ca0;have c00:=(hb.cell (p:=⟨ba,oa+k,Q0⟩) hba).trans ca0;clear hA hk1 ca0;have i1:(0:Int)<=(k:Int):=by omega
        have i2:(k:Int)<(xs.length:Int):=by omega
        have HT:=Lib.hid<|eY wC p k hp;have HPL:=Lib.hid λj=>lm wC p k j hp;obtain ⟨wo,rfl⟩:∃ wo:World,wo=wr:=⟨_,rfl⟩
        go_wp2_with fail
        clear c00
        go_loopw [3,20] (λn i w2=>∃ j:Nat,j<=p[k].length/\i = .int .i64 j/\n = .int .i64 (ub wC (p.take k)+(p[k].take j).countP wC:Nat)/\(∀ q (h:q<p[k].length),q<j->dZ p[k][q]=QX)/\Below w.heap.size w w2) (λ_ i _=>p[k].length-(intOf i).toNat)
        case atStart=>exact ⟨0,Tw _,rfl,by simp,λq _ h=>absurd h (by omega),hb⟩
        case round=>
          obtain ⟨j,hj,rfl,rfl,hgj,hb2⟩:=hrel;have HGJ:=Lib.hid hgj;clear hgj;have hsm:ub wC (p.take k)+(p[k].take j).countP wC<=1048576:=Tz (HPL.out j) ht
          by_cases hlj:j<p[k].length
          · obtain ⟨bb,ob,rfl,_,_,hbb,hB⟩:=HROW.out (by omega);obtain ⟨d1,d2,d3,d4⟩:=(hB j hlj).below hb2 hbb;have HS:=Lib.hid<|dN wC p[k] j hlj;have j1:(0:Int)<=(j:Int):=by omega
            have j2:(j:Int)<(p[k].length:Int):=by omega
            clear hB
            go_wp2_with fail
            refine (xd p[k][j] _).mono ?_;rintro e w3 ⟨rfl,hq⟩;have z0:=hq.cell (p:=⟨wr.heap.size,0,Q0⟩) (by simp);have hb3:=(hb2.alloc hb2.size<|.cells #[.int .i64 p[k][j].op,.int .i64 p[k][j].loc,.int .i64 p[k][j].reg,.int .i64 p[k][j].val] 79).trans<|hq.mono (by simp;have := hb2.size;omega)
            by_cases hok:dZ p[k][j]=QX
            · go_wp2_with fail
              all_goals
                have h:=HS.out
                first
                  | (have ef:wC p[k][j]=QX:=by simpa [wC] using ‹(p[k][j].op != 4)=QX›
                     rw [if_pos ef] at h)
                  | (have ef : ¬ wC p[k][j]=QX:=by simpa [wC] using ‹(p[k][j].op != 4)=QY›
                     rw [if_neg ef] at h)
                go_roundw
                case rel=>
                  refine ⟨j+1,by omega,by go_num,congrArg (Value.int .i64) (by omega),λq hq hqj=>?_,hb3⟩
                  by_cases e:q=j
                  · subst e;exact hok
                  exact HGJ.out q hq (by omega)
                case measure=>simp [intOf];omega
            have hok':dZ p[k][j]=QY:=by simpa using hok
            have hbad:=Dl k hp<|ES j hlj hok';have HBAD:=Lib.hid hbad;clear hok hbad
            go_wp2_with fail
            go_ret
            exact ⟨aL (by rw [HBAD.out]),hb3⟩
          have hjx:p[k].take j=p[k]:=Tx (by omega);have HJ:=Lib.hid hjx;clear hjx
          by_cases h7:p[k].length<=7
          · have h7' : ¬ (7:Int)<(p[k].length:Int):=by omega
            have hrk:rowOk p[k]=QX:=Dk h7 λq hq=>HGJ.out q hq (by omega);have HRK:=Lib.hid hrk;clear hrk
            go_wp2_with fail
            go_roundw
            case rel=>
              refine ⟨k+1,by omega,by go_num,congrArg (Value.int .i64) (by rw [HJ.out,HT.out]),λq hq hqk=>?_,hb2⟩
              by_cases e:q=k
              · subst e;exact HRK.out
              exact HG.out q hq (by omega)
            case measure=>simp [intOf];omega
          have h7':(7:Int)<(p[k].length:Int):=by omega
          have HBAD:=Lib.hid<|Dl k hp<|Dj (by omega);clear h7
          go_wp2_with fail
          go_ret
          exact ⟨aL (by rw [HBAD.out]),hb2⟩
      have hkx:p.take k=p:=Tx (by rw [<- HX.out];omega);have hsh:=B0 (p:=p) (by rw [<- HX.out];exact h3) λq hq=>HG.out q hq (by rw [<- HX.out] at hq;omega);have hv:bf p=(Q3 (ub wC p<=12)&&Q3 (vu p<=3000)):=by
        have : 0<p.length:=by rw [<- HX.out];omega
        simp [bf,hsh,this]
      rw [hkx];have HV:=Lib.hid hv;clear hv hsh hkx;have HCC:=Lib.hid<|Cb<|vu p
      by_cases h12:ub wC p<=12
      · have h12':(ub wC p:Int)<=12:=by omega
        go_wp2_with (go_at_call 79;refine (Jl (HU.out.below hb hhi) ht).mono ?_;rintro e w2 ⟨rfl,hb2⟩)
        go_ret
        exact ⟨aL (by rw [HV.out,decide_eq_true h12,Bool.true_and];exact HCC.out),hb.trans<|hb2.mono hb.size⟩
      have h12' : ¬ (ub wC p:Int)<=12:=by omega
      have hf:bf p=QY:=by rw [HV.out];simp [h12]
      have HF:=Lib.hid hf;clear hf h12
      go_wp2_with fail
      go_ret
      exact ⟨aL (by rw [HF.out]),hb⟩
  have hv:bf p=QY:=by
    have := HX.out
    by_cases h:p.length<=3
    · have : p.length=0:=by omega
      simp [bf,this]
    simp [bf,sN,h]
  have HV:=Lib.hid hv;clear hv;have HN:=Lib.hid h3;clear h3
  go_enter func29,Tryz.ntmps29
  go_wp2_with (go_at_call 77;refine (dM _ _ _ QY (by have := HN.out;simp;omega) _).mono ?_;rintro e w1 ⟨rfl,rfl⟩)
  go_ret
  exact ⟨aL (by rw [HV.out]),Below.refl _ _⟩
open Go.RowKit
def dA (p:List<|List QH):Option Bool:=gd (Q3<|p.length<=1048576/\total p<=1048576)<|QZ<|bf<|p.map λr=>r.map iQ
def aV (p:List<|List QH):Option Bool:=gd (Q3<|p.length<=1048576/\total p<=1048576)<|QZ<|bf<|p.map λr=>r.map iQ
open Go.RowKit
def KV (l:LI):LI:=l.mergeSort λx y=>Q3<|x<=y
theorem qh (l:LI):(KV l).Perm l:=List.mergeSort_perm l _
theorem FX (l:LI):(KV l).Pairwise (· <= ·):=
 (List.pairwise_mergeSort (le:=λx y:Int=>Q3<|x<=y) (λa b c h1 h2=>by simp only [dte] at *;omega) (λa b=>by simp only [Bool.or_eq_true,dte];omega) l).imp λh=>of_decide_eq_true h
def pG (l:LI):Option (LI):=gd (Q3<|l.length<4611686018427387904)<|QZ<|KV l
theorem za {l q:LI} (h:l=[]) (c:pG l=some q):q=[]:=by
 subst h;obtain ⟨_,c⟩:=gdD c;rw [<- osl c];exact (qh []).eq_nil
theorem zb {l q:LI} (c:pG l=some q):q.length=l.length:=by
 obtain ⟨_,c⟩:=gdD c;rw [<- osl c];exact (qh l).length_eq
end
end Go.Proofs.YtabfkkjdfhbngaaGreatDoor
