/- Texts joined. No conditions. -/
import Derived.Outline
import Derived.Deep.RegionWith
import Derived.RegionTactic
import Derived.ChangeAlike
import Derived.Test.YtabfkkjdfhbngaaGreatDoorQ4
namespace Go.Proofs.YtabfkkjdfhbngaaGreatDoor
noncomputable section
open _root_.Inhabited renaming default -> Nj
open _root_.Bool renaming true -> Nk
open _root_.Bool renaming false -> Nl
open _root_.Option renaming some -> Nn
open _root_.Option renaming none -> Np
open _root_.Decidable renaming decide -> Nq
open _root_.Go.Proofs.Tryz
open _root_.Go.Proofs.Tryz renaming prog -> Nr
open _root_.Option renaming bind -> Qa
open _root_.Nat renaming le_refl -> Qb, zero_le -> Qc, mul_assoc -> Qf, le_trans -> Qg, mul_pos -> Qj, le_mul_of_pos_right -> Ql, mul_le_mul -> Qm
open _root_.List renaming replicate -> Qd, take_of_length_le -> Qe, mem_append_left -> Qh, getElem_mem -> Qi, mem_map -> Qk, all_eq_true -> Qo, mem_append -> Qp, mem_singleton -> Qq, mem_append_right -> Qr, countP_le_length -> Qs, getElem_of_mem -> Qt
open _root_.Int renaming mul_nonneg -> Qn
open Go.ChangeShapes Go.WideShapes Go.ChangeAt Go.RowKit
set_option maxRecDepth 100000
theorem rQ (x hi:Int) (b:Bool) (hb:(Nq (0<=x)&&Nq (x<=hi))=b) (w:World) :
  Calls Nr 53 #[.int .i64 x,.int .i64 hi] w λe w'=>e = .returned (.bool b)/\w=w':=by
 subst hb
 by_cases h1:0<=x
 ·by_cases h2:x<=hi
  ·go_enter func53,Tryz.ntmps53
   go_wp2
   all_goals (go_ret;exact ⟨aW (by simp [h1,h2]),rfl⟩)
  go_enter func53,Tryz.ntmps53
  go_wp2
  all_goals (go_ret;exact ⟨aW (by simp;omega),rfl⟩)
 go_enter func53,Tryz.ntmps53
 go_wp2
 all_goals (go_ret;exact ⟨aW (by simp;omega),rfl⟩)
def inB (x hi:Int):Bool:=Nq (0<=x)&&Nq (x<=hi)
def lJ (x:Ins):Bool:=
 if x.op=1\/x.op=3 then inB x.loc 2&&inB x.reg 2&&x.val==0
 else if x.op=2 then inB x.loc 2&&x.reg==0&&inB x.val 3
 else if x.op=4 then x.loc==0&&x.reg==0&&x.val==0
 else if x.op=5 then inB x.loc 2&&inB x.reg 2&&inB x.val 3
 else Nl
theorem uY (x:Ins) (w:World) :
  Calls Nr 188 #[x.v] w λe w'=>e = .returned (.bool<|lJ x)/\Below w.heap.size w w':=by
 obtain ⟨op,a,b,c⟩:=x;have hop:(op=1\/op=3)\/op=2\/op=4\/op=5\/((op==1)=Nl/\(op==3)=Nl/\(op==2)=Nl/\(op==4)=Nl/\(op==5)=Nl):=by
  simp only [beq_eq_false_iff_ne,ne_eq];omega
 unfold Ins.v;rcases hop with hop | rfl | rfl | rfl | ⟨h1,h2,h3,h4,h5⟩
 ·have hr:lJ ⟨op,a,b,c⟩=(inB a 2&&inB b 2&&c==0):=by unfold lJ;rw [if_pos hop]
  generalize ha:inB a 2=pa at *;generalize hb:inB b 2=pb at *;have HR:=Lib.hid hr;clear hr;have HA:=Lib.hid ha;clear ha;have HB:=Lib.hid hb;clear hb;rcases hop with rfl | rfl
  all_goals
   go_enter func188,Tryz.ntmps188
   go_wp2_with (first
    | (go_at_call_of 53 (Value.int .i64 a);refine (rQ a 2 _ HA.out _).mono ?_;rintro e w1 ⟨rfl,rfl⟩)
    | (go_at_call_of 53 (Value.int .i64 b);refine (rQ b 2 _ HB.out _).mono ?_;rintro e w1 ⟨rfl,rfl⟩))
   all_goals (go_ret;exact ⟨aW (by rw [HR.out];simp_all),(Below.refl _ _).alloc (Qb _) _⟩)
 ·have hr:lJ ⟨2,a,b,c⟩=(inB a 2&&b==0&&inB c 3):=rfl;generalize ha:inB a 2=pa at *;generalize hc:inB c 3=pc at *;have HR:=Lib.hid hr;clear hr;have HA:=Lib.hid ha;clear ha;have HC:=Lib.hid hc;clear hc
  go_enter func188,Tryz.ntmps188
  go_wp2_with (first
   | (go_at_call_of 53 (Value.int .i64 a);refine (rQ a 2 _ HA.out _).mono ?_;rintro e w1 ⟨rfl,rfl⟩)
   | (go_at_call_of 53 (Value.int .i64 c);refine (rQ c 3 _ HC.out _).mono ?_;rintro e w1 ⟨rfl,rfl⟩))
  all_goals (go_ret;exact ⟨aW (by rw [HR.out];simp_all),(Below.refl _ _).alloc (Qb _) _⟩)
 ·have hr:lJ ⟨4,a,b,c⟩=(a==0&&b==0&&c==0):=rfl;have HR:=Lib.hid hr;clear hr
  go_enter func188,Tryz.ntmps188
  go_wp2_with fail
  all_goals (go_ret;exact ⟨aW (by rw [HR.out];simp_all),(Below.refl _ _).alloc (Qb _) _⟩)
 ·have hr:lJ ⟨5,a,b,c⟩=(inB a 2&&inB b 2&&inB c 3):=rfl;generalize ha:inB a 2=pa at *;generalize hb:inB b 2=pb at *;generalize hc:inB c 3=pc at *;have HR:=Lib.hid hr;clear hr;have HA:=Lib.hid ha;clear ha;have HB:=Lib.hid hb;clear hb;have HC:=Lib.hid hc;clear hc
  go_enter func188,Tryz.ntmps188
  go_wp2_with (first
   | (go_at_call_of 53 (Value.int .i64 a);refine (rQ a 2 _ HA.out _).mono ?_;rintro e w1 ⟨rfl,rfl⟩)
   | (go_at_call_of 53 (Value.int .i64 b);refine (rQ b 2 _ HB.out _).mono ?_;rintro e w1 ⟨rfl,rfl⟩)
   | (go_at_call_of 53 (Value.int .i64 c);refine (rQ c 3 _ HC.out _).mono ?_;rintro e w1 ⟨rfl,rfl⟩))
  all_goals (go_ret;exact ⟨aW (by rw [HR.out];simp_all),(Below.refl _ _).alloc (Qb _) _⟩)
 have hr:lJ ⟨op,a,b,c⟩=Nl:=by
  simp only [beq_eq_false_iff_ne,ne_eq] at h1 h2 h3 h4 h5;simp [lJ,h1,h2,h3,h4,h5]
 have HR:=Lib.hid hr;clear hr
 go_enter func188,Tryz.ntmps188
 go_wp2_with fail
 all_goals (go_ret;exact ⟨aW (by rw [HR.out]),(Below.refl _ _).alloc (Qb _) _⟩)
theorem uZ (x:Ins) (w:World) :
  Calls Nr 78 #[x.v] w λe w'=>e = .returned (.bool<|lJ x)/\Below w.heap.size w w':=by
 obtain ⟨op,a,b,c⟩:=x;have hop:(op=1\/op=3)\/op=2\/op=4\/op=5\/((op==1)=Nl/\(op==3)=Nl/\(op==2)=Nl/\(op==4)=Nl/\(op==5)=Nl):=by
  simp only [beq_eq_false_iff_ne,ne_eq];omega
 unfold Ins.v;rcases hop with hop | rfl | rfl | rfl | ⟨h1,h2,h3,h4,h5⟩
 ·have hr:lJ ⟨op,a,b,c⟩=(inB a 2&&inB b 2&&c==0):=by unfold lJ;rw [if_pos hop]
  generalize ha:inB a 2=pa at *;generalize hb:inB b 2=pb at *;have HR:=Lib.hid hr;clear hr;have HA:=Lib.hid ha;clear ha;have HB:=Lib.hid hb;clear hb;rcases hop with rfl | rfl
  all_goals
   go_enter func78,Tryz.ntmps78
   go_wp2_with fail
   go_region
   go_wp2_with (first
    | (go_at_call_of 77 (Value.int .i64 a);refine (eZ a 0 2 _ HA.out _).mono ?_;rintro e w1 ⟨rfl,rfl⟩)
    | (go_at_call_of 77 (Value.int .i64 b);refine (eZ b 0 2 _ HB.out _).mono ?_;rintro e w1 ⟨rfl,rfl⟩)
    | (go_at_call 77;refine (eZ _ _ _ Nk (by decide) _).mono ?_;rintro e w1 ⟨rfl,rfl⟩))
   all_goals (first | (go_ret;exact ⟨aW (by rw [HR.out];simp_all),(((Below.refl _ _).alloc (Qb _) _).alloc (by simp) _).drew⟩) | (go_ret;exact ⟨aW (by rw [HR.out];simp_all),(((Below.refl _ _).alloc (Qb _) _).alloc (by simp) _)⟩))
 ·have hr:lJ ⟨2,a,b,c⟩=(inB a 2&&b==0&&inB c 3):=rfl;generalize ha:inB a 2=pa at *;generalize hc:inB c 3=pc at *;have HR:=Lib.hid hr;clear hr;have HA:=Lib.hid ha;clear ha;have HC:=Lib.hid hc;clear hc
  go_enter func78,Tryz.ntmps78
  go_wp2_with fail
  go_region
  go_wp2_with (first
   | (go_at_call_of 77 (Value.int .i64 a);refine (eZ a 0 2 _ HA.out _).mono ?_;rintro e w1 ⟨rfl,rfl⟩)
   | (go_at_call_of 77 (Value.int .i64 c);refine (eZ c 0 3 _ HC.out _).mono ?_;rintro e w1 ⟨rfl,rfl⟩)
   | (go_at_call 77;refine (eZ _ _ _ Nk (by decide) _).mono ?_;rintro e w1 ⟨rfl,rfl⟩))
  all_goals (first | (go_ret;exact ⟨aW (by rw [HR.out];simp_all),(((Below.refl _ _).alloc (Qb _) _).alloc (by simp) _).drew⟩) | (go_ret;exact ⟨aW (by rw [HR.out];simp_all),(((Below.refl _ _).alloc (Qb _) _).alloc (by simp) _)⟩))
 ·have hr:lJ ⟨4,a,b,c⟩=(a==0&&b==0&&c==0):=rfl;have HR:=Lib.hid hr;clear hr
  go_enter func78,Tryz.ntmps78
  go_wp2_with (first
   | (go_at_call 77;refine (eZ _ _ _ Nk (by decide) _).mono ?_;rintro e w1 ⟨rfl,rfl⟩))
  all_goals (first | (go_ret;exact ⟨aW (by rw [HR.out];simp_all),(((Below.refl _ _).alloc (Qb _) _).alloc (by simp) _).drew⟩) | (go_ret;exact ⟨aW (by rw [HR.out];simp_all),(((Below.refl _ _).alloc (Qb _) _).alloc (by simp) _)⟩))
 ·have hr:lJ ⟨5,a,b,c⟩=(inB a 2&&inB b 2&&inB c 3):=rfl;generalize ha:inB a 2=pa at *;generalize hb:inB b 2=pb at *;generalize hc:inB c 3=pc at *;have HR:=Lib.hid hr;clear hr;have HA:=Lib.hid ha;clear ha;have HB:=Lib.hid hb;clear hb;have HC:=Lib.hid hc;clear hc
  go_enter func78,Tryz.ntmps78
  go_wp2_with (first
   | (go_at_call_of 77 (Value.int .i64 a);refine (eZ a 0 2 _ HA.out _).mono ?_;rintro e w1 ⟨rfl,rfl⟩)
   | (go_at_call_of 77 (Value.int .i64 b);refine (eZ b 0 2 _ HB.out _).mono ?_;rintro e w1 ⟨rfl,rfl⟩)
   | (go_at_call_of 77 (Value.int .i64 c);refine (eZ c 0 3 _ HC.out _).mono ?_;rintro e w1 ⟨rfl,rfl⟩))
  all_goals (first | (go_ret;exact ⟨aW (by rw [HR.out];simp_all),(((Below.refl _ _).alloc (Qb _) _).alloc (by simp) _).drew⟩) | (go_ret;exact ⟨aW (by rw [HR.out];simp_all),(((Below.refl _ _).alloc (Qb _) _).alloc (by simp) _)⟩))
 have hr:lJ ⟨op,a,b,c⟩=Nl:=by
  simp only [beq_eq_false_iff_ne,ne_eq] at h1 h2 h3 h4 h5;simp [lJ,h1,h2,h3,h4,h5]
 have HR:=Lib.hid hr;clear hr
 go_enter func78,Tryz.ntmps78
 go_wp2_with fail
 all_goals (go_ret;exact ⟨aW (by rw [HR.out]),(((Below.refl _ _).alloc (Qb _) _).alloc (by simp) _)⟩)
def rdO (o:Int):Bool:=o==1||o==5
def wrO (o:Int):Bool:=o==2||o==3||o==5
def rdB (x:Ins):Bool:=rdO x.op
def wrB (x:Ins):Bool:=wrO x.op
theorem FZ (op a b c:Int) (w:World):Calls Nr 80 #[.agg #[.int .i64 op,.int .i64 a,.int .i64 b,.int .i64 c]] w λe w'=>e = .returned (.bool<|rdO op)/\Below w.heap.size w w':=by
 unfold rdO
 go_enter func80,Tryz.ntmps80
 go_wp2_with fail
 all_goals (go_ret;exact ⟨aW (by simp_all),(Below.refl _ _).alloc (Qb _) _⟩)
theorem CZ (op a b c:Int) (w:World):Calls Nr 130 #[.agg #[.int .i64 op,.int .i64 a,.int .i64 b,.int .i64 c]] w λe w'=>e = .returned (.bool<|rdO op)/\Below w.heap.size w w':=by
 unfold rdO
 go_enter func130,Tryz.ntmps130
 go_wp2_with fail
 all_goals (go_ret;exact ⟨aW (by simp_all),(Below.refl _ _).alloc (Qb _) _⟩)
theorem EJ (op a b c:Int) (w:World):Calls Nr 81 #[.agg #[.int .i64 op,.int .i64 a,.int .i64 b,.int .i64 c]] w λe w'=>e = .returned (.bool<|wrO op)/\Below w.heap.size w w':=by
 unfold wrO
 go_enter func81,Tryz.ntmps81
 go_wp2_with fail
 all_goals (go_ret;exact ⟨aW (by simp_all),(Below.refl _ _).alloc (Qb _) _⟩)
theorem BV (op a b c:Int) (w:World):Calls Nr 131 #[.agg #[.int .i64 op,.int .i64 a,.int .i64 b,.int .i64 c]] w λe w'=>e = .returned (.bool<|wrO op)/\Below w.heap.size w w':=by
 unfold wrO
 go_enter func131,Tryz.ntmps131
 go_wp2_with fail
 all_goals (go_ret;exact ⟨aW (by simp_all),(Below.refl _ _).alloc (Qb _) _⟩)
def qV (f:Ins->Bool) (p:List<|List Ins):Nat:=(p.map<|List.countP f).sum
theorem fH (f:Ins->Bool) (p:List<|List Ins) (k:Nat) (h:k<p.length):qV f (p.take<|k+1)=qV f (p.take k)+p[k].countP f:=by
 unfold qV;rw [rP _ _ h,List.map_append,List.sum_append];simp
theorem fe (f:Ins->Bool) (l:List Ins) (k:Nat) (h:k<l.length):(l.take<|k+1).countP f=(l.take k).countP f+if f l[k] then 1 else 0:=by
 rw [rP _ _ h,List.countP_append];simp [List.countP_cons]
theorem zf (f:Ins->Bool) (p:List<|List Ins):qV f p<=total p:=by
 unfold qV total
 induction p with
 | nil=>simp
 | cons r p ih=>
  simp only [List.map_cons,List.sum_cons];have := Qs (p:=f) (l:=r);omega
theorem kX (f:Ins->Bool) (p:List<|List Ins) (k j:Nat) (h:k<p.length):qV f (p.take k)+(p[k].take j).countP f<=total p:=by
 have h1:=zf f<|p.take k;have h2:=Qs (p:=f) (l:=p[k].take j);have h3:=List.length_take_le' j p[k];have h4:=ze p k h;have h5:=A7 p<|k+1;omega
def bM (loc:Int) (f:Ins->Bool) (x:Ins):Bool:=x.loc==loc&&f x
theorem F3 {lo hi:Nat} {u:Value} {p:List (List Ins)} {w:World} {loc:Int} (hu:xS Ins.cells 4 w lo hi u p) (ht:total p<=1048576) :
  Calls Nr 189 #[u,.int .i64 loc,.bool Nk] w λe w'=>e = .returned (.int .i64<|qV (bM loc wrB) p)/\Below w.heap.size w w':=by
 obtain ⟨xs,hxs,hxl,hxr⟩:=hu;obtain ⟨A,ca,rfl,hca,hma,hA⟩:=hxs.vals;clear hxs;have HX:=Lib.hid hxl;clear hxl;have HXR:=Lib.hid hxr;clear hxr;have HAA:=Lib.hid hA;clear hA
 go_enter func189,Tryz.ntmps189
 go_wp2_with fail
 go_loopw [7,8] (λn i wr=>∃ k:Nat,k<=xs.length/\i = .int .i64 k/\n = .int .i64 (qV (bM loc wrB)<|p.take k)/\Below w.heap.size w wr) (λ_ i _=>xs.length-(intOf i).toNat)
 case atStart=>exact ⟨0,Qc _,rfl,rfl,Below.refl _ _⟩
 case round=>
  obtain ⟨k,hk,rfl,rfl,hb⟩:=hrel
  by_cases hlt:k<xs.length
  ·obtain ⟨ba,oa,rfl,_,_,hba,hA⟩:=HAA.out (by omega);have hp:k<p.length:=HX.out ▸ hlt;obtain ⟨Ak,ck,hk1,hk2,hk3,hrow⟩:=(HXR.out k hlt hp).inss;have HROW:=Lib.hid hrow;clear hrow;have ca0:=hA k hlt;rw [hk1] at ca0;have CA:=Lib.hid ca0;clear hA hk1 ca0;have i1:(0:Int)<=(k:Int):=by omega
   have i2:(k:Int)<(xs.length:Int):=by omega
   have HT:=Lib.hid<|fH (bM loc wrB) p k hp;have HPL:=Lib.hid λj=>kX (bM loc wrB) p k j hp;obtain ⟨wo,rfl⟩:∃ wo:World,wo=wr:=⟨_,rfl⟩
   go_wp2_with fail
   go_loopw [7,9] (λn i w2=>∃ j:Nat,j<=p[k].length/\i = .int .i64 j/\n = .int .i64 (qV (bM loc wrB) (p.take k)+(p[k].take j).countP (bM loc wrB):Nat)/\Below w.heap.size w w2) (λ_ i _=>p[k].length-(intOf i).toNat)
   case atStart=>exact ⟨0,Qc _,rfl,by simp,hb⟩
   case round=>
    obtain ⟨j,hj,rfl,rfl,hb2⟩:=hrel;have c0:=(hb2.cell (p:=⟨ba,oa+k,Np⟩) hba).trans CA.out;have hsm:qV (bM loc wrB) (p.take k)+(p[k].take j).countP (bM loc wrB)<=1048576:=Qg (HPL.out j) ht
    by_cases hlj:j<p[k].length
    ·obtain ⟨bb,ob,rfl,_,_,hbb,hB⟩:=HROW.out (by omega);obtain ⟨d1,d2,d3,d4⟩:=(hB j hlj).below hb2 hbb;have HS:=Lib.hid<|fe (bM loc wrB) p[k] j hlj;have j1:(0:Int)<=(j:Int):=by omega
     have j2:(j:Int)<(p[k].length:Int):=by omega
     clear hB
     go_wp2_with (go_at_call 131;refine (BV _ _ _ _ _).mono ?_;rintro e w3 ⟨rfl,hq⟩)
     ·have ef:bM loc wrB p[k][j]=Nk:=by simp [bM,wrB, *]
      go_roundw
      case rel=>
       have h:=HS.out;rw [if_pos ef] at h;exact ⟨j+1,by omega,by go_num,congrArg (Value.int .i64) (by omega),(hb2.alloc hb2.size _).trans<|hq.mono (by simp;have := hb2.size;omega)⟩
      case measure=>simp [intOf];omega
     ·have ef : ¬ bM loc wrB p[k][j]=Nk:=by simp [bM,wrB, *]
      go_roundw
      case rel=>
       have h:=HS.out;rw [if_neg ef] at h;exact ⟨j+1,by omega,by go_num,congrArg (Value.int .i64) (by omega),(hb2.alloc hb2.size _).trans<|hq.mono (by simp;have := hb2.size;omega)⟩
      case measure=>simp [intOf];omega
     have ef : ¬ bM loc wrB p[k][j]=Nk:=by simp [bM, *]
     go_roundw
     case rel=>
      have h:=HS.out;rw [if_neg ef] at h;exact ⟨j+1,by omega,by go_num,congrArg (Value.int .i64) (by omega),hb2.alloc hb2.size _⟩
     case measure=>simp [intOf];omega
    have hjx:p[k].take j=p[k]:=Qe (by omega);have HJ:=Lib.hid hjx;clear hjx
    go_wp2_with fail
    go_roundw
    case rel=>exact ⟨k+1,by omega,by go_num,congrArg (Value.int .i64) (by rw [HJ.out,HT.out]),hb2⟩
    case measure=>simp [intOf];omega
  have hkx:p.take k=p:=Qe (by rw [<- HX.out];omega);have HK:=Lib.hid hkx;clear hkx
  go_wp2_with fail
  go_ret
  exact ⟨zb (by rw [HK.out]),hb⟩
theorem F4 {lo hi:Nat} {u:Value} {p:List (List Ins)} {w:World} {loc:Int} (hu:xS Ins.cells 4 w lo hi u p) (ht:total p<=1048576) :
  Calls Nr 189 #[u,.int .i64 loc,.bool Nl] w λe w'=>e = .returned (.int .i64<|qV (bM loc rdB) p)/\Below w.heap.size w w':=by
 obtain ⟨xs,hxs,hxl,hxr⟩:=hu;obtain ⟨A,ca,rfl,hca,hma,hA⟩:=hxs.vals;clear hxs;have HX:=Lib.hid hxl;clear hxl;have HXR:=Lib.hid hxr;clear hxr;have HAA:=Lib.hid hA;clear hA
 go_enter func189,Tryz.ntmps189
 go_wp2_with fail
 go_loopw [7,8] (λn i wr=>∃ k:Nat,k<=xs.length/\i = .int .i64 k/\n = .int .i64 (qV (bM loc rdB)<|p.take k)/\Below w.heap.size w wr) (λ_ i _=>xs.length-(intOf i).toNat)
 case atStart=>exact ⟨0,Qc _,rfl,rfl,Below.refl _ _⟩
 case round=>
  obtain ⟨k,hk,rfl,rfl,hb⟩:=hrel
  by_cases hlt:k<xs.length
  ·obtain ⟨ba,oa,rfl,_,_,hba,hA⟩:=HAA.out (by omega);have hp:k<p.length:=HX.out ▸ hlt;obtain ⟨Ak,ck,hk1,hk2,hk3,hrow⟩:=(HXR.out k hlt hp).inss;have HROW:=Lib.hid hrow;clear hrow;have ca0:=hA k hlt;rw [hk1] at ca0;have CA:=Lib.hid ca0;clear hA hk1 ca0;have i1:(0:Int)<=(k:Int):=by omega
   have i2:(k:Int)<(xs.length:Int):=by omega
   have HT:=Lib.hid<|fH (bM loc rdB) p k hp;have HPL:=Lib.hid λj=>kX (bM loc rdB) p k j hp;obtain ⟨wo,rfl⟩:∃ wo:World,wo=wr:=⟨_,rfl⟩
   go_wp2_with fail
   go_loopw [7,9] (λn i w2=>∃ j:Nat,j<=p[k].length/\i = .int .i64 j/\n = .int .i64 (qV (bM loc rdB) (p.take k)+(p[k].take j).countP (bM loc rdB):Nat)/\Below w.heap.size w w2) (λ_ i _=>p[k].length-(intOf i).toNat)
   case atStart=>exact ⟨0,Qc _,rfl,by simp,hb⟩
   case round=>
    obtain ⟨j,hj,rfl,rfl,hb2⟩:=hrel;have c0:=(hb2.cell (p:=⟨ba,oa+k,Np⟩) hba).trans CA.out;have hsm:qV (bM loc rdB) (p.take k)+(p[k].take j).countP (bM loc rdB)<=1048576:=Qg (HPL.out j) ht
    by_cases hlj:j<p[k].length
    ·obtain ⟨bb,ob,rfl,_,_,hbb,hB⟩:=HROW.out (by omega);obtain ⟨d1,d2,d3,d4⟩:=(hB j hlj).below hb2 hbb;have HS:=Lib.hid<|fe (bM loc rdB) p[k] j hlj;have j1:(0:Int)<=(j:Int):=by omega
     have j2:(j:Int)<(p[k].length:Int):=by omega
     clear hB
     go_wp2_with (go_at_call 130;refine (CZ _ _ _ _ _).mono ?_;rintro e w3 ⟨rfl,hq⟩)
     ·have ef:bM loc rdB p[k][j]=Nk:=by simp [bM,rdB, *]
      go_roundw
      case rel=>
       have h:=HS.out;rw [if_pos ef] at h;exact ⟨j+1,by omega,by go_num,congrArg (Value.int .i64) (by omega),(hb2.alloc hb2.size _).trans<|hq.mono (by simp;have := hb2.size;omega)⟩
      case measure=>simp [intOf];omega
     ·have ef : ¬ bM loc rdB p[k][j]=Nk:=by simp [bM,rdB, *]
      go_roundw
      case rel=>
       have h:=HS.out;rw [if_neg ef] at h;exact ⟨j+1,by omega,by go_num,congrArg (Value.int .i64) (by omega),(hb2.alloc hb2.size _).trans<|hq.mono (by simp;have := hb2.size;omega)⟩
      case measure=>simp [intOf];omega
     have ef : ¬ bM loc rdB p[k][j]=Nk:=by simp [bM, *]
     go_roundw
     case rel=>
      have h:=HS.out;rw [if_neg ef] at h;exact ⟨j+1,by omega,by go_num,congrArg (Value.int .i64) (by omega),hb2.alloc hb2.size _⟩
     case measure=>simp [intOf];omega
    have hjx:p[k].take j=p[k]:=Qe (by omega);have HJ:=Lib.hid hjx;clear hjx
    go_wp2_with fail
    go_roundw
    case rel=>exact ⟨k+1,by omega,by go_num,congrArg (Value.int .i64) (by rw [HJ.out,HT.out]),hb2⟩
    case measure=>simp [intOf];omega
  have hkx:p.take k=p:=Qe (by rw [<- HX.out];omega);have HK:=Lib.hid hkx;clear hkx
  go_wp2_with fail
  go_ret
  exact ⟨zb (by rw [HK.out]),hb⟩
def nQ (n:Nat):Nat:=min n 3001
def M8:Nat->Nat
 | 0=>1
 | n+1=>M8 n*(n+1)
theorem C0 (n:Nat):1<=M8 n:=by
 induction n with
 | zero=>exact Qb _
 | succ n ih=>exact Qj ih (by omega)
def cw (p:List<|List Ins) (l:Int):Nat:=qV (bM l wrB) p
def cr (p:List<|List Ins) (l:Int):Nat:=qV (bM l rdB) p
def Ki (p:List<|List Ins) (l:Nat):Nat:=(cw p l+1) ^ (cr p l)*M8 (cw p l)
def pT (p:List<|List Ins):Nat->Nat
 | 0=>1
 | l+1=>pT p l*Ki p l
def qp (p:List<|List Ins):Nat:=pT p 3
theorem A8 {a b:Nat} (n:Nat) (h:nQ a=nQ b) (hn:1<=n):nQ (a*n)=nQ (b*n):=by
 unfold nQ at *
 by_cases ha:a<3001
 ·have : a=b:=by omega
  rw [this]
 have h1:a<=a*n:=Ql a hn;have h2:b<=b*n:=Ql b hn;omega
theorem DU {a b n:Nat} (h:nQ a=nQ b) (ha:3000<a) (hn:1<=n):nQ a=nQ (b*n):=by
 unfold nQ at *;have h2:b<=b*n:=Ql b hn;omega
theorem F5 {a i r:Nat} (h:i<=r):a ^ r=a ^ i*a ^ (r-i):=by rw [<- Nat.pow_add];congr 1;omega
theorem BW (i:Nat):∀ d,∃ q,1<=q/\M8 (i+d)=M8 i*q
 | 0=>⟨1,Qb _,by simp⟩
 | d+1=>by
  obtain ⟨q,hq,h⟩:=BW i d;exact ⟨q*(i+d+1),Qj hq (by omega),by rw [<- Nat.add_assoc,M8,h,Qf]⟩
theorem F6 {n a:Int} (h:n<=3000) (_:0<=n) (ha:a<=1048577) (ha0:0<=a):n*a<=3145731000:=by
 have : n*a<=3000*1048577:=Int.mul_le_mul h ha ha0 (by omega);omega
theorem F7 {n a:Nat} (h:n<=3000) (ha:a<=1048577):n*a<=4000000000:=by
 have : n*a<=3000*1048577:=Qm h ha;omega
set_option maxHeartbeats 1000000 in
theorem C8 {lo hi:Nat} {u:Value} {p:List (List Ins)} {w:World} (hu:xS Ins.cells 4 w lo hi u p) (hhi:hi<=w.heap.size) (ht:total p<=1048576) :
  Calls Nr 116 #[u,.int .i64 3000] w λe w'=>e = .returned (.int .i64<|nQ<|qp p)/\Below w.heap.size w w':=by
 have HU:=Lib.hid hu;clear hu
 go_enter func116,Tryz.ntmps116
 go_wp2_with fail
 go_loopw [5,6] (λsn sl wr=>∃ (l n:Nat),l<=3/\sl = .int .i64 l/\sn = .int .i64 n/\n<=4000000000/\1<=n/\nQ n=nQ (pT p l)/\Below w.heap.size w wr) (λ_ sl _=>3-(intOf sl).toNat)
 case atStart=>exact ⟨0,1,by omega,rfl,rfl,by omega,by omega,rfl,Below.refl _ _⟩
 case round=>
  obtain ⟨l,n,hl,rfl,rfl,hn,hn1,hcap,hb⟩:=hrel;have HC:=Lib.hid hcap;clear hcap
  by_cases hl3:l<3
  ·have hle:(l:Int)<=2:=by omega
   have HW:=Lib.hid (show pT p (l+1)=pT p l*((cw p l+1) ^ (cr p l)*M8 (cw p l)) from rfl);have hcw:=zf (bM (l:Int) wrB) p;have hcr:=zf (bM (l:Int) rdB) p;have CW:=Lib.hid λW hs=>F3 (loc:=(l:Int)) (w:=W) (hs:xS Ins.cells 4 W lo hi u p) ht;have CR:=Lib.hid λW hs=>F4 (loc:=(l:Int)) (w:=W) (hs:xS Ins.cells 4 W lo hi u p) ht;change cw p l<=total p at hcw;change cr p l<=total p at hcr;have CW2:Hid (∀ W,xS Ins.cells 4 W lo hi u p->Calls Nr 189 #[u,.int .i64 (l:Int),.bool Nk] W λe w'=>e = .returned (.int .i64<|cw p l)/\Below W.heap.size W w'):=CW.out;have CR2:Hid (∀ W,xS Ins.cells 4 W lo hi u p->Calls Nr 189 #[u,.int .i64 (l:Int),.bool Nl] W λe w'=>e = .returned (.int .i64<|cr p l)/\Below W.heap.size W w'):=CR.out;clear CW CR;generalize cw p l=a at *;generalize cr p l=r at *;obtain ⟨wo,rfl⟩:∃ wo:World,wo=wr:=⟨_,rfl⟩
   go_wp2_with fail
   refine (CW2.out _<|HU.out.below hb hhi).mono ?_;rintro e w1 ⟨rfl,hq1⟩;have hb1:Below w.heap.size w w1:=hb.trans<|hq1.mono hb.size;have ha1:(a:Int)<=1048576:=by omega
   go_wp2_with fail
   go_loopw [5,8] (λsn si w2=>∃ (i n:Nat),i<=r/\si = .int .i64 i/\sn = .int .i64 n/\n<=4000000000/\1<=n/\nQ n=nQ (pT p l*(a+1) ^ i)/\Below w.heap.size w w2) (λ_ si _=>r-(intOf si).toNat)
   case atStart=>exact ⟨0,n,Qc _,rfl,rfl,hn,hn1,by rw [HC.out];simp,hb1⟩
   case round=>
    obtain ⟨i,n,hi,rfl,rfl,hn,hn1,hcap,hb2⟩:=hrel;have HC1:=Lib.hid hcap;clear hcap
    by_cases hgo:i<r/\n<=3000
    ·obtain ⟨h1,h2⟩:=hgo;have h1':(i:Int)<(r:Int):=by omega
     have h2':(n:Int)<=3000:=by omega
     have hmul:n*(a+1)<=4000000000:=F7 h2 (by omega);have hmul1:1<=n*(a+1):=Qj hn1 (by omega);have hmulI:(n:Int)*((a:Int)+1)<=3145731000:=F6 h2' (by omega) (by omega) (by omega);have hmulI0:0<=(n:Int)*((a:Int)+1):=Qn (by omega) (by omega);have HM:=Lib.hid hmul;clear hmul;have HM1:=Lib.hid hmul1;clear hmul1
     go_wp2_with (go_at_call 189;refine (CR2.out _<|HU.out.below hb2 hhi).mono ?_;rintro e w3 ⟨rfl,hq3⟩)
     go_roundw
     case rel=>
      refine ⟨i+1,n*(a+1),by omega,by go_num,by push_cast;rfl,HM.out,HM1.out,?_,hb2.trans<|hq3.mono hb2.size⟩;rw [Nat.pow_succ,<- Qf];exact A8 _ HC1.out (by omega)
     case measure=>simp [intOf];omega
    have hc2:nQ n=nQ (pT p l*(a+1) ^ r):=by
     by_cases h:i<r
     ·rw [F5 hi,<- Qf];exact DU HC1.out (by omega)<|Nat.pow_pos (by omega)
     have : i=r:=by omega
     rw [<- this];exact HC1.out
    have HC2:=Lib.hid hc2;clear hc2;have hor:((i:Int)<(r:Int) /\ ¬ (n:Int)<=3000) \/ ¬ (i:Int)<(r:Int):=by omega
    clear hgo;rcases hor with ⟨h1,h2⟩ | h1
    all_goals
     obtain ⟨wi,rfl⟩:∃ wi:World,wi=wr:=⟨_,rfl⟩
     go_wp2_with (go_at_call 189;refine (CR2.out _<|HU.out.below hb2 hhi).mono ?_;rintro e w3 ⟨rfl,hq3⟩)
     have hb3:Below w.heap.size w w3:=hb2.trans<|hq3.mono hb2.size
     go_loopw [5,9] (λsn si w4=>∃ (i n:Nat),2<=i/\i<=max 2 (a+1)/\si = .int .i64 i/\sn = .int .i64 n/\n<=4000000000/\1<=n/\nQ n=nQ (pT p l*(a+1) ^ r*M8 (i-1))/\Below w.heap.size w w4) (λ_ si _=>a+3-(intOf si).toNat)
     case atStart=>exact ⟨2,n,Qb _,by omega,rfl,rfl,hn,hn1,by rw [HC2.out];simp [M8],hb3⟩
     case round=>
      obtain ⟨i,n,hi2,hi,rfl,rfl,hn,hn1,hcap,hb4⟩:=hrel;have HC3:=Lib.hid hcap;clear hcap
      by_cases hgo:i<=a/\n<=3000
      ·obtain ⟨h1,h2⟩:=hgo;have h1':(i:Int)<=(a:Int):=by omega
       have h2':(n:Int)<=3000:=by omega
       have hmul:n*i<=4000000000:=F7 h2 (by omega);have hmul1:1<=n*i:=Qj hn1 (by omega);have hmulI:(n:Int)*(i:Int)<=3145731000:=F6 h2' (by omega) (by omega) (by omega);have hmulI0:0<=(n:Int)*(i:Int):=Qn (by omega) (by omega);have HM:=Lib.hid hmul;clear hmul;have HM1:=Lib.hid hmul1;clear hmul1
       go_wp2_with fail
       go_roundw
       case rel=>
        refine ⟨i+1,n*i,by omega,by omega,by go_num,by push_cast;rfl,HM.out,HM1.out,?_,hb4⟩;have : M8 (i+1-1)=M8 (i-1)*i:=by
         obtain ⟨q,rfl⟩:∃ q,i=q+1:=⟨i-1,by omega⟩
         rfl
        rw [this,<- Qf];exact A8 _ HC3.out (by omega)
       case measure=>simp [intOf];omega
      have hc4:nQ n=nQ (pT p<|l+1):=by
       rw [HW.out,<- Qf]
       by_cases h:i<=a
       ·obtain ⟨q,hq,hf⟩:=BW (i-1)<|a-(i-1);rw [show i-1+(a-(i-1))=a from by omega] at hf;rw [hf,<- Qf];exact DU HC3.out (by omega) hq
       have : M8 (i-1)=M8 a:=by
        by_cases ha0:a=0
        ·have : i=2:=by omega
         subst this ha0
         rfl
        congr 1;omega
       rw [<- this];exact HC3.out
      have HC4:=Lib.hid hc4;clear hc4;have hor:((i:Int)<=(a:Int) /\ ¬ (n:Int)<=3000) \/ ¬ (i:Int)<=(a:Int):=by omega
      clear hgo;rcases hor with ⟨h1,h2⟩ | h1
      all_goals
       go_wp2_with fail
       go_roundw
       case rel=>exact ⟨l+1,n,by omega,by go_num,rfl,hn,hn1,HC4.out,hb4⟩
       case measure=>simp [intOf];omega
  have hl4:l=3:=by omega
  subst hl4
  by_cases hbig:n<=3000
  ·have hfin:n=nQ (qp p):=by
    have := HC.out;unfold qp nQ at *;omega
   have HF:=Lib.hid hfin;clear hfin;have hb' : ¬ (3000:Int)<(n:Int):=by omega
   go_wp2_with fail
   go_ret
   exact ⟨zb (by rw [<- HF.out]),hb⟩
  have hfin:3001=nQ (qp p):=by
   have := HC.out;unfold qp nQ at *;omega
  have HF:=Lib.hid hfin;clear hfin;have hb':(3000:Int)<(n:Int):=by omega
  go_wp2_with fail
  go_ret
  exact ⟨zb (by rw [<- HF.out];rfl),hb⟩
theorem Ai (g a n:Nat) (t:TypeId) (w:World) (hB:Blk w g t #[.int .i64 a]) (ha:a<=3001) (hn:n<=1048577) :
  Calls Nr 134 #[.int .i64 n,.pointer (Nn ⟨g,0,Np⟩)] w λe w'=>e = .returned (.tuple #[])/\w.setCell ⟨g,0,Np⟩ (.int .i64 (nQ (a*n):Nat))=w':=by
 have h1:(a:Int)*(n:Int)<=4000000000:=by
  have : (a:Int)*n<=3001*1048577:=Int.mul_le_mul (by omega) (by omega) (by omega) (by omega);omega
 have h0:0<=(a:Int)*(n:Int):=Qn (by omega) (by omega);have c:=hB.cell 0;have f:=hB.frozen 0;have hc:w.cell? ⟨g,0,Np⟩=Nn (.int .i64 a):=c;clear c hB
 go_enter func134,Tryz.ntmps134
 go_wp2_with fail
 ·have hv:((nQ (a*n):Nat):Int)=3001:=by
   have : ((a*n:Nat):Int)=(a:Int)*(n:Int):=by push_cast;rfl
   unfold nQ;omega
  go_end0
  exact ⟨rfl,by rw [hv]⟩
 have hv:((nQ (a*n):Nat):Int)=(a:Int)*(n:Int):=by
  have : ((a*n:Nat):Int)=(a:Int)*(n:Int):=by push_cast;rfl
  unfold nQ;omega
 go_end0
 exact ⟨rfl,by rw [hv]⟩
theorem F8 (n:Nat):nQ n<=3001:=Nat.min_le_right _ _
theorem BX (a n:Nat) (hn:1<=n):nQ (nQ a*n)=nQ (a*n):=A8 n (by unfold nQ;omega) hn
set_option maxHeartbeats 2000000 in
theorem F9 {lo hi:Nat} {u:Value} {p:List (List Ins)} {w:World} (hu:xS Ins.cells 4 w lo hi u p) (ht:total p<=1048576) :
    Calls Nr 79 #[u] w λe w'=>e = .returned (.int .i64<|nQ<|qp p)/\Below w.heap.size w w':=by
  obtain ⟨xs,hxs,hxl,hxr⟩:=hu;obtain ⟨A,ca,rfl,hca,hma,hA⟩:=hxs.vals;clear hxs;have HX:=Lib.hid hxl;clear hxl;have HXR:=Lib.hid hxr;clear hxr;have HAA:=Lib.hid hA;clear hA
  go_enter func79,Tryz.ntmps79
  go_wp2_with fail
  go_loopw [14] (λsl wr=>∃ (l:Nat),l<=3/\sl = .int .i64 l/\Blk wr w.heap.size 3 #[.int .i64 (nQ (pT p l):Nat)]/\Below w.heap.size w wr) (λsl _=>3-(intOf sl).toNat)
  case atStart=>exact ⟨0,by omega,rfl,Blk.new _ _ _,(Below.refl _ _).alloc (Qb _) _⟩
  case round=>
    obtain ⟨l,hl,rfl,hB,hb⟩:=hrel;have HB:=Lib.hid hB;clear hB;have hgl:=HB.out.lt
    by_cases hl3:l<3
    · have HW:=Lib.hid (show pT p (l+1)=pT p l*((cw p l+1) ^ (cr p l)*M8 (cw p l)) from rfl);obtain ⟨wo,rfl⟩:∃ wo:World,wo=wr:=⟨_,rfl⟩;have hl3':(l:Int)<3:=by omega
      go_wp2_with fail
      go_loopw [6,7,19] (λsr sw i w1=>∃ k:Nat,k<=xs.length/\i = .int .i64 k/\sr = .int .i64 (qV (bM l rdB)<|p.take k)/\sw = .int .i64 (qV (bM l wrB)<|p.take k)/\Below wo.heap.size wo w1) (λ_ _ i _=>xs.length-(intOf i).toNat)
      case atStart=>exact ⟨0,Qc _,rfl,rfl,rfl,Below.refl _ _⟩
      case round=>
        obtain ⟨k,hk,rfl,rfl,rfl,hb1⟩:=hrel;have hbw:=hb.trans<|hb1.mono hb.size
        by_cases hlt:k<xs.length
        · obtain ⟨ba,oa,rfl,_,_,hba,hA⟩:=HAA.out (by omega);have hp:k<p.length:=HX.out ▸ hlt;obtain ⟨Ak,ck,hk1,hk2,hk3,hrow⟩:=(HXR.out k hlt hp).inss;have HROW:=Lib.hid hrow;clear hrow;have ca0:=(hbw.cell (p:=⟨ba,oa+k,Np⟩) hba).trans<|hA k hlt;rw [hk1] at ca0;clear hA hk1;have i1:(0:Int)<=(k:Int):=by omega
          have i2:(k:Int)<(xs.length:Int):=by omega
          have HTr:=Lib.hid<|fH (bM l rdB) p k hp;have HTw:=Lib.hid<|fH (bM l wrB) p k hp;have HPr:=Lib.hid λj=>kX (bM l rdB) p k j hp;have HPw:=Lib.hid λj=>kX (bM l wrB) p k j hp;obtain ⟨w1,rfl⟩:∃ w1:World,w1=wr:=⟨_,rfl⟩
          go_wp2_with fail
          go_loopw [6,7,25] (λsr sw i w2=>∃ j:Nat,j<=p[k].length/\i = .int .i64 j/\sr = .int .i64 (qV (bM l rdB) (p.take k)+(p[k].take j).countP (bM l rdB):Nat)/\sw = .int .i64 (qV (bM l wrB) (p.take k)+(p[k].take j).countP (bM l wrB):Nat)/\Below w1.heap.size w1 w2) (λ_ _ i _=>p[k].length-(intOf i).toNat)
          case atStart=>exact ⟨0,Qc _,rfl,by simp,by simp,Below.refl _ _⟩
          case round=>
            obtain ⟨j,hj,rfl,rfl,rfl,hb2⟩:=hrel;have hbw2:=hbw.trans<|hb2.mono hbw.size;have hsm1:qV (bM l rdB) (p.take k)+(p[k].take j).countP (bM l rdB)<=1048576:=Qg (HPr.out j) ht;have hsm2:qV (bM l wrB) (p.take k)+(p[k].take j).countP (bM l wrB)<=1048576:=Qg (HPw.out j) ht
            by_cases hlj:j<p[k].length
            · obtain ⟨bb,ob,rfl,_,_,hbb,hBB⟩:=HROW.out (by omega);obtain ⟨d1,d2,d3,d4⟩:=(hBB j hlj).below hbw2 hbb;have HSr:=Lib.hid<|fe (bM l rdB) p[k] j hlj;have HSw:=Lib.hid<|fe (bM l wrB) p[k] j hlj;have j1:(0:Int)<=(j:Int):=by omega
              have j2:(j:Int)<(p[k].length:Int):=by omega
              clear hBB
              go_wp2_with (first
                | (go_at_call 80;refine (FZ _ _ _ _ _).mono ?_;rintro e w3 ⟨rfl,hq⟩;have z0:=hq.cell (p:=⟨wr.heap.size,0,Np⟩) (by simp);have z1:=hq.cell (p:=⟨wr.heap.size,1,Np⟩) (by simp);have z2:=hq.cell (p:=⟨wr.heap.size,2,Np⟩) (by simp);have z3:=hq.cell (p:=⟨wr.heap.size,3,Np⟩)<|by simp)
                | (go_at_call 81;refine (EJ _ _ _ _ _).mono ?_;rintro e w4 ⟨rfl,hq2⟩))
              all_goals
                have hr:=HSr.out;have hw:=HSw.out
                first
                  | (have ef:bM (l:Int) rdB p[k][j]=Nk:=by simp [bM,rdB, *]
                     rw [if_pos ef] at hr)
                  | (have ef : ¬ bM (l:Int) rdB p[k][j]=Nk:=by simp [bM,rdB, *]
                     rw [if_neg ef] at hr)
                first
                  | (have ef:bM (l:Int) wrB p[k][j]=Nk:=by simp [bM,wrB, *]
                     rw [if_pos ef] at hw)
                  | (have ef : ¬ bM (l:Int) wrB p[k][j]=Nk:=by simp [bM,wrB, *]
                     rw [if_neg ef] at hw)
                go_roundw
                case rel=>
                  have hsz:=hb2.size;refine ⟨j+1,by omega,by go_num,congrArg (Value.int .i64) (by omega),congrArg (Value.int .i64) (by omega),?_⟩
                  first
                    | exact hb2.alloc hb2.size _
                    | exact ((hb2.alloc hb2.size _).trans<|hq.mono<|by simp;omega).trans (hq2.mono (by have := hq.size;simp at this;omega))
                case measure=>simp [intOf];omega
            have hjx:p[k].take j=p[k]:=Qe (by omega);have HJ:=Lib.hid hjx;clear hjx
            go_wp2_with fail
            go_roundw
            case rel=>exact ⟨k+1,by omega,by go_num,congrArg (Value.int .i64) (by rw [HJ.out,HTr.out]),congrArg (Value.int .i64) (by rw [HJ.out,HTw.out]),hb1.trans<|hb2.mono hb1.size⟩
            case measure=>simp [intOf];omega
        have hkx:p.take k=p:=Qe (by rw [<- HX.out];omega);have B1:=HB.out.below hb1 hgl;have hcw:=zf (bM (l:Int) wrB) p;have hcr:=zf (bM (l:Int) rdB) p;have er:qV (bM (l:Int) rdB) (p.take k)=cr p l:=by rw [hkx];rfl
        have ew:qV (bM (l:Int) wrB) (p.take k)=cw p l:=by rw [hkx];rfl
        rw [er,ew];change cw p l<=total p at hcw;change cr p l<=total p at hcr;clear er ew hkx;generalize cw p l=a at *;generalize cr p l=r at *;have BB1:=Lib.hid B1;clear B1;have ha1:(a:Int)<=1048576:=by omega
        have hr1:(r:Int)<=1048576:=by omega
        go_wp2_with fail
        go_loopw [52] (λsi w4=>∃ (i:Nat),i<=r/\si = .int .i64 i/\Blk w4 w.heap.size 3 #[.int .i64 (nQ (pT p l*(a+1) ^ i):Nat)]/\Below w.heap.size w w4) (λsi _=>r-(intOf si).toNat)
        case atStart=>exact ⟨0,Qc _,rfl,by simpa using BB1.out,hbw⟩
        case round=>
          obtain ⟨i,hi,rfl,hBi,hb4⟩:=hrel;have HBi:=Lib.hid hBi;clear hBi
          by_cases hir:i<r
          · have hir':(i:Int)<(r:Int):=by omega
            have hc3:nQ (pT p l*(a+1) ^ i)<=3001:=F8 _;have hstep:nQ (nQ (pT p l*(a+1) ^ i)*(a+1))=nQ (pT p l*(a+1) ^ (i+1)):=by rw [BX _ _ (by omega),Nat.pow_succ,Qf]
            have HST:=Lib.hid hstep;clear hstep;have hcast:((a+1:Nat):Int)=(a:Int)+1:=by push_cast;rfl
            have EX:=Ai w.heap.size (nQ<|pT p l*(a+1) ^ i) (a+1) 3 wr HBi.out hc3 (by omega);rw [hcast] at EX;have HEX:=Lib.hid EX;clear EX hcast hc3
            go_wp2_with (go_at_call 134;refine HEX.out.mono ?_;rintro e w5 ⟨rfl,rfl⟩)
            go_roundw
            case rel=>exact ⟨i+1,by omega,by go_num,by rw [<- HST.out];exact HBi.out.set_ 0 _,hb4.setCell (by simp) _⟩
            case measure=>simp [intOf];omega
          have hix:i=r:=by omega
          subst hix
          go_wp2_with fail
          go_loopw [60] (λsi w4=>∃ (j:Nat),j<=a/\si = .int .i64 j/\Blk w4 w.heap.size 3 #[.int .i64 (nQ (pT p l*(a+1) ^ i*M8 j):Nat)]/\Below w.heap.size w w4) (λsi _=>a-(intOf si).toNat)
          case atStart=>exact ⟨0,Qc _,rfl,by simpa [M8] using HBi.out,hb4⟩
          case round=>
            obtain ⟨j,hj,rfl,hBj,hb5⟩:=hrel;have HBj:=Lib.hid hBj;clear hBj
            by_cases hja:j<a
            · have hja':(j:Int)<(a:Int):=by omega
              have hc3:nQ (pT p l*(a+1) ^ i*M8 j)<=3001:=F8 _;have hstep:nQ (nQ (pT p l*(a+1) ^ i*M8 j)*(j+1))=nQ (pT p l*(a+1) ^ i*M8 (j+1)):=by rw [BX _ _ (by omega),M8,<- Qf]
              have HST:=Lib.hid hstep;clear hstep;have hcast:((j+1:Nat):Int)=(j:Int)+1:=by push_cast;rfl
              have EX:=Ai w.heap.size (nQ<|pT p l*(a+1) ^ i*M8 j) (j+1) 3 wr HBj.out hc3 (by omega);rw [hcast] at EX;have HEX:=Lib.hid EX;clear EX hcast hc3
              go_wp2_with (go_at_call 134;refine HEX.out.mono ?_;rintro e w5 ⟨rfl,rfl⟩)
              go_roundw
              case rel=>exact ⟨j+1,by omega,by go_num,by rw [<- HST.out];exact HBj.out.set_ 0 _,hb5.setCell (by simp) _⟩
              case measure=>simp [intOf];omega
            have hjx:j=a:=by omega
            subst hjx
            go_wp2_with fail
            go_roundw
            case rel=>exact ⟨l+1,by omega,by go_num,by rw [HW.out,<- Qf];exact HBj.out,hb5⟩
            case measure=>simp [intOf];omega
    have hl4:l=3:=by omega
    subst hl4;have c0:=HB.out.cell 0;have c1:wr.cell? ⟨w.heap.size,0,Np⟩=Nn (.int .i64 (nQ (pT p 3):Nat)):=c0;clear c0
    go_wp2_with fail
    go_ret
    exact ⟨zb rfl,hb⟩
def uw (x:Ins):Bool:=x.op != 4
def rowOk (r:List Ins):Bool:=Nq (r.length<=7)&&r.all lJ
def qq (p:List<|List Ins):Bool:=Nq (p.length<=3)&&p.all rowOk&&Nq (qV uw p<=12)
def cT (p:List<|List Ins):Bool:=qq p&&Nq (0<p.length)&&Nq (qp p<=3000)
theorem wZ {p:List (List Ins)} (k:Nat) (h:k<p.length) (hb:rowOk p[k]=Nl):qq p=Nl:=by
 have : p.all rowOk=Nl:=by
  rw [List.all_eq_false];exact ⟨p[k],Qi h,by rw [hb];simp⟩
 simp [qq,this]
theorem Aj {r:List Ins} (h:7<r.length):rowOk r=Nl:=by
 simp [rowOk];omega
theorem BZ {r:List Ins} (j:Nat) (h:j<r.length) (hb:lJ r[j]=Nl):rowOk r=Nl:=by
 have : r.all lJ=Nl:=by
  rw [List.all_eq_false];exact ⟨r[j],Qi h,by rw [hb];simp⟩
 simp [rowOk,this]
theorem Al {r:List Ins} (h:r.length<=7) (hg:∀ j (h:j<r.length),lJ r[j]=Nk):rowOk r=Nk:=by
 simp only [rowOk,bae,dte,Qo];refine ⟨h,λx hx=>?_⟩;obtain ⟨j,hj,rfl⟩:=Qt hx;exact hg j hj
theorem zg {p:List (List Ins)} (h:p.length<=3) (hg:∀ j (h:j<p.length),rowOk p[j]=Nk):qq p=Nq (qV uw p<=12):=by
 have : p.all rowOk=Nk:=by
  rw [Qo];intro x hx;obtain ⟨j,hj,rfl⟩:=Qt hx;exact hg j hj
 simp [qq,this,h]
set_option maxHeartbeats 1000000 in
theorem zk {lo hi:Nat} {u:Value} {p:List (List Ins)} {w:World} (hu:xS Ins.cells 4 w lo hi u p) (ht:total p<=1048576) :
    Calls Nr 115 #[u] w λe w'=>e = .returned (.bool<|qq p)/\Below w.heap.size w w':=by
  obtain ⟨xs,hxs,hxl,hxr⟩:=hu;obtain ⟨A,ca,rfl,hca,hma,hA⟩:=hxs.vals;clear hxs;have HX:=Lib.hid hxl;clear hxl;have HXR:=Lib.hid hxr;clear hxr;have HAA:=Lib.hid hA;clear hA
  by_cases h3:xs.length<=3
  · have h3' : ¬ (3:Int)<(xs.length:Int):=by omega
    go_enter func115,Tryz.ntmps115
    go_wp2_with fail
    go_loopw [3,4] (λn i wr=>∃ k:Nat,k<=xs.length/\i = .int .i64 k/\n = .int .i64 (qV uw<|p.take k)/\(∀ q (h:q<p.length),q<k->rowOk p[q]=Nk)/\Below w.heap.size w wr) (λ_ i _=>xs.length-(intOf i).toNat)
    case atStart=>exact ⟨0,Qc _,rfl,rfl,λq _ h=>absurd h (by omega),Below.refl _ _⟩
    case round=>
      obtain ⟨k,hk,rfl,rfl,hgood,hb⟩:=hrel;have HG:=Lib.hid hgood;clear hgood
      by_cases hlt:k<xs.length
      · obtain ⟨ba,oa,rfl,_,_,hba,hA⟩:=HAA.out (by omega);have hp:k<p.length:=HX.out ▸ hlt;obtain ⟨Ak,ck,hk1,hk2,hk3,hrow⟩:=(HXR.out k hlt hp).inss;have HROW:=Lib.hid hrow;clear hrow;have ca0:=hA k hlt;rw [hk1] at ca0;have CA:=Lib.hid ca0;have c00:=(hb.cell (p:=⟨ba,oa+k,Np⟩) hba).trans ca0;clear hA hk1 ca0;have i1:(0:Int)<=(k:Int):=by omega
        have i2:(k:Int)<(xs.length:Int):=by omega
        have HT:=Lib.hid<|fH uw p k hp;have HPL:=Lib.hid λj=>kX uw p k j hp;obtain ⟨wo,rfl⟩:∃ wo:World,wo=wr:=⟨_,rfl⟩
        by_cases h7:p[k].length<=7
        · have h7' : ¬ (7:Int)<(p[k].length:Int):=by omega
          go_wp2_with fail
          go_loopw [3,5] (λn i w2=>∃ j:Nat,j<=p[k].length/\i = .int .i64 j/\n = .int .i64 (qV uw (p.take k)+(p[k].take j).countP uw:Nat)/\(∀ q (h:q<p[k].length),q<j->lJ p[k][q]=Nk)/\Below w.heap.size w w2) (λ_ i _=>p[k].length-(intOf i).toNat)
          case atStart=>exact ⟨0,Qc _,rfl,by simp,λq _ h=>absurd h (by omega),hb⟩
          case round=>
            obtain ⟨j,hj,rfl,rfl,hgj,hb2⟩:=hrel;have HGJ:=Lib.hid hgj;clear hgj;have c0:=(hb2.cell (p:=⟨ba,oa+k,Np⟩) hba).trans CA.out;have hsm:qV uw (p.take k)+(p[k].take j).countP uw<=1048576:=Qg (HPL.out j) ht
            by_cases hlj:j<p[k].length
            · obtain ⟨bb,ob,rfl,_,_,hbb,hB⟩:=HROW.out (by omega);obtain ⟨d1,d2,d3,d4⟩:=(hB j hlj).below hb2 hbb;have HS:=Lib.hid<|fe uw p[k] j hlj;have j1:(0:Int)<=(j:Int):=by omega
              have j2:(j:Int)<(p[k].length:Int):=by omega
              clear hB c00
              go_wp2_with fail
              refine (uY p[k][j] _).mono ?_;rintro e w3 ⟨rfl,hq⟩;have e0:=(hq.cell (p:=⟨ba,oa+k,Np⟩)<|Nat.lt_of_lt_of_le hba hb2.size).trans c0;have e1:=(hq.cell (p:=⟨bb,ob+j*4,Np⟩)<|Nat.lt_of_lt_of_le hbb hb2.size).trans d1;have hb3:=hb2.trans<|hq.mono hb2.size
              by_cases hok:lJ p[k][j]=Nk
              · go_wp2_with fail
                all_goals
                  have h:=HS.out
                  first
                    | (have ef:uw p[k][j]=Nk:=by simpa [uw] using ‹(p[k][j].op != 4)=Nk›
                       rw [if_pos ef] at h)
                    | (have ef : ¬ uw p[k][j]=Nk:=by simpa [uw] using ‹(p[k][j].op != 4)=Nl›
                       rw [if_neg ef] at h)
                  go_roundw
                  case rel=>
                    refine ⟨j+1,by omega,by go_num,congrArg (Value.int .i64) (by omega),λq hq hqj=>?_,hb3⟩
                    by_cases e:q=j
                    · subst e;exact hok
                    exact HGJ.out q hq (by omega)
                  case measure=>simp [intOf];omega
              have hok':lJ p[k][j]=Nl:=by simpa using hok
              have hbad:=wZ k hp<|BZ j hlj hok';have HBAD:=Lib.hid hbad;clear hok hbad
              go_wp2_with fail
              go_ret
              exact ⟨aW (by rw [HBAD.out]),hb3⟩
            have hjx:p[k].take j=p[k]:=Qe (by omega);have HJ:=Lib.hid hjx;clear hjx;have hrk:rowOk p[k]=Nk:=Al h7 λq hq=>HGJ.out q hq (by omega);have HRK:=Lib.hid hrk;clear hrk
            go_wp2_with fail
            go_roundw
            case rel=>
              refine ⟨k+1,by omega,by go_num,congrArg (Value.int .i64) (by rw [HJ.out,HT.out]),λq hq hqk=>?_,hb2⟩
              by_cases e:q=k
              · subst e;exact HRK.out
              exact HG.out q hq (by omega)
            case measure=>simp [intOf];omega
        have h7':(7:Int)<(p[k].length:Int):=by omega
        have HBAD:=Lib.hid<|wZ k hp<|Aj (by omega);clear h7
        go_wp2_with fail
        go_ret
        exact ⟨aW (by rw [HBAD.out]),hb⟩
      have hkx:p.take k=p:=Qe (by rw [<- HX.out];omega);have hsh:=zg (p:=p) (by rw [<- HX.out];exact h3) λq hq=>HG.out q hq (by rw [<- HX.out] at hq;omega);have HK:=Lib.hid hkx;clear hkx;have HS:=Lib.hid hsh;clear hsh
      go_wp2_with fail
      go_ret
      exact ⟨aW (by rw [HS.out,HK.out];exact decide_eq_decide.2<|by omega),hb⟩
  have h3':(3:Int)<(xs.length:Int):=by omega
  have hsh:qq p=Nl:=by
    have := HX.out;simp [qq];omega
  have HS:=Lib.hid hsh;clear h3 hsh
  go_enter func115,Tryz.ntmps115
  go_wp2_with fail
  go_ret
  exact ⟨aW (by rw [HS.out]),Below.refl _ _⟩
theorem zm (n:Nat):Nq (((nQ n:Nat):Int)<=3000)=Nq (n<=3000):=by
 unfold nQ;simp only [decide_eq_decide];omega
theorem tE {lo hi:Nat} {u:Value} {p:List (List Ins)} {w:World} (hu:xS Ins.cells 4 w lo hi u p) (hhi:hi<=w.heap.size) (ht:total p<=1048576) :
  Calls Nr 52 #[u] w λe w'=>e = .returned (.bool<|cT p)/\Below w.heap.size w w':=by
 have HU:=Lib.hid hu;obtain ⟨xs,hxs,hxl,hxr⟩:=hu;obtain ⟨A,ca,rfl,hca,hma,hA⟩:=hxs.vals;clear hxs hxr hA;have HX:=Lib.hid hxl;clear hxl;have hv:cT p=(qq p&&Nq (0<xs.length)&&Nq (qp p<=3000)):=by rw [HX.out];rfl
 have HV:=Lib.hid hv;clear hv;have hc:=zm<|qp p;have HCC:=Lib.hid hc;clear hc
 cases hs:qq p with
 | false=>
  have SH:=Lib.hid<|zk (w:=w) HU.out ht;rw [hs] at SH;have HS:=Lib.hid hs;clear hs
  go_enter func52,Tryz.ntmps52
  go_wp2_with (first | (go_at_call 115;refine SH.out.mono ?_;rintro e w1 ⟨rfl,hb⟩))
  go_ret
  exact ⟨aW (by rw [HV.out,HS.out];rfl),hb⟩
 | true=>
  have SH:=Lib.hid<|zk (w:=w) HU.out ht;rw [hs] at SH;have HS:=Lib.hid hs;clear hs
  by_cases h0:(0:Int)<(xs.length:Int)
  ·go_enter func52,Tryz.ntmps52
   go_wp2_with (first | (go_at_call 115;refine SH.out.mono ?_;rintro e w1 ⟨rfl,hb⟩) | (go_at_call 116;refine (C8 (HU.out.below hb hhi) (Qg hhi hb.size) ht).mono ?_;rintro e w2 ⟨rfl,hb2⟩))
   all_goals
    go_ret
    refine ⟨aW ?_,hb.trans<|hb2.mono hb.size⟩;rw [HV.out,HS.out];have := HCC.out
    simp_all
  go_enter func52,Tryz.ntmps52
  go_wp2_with (first | (go_at_call 115;refine SH.out.mono ?_;rintro e w1 ⟨rfl,hb⟩))
  go_ret
  refine ⟨aW ?_,hb⟩;rw [HV.out,HS.out];simp;omega
theorem Am {p:List (List Ins)} (k:Nat) (h:k<p.length) (hb:rowOk p[k]=Nl):cT p=Nl:=by
 simp [cT,wZ k h hb]
set_option maxHeartbeats 1000000 in
theorem tG {lo hi:Nat} {u:Value} {p:List (List Ins)} {w:World} (hu:xS Ins.cells 4 w lo hi u p) (hhi:hi<=w.heap.size) (ht:total p<=1048576) :
    Calls Nr 29 #[u] w λe w'=>e = .returned (.bool<|cT p)/\Below w.heap.size w w':=by
  have HU:=Lib.hid hu;obtain ⟨xs,hxs,hxl,hxr⟩:=hu;obtain ⟨A,ca,rfl,hca,hma,hA⟩:=hxs.vals;clear hxs;have HX:=Lib.hid hxl;clear hxl;have HXR:=Lib.hid hxr;clear hxr;have HAA:=Lib.hid hA;clear hA
  by_cases h3:1<=xs.length/\xs.length<=3
  · obtain ⟨h1,h3⟩:=h3
    go_enter func29,Tryz.ntmps29
    go_wp2_with (go_at_call 77;refine (eZ _ _ _ Nk (by simp;omega) _).mono ?_;rintro e w1 ⟨rfl,rfl⟩)
    go_loopw [3,14] (λn i wr=>∃ k:Nat,k<=xs.length/\i = .int .i64 k/\n = .int .i64 (qV uw<|p.take k)/\(∀ q (h:q<p.length),q<k->rowOk p[q]=Nk)/\Below w.heap.size w wr) (λ_ i _=>xs.length-(intOf i).toNat)
    case atStart=>exact ⟨0,Qc _,rfl,rfl,λq _ h=>absurd h (by omega),Below.refl _ _⟩
    case round=>
      obtain ⟨k,hk,rfl,rfl,hgood,hb⟩:=hrel;have HG:=Lib.hid hgood;clear hgood
      by_cases hlt:k<xs.length
      · obtain ⟨ba,oa,rfl,_,_,hba,hA⟩:=HAA.out (by omega);have hp:k<p.length:=HX.out ▸ hlt;obtain ⟨Ak,ck,hk1,hk2,hk3,hrow⟩:=(HXR.out k hlt hp).inss;have HROW:=Lib.hid hrow;clear hrow;have ca0:=hA k hlt;rw [hk1] at ca0;have c00:=(hb.cell (p:=⟨ba,oa+k,Np⟩) hba).trans ca0;clear hA hk1 ca0;have i1:(0:Int)<=(k:Int):=by omega
        have i2:(k:Int)<(xs.length:Int):=by omega
        have HT:=Lib.hid<|fH uw p k hp;have HPL:=Lib.hid λj=>kX uw p k j hp;obtain ⟨wo,rfl⟩:∃ wo:World,wo=wr:=⟨_,rfl⟩
        go_wp2_with fail
        clear c00
        go_loopw [3,20] (λn i w2=>∃ j:Nat,j<=p[k].length/\i = .int .i64 j/\n = .int .i64 (qV uw (p.take k)+(p[k].take j).countP uw:Nat)/\(∀ q (h:q<p[k].length),q<j->lJ p[k][q]=Nk)/\Below w.heap.size w w2) (λ_ i _=>p[k].length-(intOf i).toNat)
        case atStart=>exact ⟨0,Qc _,rfl,by simp,λq _ h=>absurd h (by omega),hb⟩
        case round=>
          obtain ⟨j,hj,rfl,rfl,hgj,hb2⟩:=hrel;have HGJ:=Lib.hid hgj;clear hgj;have hsm:qV uw (p.take k)+(p[k].take j).countP uw<=1048576:=Qg (HPL.out j) ht
          by_cases hlj:j<p[k].length
          · obtain ⟨bb,ob,rfl,_,_,hbb,hB⟩:=HROW.out (by omega);obtain ⟨d1,d2,d3,d4⟩:=(hB j hlj).below hb2 hbb;have HS:=Lib.hid<|fe uw p[k] j hlj;have j1:(0:Int)<=(j:Int):=by omega
            have j2:(j:Int)<(p[k].length:Int):=by omega
            clear hB
            go_wp2_with fail
            refine (uZ p[k][j] _).mono ?_;rintro e w3 ⟨rfl,hq⟩;have z0:=hq.cell (p:=⟨wr.heap.size,0,Np⟩) (by simp);have hb3:=(hb2.alloc hb2.size<|.cells #[.int .i64 p[k][j].op,.int .i64 p[k][j].loc,.int .i64 p[k][j].reg,.int .i64 p[k][j].val] 79).trans<|hq.mono (by simp;have := hb2.size;omega)
            by_cases hok:lJ p[k][j]=Nk
            · go_wp2_with fail
              all_goals
                have h:=HS.out
                first
                  | (have ef:uw p[k][j]=Nk:=by simpa [uw] using ‹(p[k][j].op != 4)=Nk›
                     rw [if_pos ef] at h)
                  | (have ef : ¬ uw p[k][j]=Nk:=by simpa [uw] using ‹(p[k][j].op != 4)=Nl›
                     rw [if_neg ef] at h)
                go_roundw
                case rel=>
                  refine ⟨j+1,by omega,by go_num,congrArg (Value.int .i64) (by omega),λq hq hqj=>?_,hb3⟩
                  by_cases e:q=j
                  · subst e;exact hok
                  exact HGJ.out q hq (by omega)
                case measure=>simp [intOf];omega
            have hok':lJ p[k][j]=Nl:=by simpa using hok
            have hbad:=Am k hp<|BZ j hlj hok';have HBAD:=Lib.hid hbad;clear hok hbad
            go_wp2_with fail
            go_ret
            exact ⟨aW (by rw [HBAD.out]),hb3⟩
          have hjx:p[k].take j=p[k]:=Qe (by omega);have HJ:=Lib.hid hjx;clear hjx
          by_cases h7:p[k].length<=7
          · have h7' : ¬ (7:Int)<(p[k].length:Int):=by omega
            have hrk:rowOk p[k]=Nk:=Al h7 λq hq=>HGJ.out q hq (by omega);have HRK:=Lib.hid hrk;clear hrk
            go_wp2_with fail
            go_roundw
            case rel=>
              refine ⟨k+1,by omega,by go_num,congrArg (Value.int .i64) (by rw [HJ.out,HT.out]),λq hq hqk=>?_,hb2⟩
              by_cases e:q=k
              · subst e;exact HRK.out
              exact HG.out q hq (by omega)
            case measure=>simp [intOf];omega
          have h7':(7:Int)<(p[k].length:Int):=by omega
          have HBAD:=Lib.hid<|Am k hp<|Aj (by omega);clear h7
          go_wp2_with fail
          go_ret
          exact ⟨aW (by rw [HBAD.out]),hb2⟩
      have hkx:p.take k=p:=Qe (by rw [<- HX.out];omega);have hsh:=zg (p:=p) (by rw [<- HX.out];exact h3) λq hq=>HG.out q hq (by rw [<- HX.out] at hq;omega);have hv:cT p=(Nq (qV uw p<=12)&&Nq (qp p<=3000)):=by
        have : 0<p.length:=by rw [<- HX.out];omega
        simp [cT,hsh,this]
      rw [hkx];have HV:=Lib.hid hv;clear hv hsh hkx;have HCC:=Lib.hid<|zm<|qp p
      by_cases h12:qV uw p<=12
      · have h12':(qV uw p:Int)<=12:=by omega
        go_wp2_with (go_at_call 79;refine (F9 (HU.out.below hb hhi) ht).mono ?_;rintro e w2 ⟨rfl,hb2⟩)
        go_ret
        exact ⟨aW (by rw [HV.out,decide_eq_true h12,Bool.true_and];exact HCC.out),hb.trans<|hb2.mono hb.size⟩
      have h12' : ¬ (qV uw p:Int)<=12:=by omega
      have hf:cT p=Nl:=by rw [HV.out];simp [h12]
      have HF:=Lib.hid hf;clear hf h12
      go_wp2_with fail
      go_ret
      exact ⟨aW (by rw [HF.out]),hb⟩
  have hv:cT p=Nl:=by
    have := HX.out
    by_cases h:p.length<=3
    · have : p.length=0:=by omega
      simp [cT,this]
    simp [cT,qq,h]
  have HV:=Lib.hid hv;clear hv;have HN:=Lib.hid h3;clear h3
  go_enter func29,Tryz.ntmps29
  go_wp2_with (go_at_call 77;refine (eZ _ _ _ Nl (by have := HN.out;simp;omega) _).mono ?_;rintro e w1 ⟨rfl,rfl⟩)
  go_ret
  exact ⟨aW (by rw [HV.out]),Below.refl _ _⟩
open Go.RowKit
def da (p:List<|List M5):Option Bool:=gd (Nq<|p.length<=1048576/\total p<=1048576)<|Nn<|cT<|p.map λr=>r.map pI
def bU (p:List<|List M5):Option Bool:=gd (Nq<|p.length<=1048576/\total p<=1048576)<|Nn<|cT<|p.map λr=>r.map pI
def pJ (l:LI) (i j:Int):Option (LI):=gd (Nq<|0<=i/\i<=j/\j<=(l.length:Int)/\0<l.length)<|Nn<|l.take i.toNat++l.drop j.toNat
open Go.RowKit
def iO (x:M5):Option Bool:= Qa (bif (x.Op==(1:Int)) then Nn Nk else Nn (x.Op==(5:Int))) λs1=>Nn s1
def gZ (x:M5):Option Bool:= Qa (bif (x.Op==(2:Int)) then Nn Nk else Nn (x.Op==(3:Int))) λs1=>Qa (bif s1 then Nn Nk else Nn (x.Op==(5:Int))) λs3=>Nn s3
def sH:LS ((List M7)×Int) (List M7):=λs7=>bif Nq (s7.2<(3:Int)) then gd (dS (s7.1.length+1) 32) <|gd (M3 .i64<|s7.2+(1:Int)) <|Nn (.inl ((s7.1++[(⟨(-1:Int),s7.2,s7.2,Nl,Nk⟩:M7)]),(s7.2+(1:Int)))) else Nn (.inr s7.1)
def rf (p:List<|List M5) (s24:(List M7)×Int):LS ((List M7)×Int) (List M7):=λs37=>bif Nq (s37.2<((J p s24.2).length:Int)) then Qa (gd (Nq<|0<=s37.2/\s37.2<((J p s24.2).length:Int)) <|bif (((J (J p s24.2) s37.2).Op) != (4:Int)) then Qa (iO (⟨(J (J p s24.2) s37.2).Op,(J (J p s24.2) s37.2).Loc,(J (J p s24.2) s37.2).Reg,(J (J p s24.2) s37.2).Val⟩:M5)) λv46=>Qa (gZ (⟨(J (J p s24.2) s37.2).Op,(J (J p s24.2) s37.2).Loc,(J (J p s24.2) s37.2).Reg,(J (J p s24.2) s37.2).Val⟩:M5)) λv47=>gd (dS (s37.1.length+1) 32) <|Nn (s37.1++[(⟨s24.2,s37.2,(J (J p s24.2) s37.2).Loc,v46,v47⟩:M7)]) else Nn s37.1) λs43=>gd (M3 .i64<|s37.2+(1:Int)) <|Nn (.inl (s43,(s37.2+(1:Int)))) else Nn (.inr s37.1)
def rq (p:List<|List M5):LS ((List M7)×Int) (List M7):=λs24=>bif Nq (s24.2<(p.length:Int)) then Qa (gd (Nq<|0<=s24.2/\s24.2<(p.length:Int)) <|aV (rf p s24) (s24.1,(0:Int))) λs30=>gd (M3 .i64<|s24.2+(1:Int)) <|Nn (.inl (s30,(s24.2+(1:Int)))) else Nn (.inr s24.1)
def jm (p:List<|List M5):Option (List M7):= Qa (aV sH (([]:List M7),(0:Int))) λs1=>Qa (aV (rq p) (s1,(0:Int))) λs18=>Nn s18
def pK (list:List M7) (loc:Int):LS ((LI)×Int) (LI):=λs7=>bif Nq (s7.2<(list.length:Int)) then Qa (gd (Nq<|0<=s7.2/\s7.2<(list.length:Int)) <|Qa (bif (J list s7.2).cu then Nn (((J list s7.2).Loc)==loc) else Nn Nl) λs15=>bif s15 then gd (dS (s7.1.length+1) 8) <|Nn (s7.1++[s7.2]) else Nn s7.1) λs13=>gd (M3 .i64<|s7.2+(1:Int)) <|Nn (.inl (s13,(s7.2+(1:Int)))) else Nn (.inr s7.1)
def fg (list:List M7) (loc:Int):Option (LI):= Qa (aV (pK list loc) (([]:LI),(0:Int))) λs1=>Nn s1
def jZ (s:LI) (v:Int):LS Int (Unit ⊕ Int):=λs4=>bif Nq (s4<(s.length:Int)) then gd (Nq<|0<=s4/\s4<(s.length:Int)) <|bif (v==(J s s4)) then Nn (.inr<|.inr s4) else gd (M3 .i64<|s4+(1:Int)) <|Nn (.inl<|s4+(1:Int)) else Nn (.inr<|.inl ())
def cV (s:LI) (v:Int):Option Int:= sumK (aV (jZ s v) (0:Int)) λs1=>Nn (-1:Int)
def aJ (s:LI):Option (LI):= nilK (s.isEmpty) (Nn ([]:LI)) (gd (dS (([]:LI).length+s.length) 8) <|Nn<|([]:LI)++s)
def m8 (x:M5):Option Bool:= Qa (bif (x.Op==(1:Int)) then Nn Nk else Nn (x.Op==(5:Int))) λs1=>Nn s1
def lK (x:M5):Option Bool:= Qa (bif (x.Op==(2:Int)) then Nn Nk else Nn (x.Op==(3:Int))) λs1=>Qa (bif s1 then Nn Nk else Nn (x.Op==(5:Int))) λs3=>Nn s3
def kx (name:BA):Option BA:= bif Nq (name=(⟨#[115,101,113]⟩:BA)) then Nn (⟨#[97,99,121,99,108,105,99,32,112,111,124,114,102,124,99,111,124,102,114]⟩:BA) else bif Nq (name=(⟨#[116,115,111]⟩:BA)) then Nn (⟨#[97,99,121,99,108,105,99,32,112,111,38,108,111,99,124,114,102,124,99,111,124,102,114,47,97,99,121,99,108,105,99,32,112,111,45,119,114,124,102,101,110,99,101,124,114,102,38,101,120,116,124,99,111,124,102,114,47,105,114,114,101,102,32,102,114,59,99,111]⟩:BA) else bif Nq (name=(⟨#[112,115,111]⟩:BA)) then Nn (⟨#[97,99,121,99,108,105,99,32,112,111,38,108,111,99,124,114,102,124,99,111,124,102,114,47,97,99,121,99,108,105,99,32,112,111,45,40,119,114,124,119,119,41,124,102,101,110,99,101,124,114,102,38,101,120,116,124,99,111,124,102,114,47,105,114,114,101,102,32,102,114,59,99,111]⟩:BA) else bif Nq (name=(⟨#[114,97]⟩:BA)) then Nn (⟨#[97,99,121,99,108,105,99,32,112,111,124,114,102,47,97,99,121,99,108,105,99,32,43,40,112,111,124,114,102,41,38,108,111,99,124,99,111,124,102,114,47,105,114,114,101,102,32,102,114,59,99,111]⟩:BA) else bif Nq (name=(⟨#[108,111,99]⟩:BA)) then Nn (⟨#[97,99,121,99,108,105,99,32,112,111,38,108,111,99,124,114,102,124,99,111,124,102,114]⟩:BA) else Nn (⟨#[]⟩:BA)
def bG (s:BA) (c:Int):Option Int:= Nn<|LP s c
def bD (s:BA) (substr:BA):Option Int:= Qa (bif ((substr.size:Int)==(0:Int)) then Nn Nk else Nn (Nq<|substr=s)) λs1=>bif s1 then Nn (0:Int) else bif ((substr.size:Int)==(1:Int)) then gd (Nq<|0<=(0:Int)/\(0:Int)<(substr.size:Int)) <|Qa (bG s ((substr.data.getD (0:Int).toNat 0).toNat:Int)) λv6=>Nn v6 else bif Nq ((s.size:Int)<=(substr.size:Int)) then Nn (-1:Int) else Np
def iW (s:BA) (substr:BA):Option Int:= Qa (bD s substr) λv1=>Nn v1
def lL (substr:BA):LS (Int×BA) Int:=λs6=>Qa (iW s6.2 substr) λv8=>bif (v8==(-1:Int)) then Nn (.inr s6.1) else gd (M3 .i64<|s6.1+(1:Int)) <|gd (M3 .i64<|v8+(substr.size:Int)) <|gd (Nq<|0<=(v8+(substr.size:Int))/\(v8+(substr.size:Int))<=(s6.2.size:Int)/\(s6.2.size:Int)<=(s6.2.size:Int)) <|Nn<|.inl ((s6.1+(1:Int)),(s6.2.extract (v8+(substr.size:Int)).toNat (s6.2.size:Int).toNat))
def lM (s:BA) (substr:BA):Option Int:= bif ((substr.size:Int)==(0:Int)) then Np else bif ((substr.size:Int)==(1:Int)) then gd (Nq<|0<=(0:Int)/\(0:Int)<(substr.size:Int)) <|Nn (LO s ((substr.data.getD (0:Int).toNat 0).toNat:Int)) else aV (lL substr) ((0:Int),s)
def iF (s:BA) (sep:BA) (sepSave:Int) (s3:Int):LS ((List BA)×Int×BA) ((List BA)×Int×BA):=λs14=>bif Nq (s14.2.1<((if ((s.size:Int)+(1:Int))<s3 then ((s.size:Int)+(1:Int)) else s3)-(1:Int))) then Qa (iW s14.2.2 sep) λv18=>bif Nq (v18<(0:Int)) then Nn (.inr (s14.1,s14.2.1,s14.2.2)) else gd (M3 .i64<|v18+sepSave) <|gd (Nq<|0<=(0:Int)/\(0:Int)<=(v18+sepSave)/\(v18+sepSave)<=(s14.2.2.size:Int)) <|gd (Nq<|0<=s14.2.1/\s14.2.1<(s14.1.length:Int)) <|gd (M3 .i64<|v18+(sep.size:Int)) <|gd (Nq<|0<=(v18+(sep.size:Int))/\(v18+(sep.size:Int))<=(s14.2.2.size:Int)/\(s14.2.2.size:Int)<=(s14.2.2.size:Int)) <|gd (M3 .i64<|s14.2.1+(1:Int)) <|Nn (.inl ((s14.1.set s14.2.1.toNat<|s14.2.2.extract (0:Int).toNat (v18+sepSave).toNat),(s14.2.1+(1:Int)),(s14.2.2.extract (v18+(sep.size:Int)).toNat (s14.2.2.size:Int).toNat))) else Nn (.inr (s14.1,s14.2.1,s14.2.2))
def iP (s:BA) (sep:BA) (sepSave:Int) (n:Int):Option (List BA):= bif (n==(0:Int)) then Nn ([]:List BA) else bif Nq (sep=(⟨#[]⟩:BA)) then Np else Qa (bif Nq (n<(0:Int)) then Qa (lM s sep) λv5=>gd (M3 .i64<|v5+(1:Int)) <|Nn (v5+(1:Int)) else Nn n) λs3=>gd (M3 .i64<|(s.size:Int)+(1:Int)) <|gd (Nq<|0<=(if ((s.size:Int)+(1:Int))<s3 then ((s.size:Int)+(1:Int)) else s3)/\(if ((s.size:Int)+(1:Int))<s3 then ((s.size:Int)+(1:Int)) else s3)<=(if ((s.size:Int)+(1:Int))<s3 then ((s.size:Int)+(1:Int)) else s3)/\(if ((s.size:Int)+(1:Int))<s3 then ((s.size:Int)+(1:Int)) else s3)*((16:Nat):Int)<=140737488355328/\(if ((s.size:Int)+(1:Int))<s3 then ((s.size:Int)+(1:Int)) else s3)<=140737488355328) <|gd (M3 .i64<|(if ((s.size:Int)+(1:Int))<s3 then ((s.size:Int)+(1:Int)) else s3)-(1:Int)) <|Qa (aV (iF s sep sepSave s3) ((Qd (if ((s.size:Int)+(1:Int))<s3 then ((s.size:Int)+(1:Int)) else s3).toNat (Nj:BA)),(0:Int),s)) λs10=>gd (Nq<|0<=s10.2.1/\s10.2.1<(s10.1.length:Int)) <|gd (M3 .i64<|s10.2.1+(1:Int)) <|gd (Nq<|0<=(0:Int)/\(0:Int)<=(s10.2.1+(1:Int))/\(s10.2.1+(1:Int))<=((s10.1.set s10.2.1.toNat s10.2.2).length:Int)) <|Nn<|((s10.1.set s10.2.1.toNat s10.2.2).drop (0:Int).toNat).take<|(s10.2.1+(1:Int)).toNat-(0:Int).toNat
def lN (s:BA) (sep:BA):Option (List BA):= Qa (iP s sep (0:Int) (-1:Int)) λv1=>Nn v1
def cN (s:BA) (sep:BA):Option (ByteArray×ByteArray×Bool):= Qa (bD s sep) λv1=>bif Nq ((0:Int)<=v1) then gd (Nq<|0<=(0:Int)/\(0:Int)<=v1/\v1<=(s.size:Int)) <|gd (M3 .i64<|v1+(sep.size:Int)) <|gd (Nq<|0<=(v1+(sep.size:Int))/\(v1+(sep.size:Int))<=(s.size:Int)/\(s.size:Int)<=(s.size:Int)) <|Nn ((s.extract (0:Int).toNat v1.toNat),(s.extract (v1+(sep.size:Int)).toNat (s.size:Int).toNat),Nk) else Nn (s,(⟨#[]⟩:BA),Nl)
def oK (s:BA) (sep:BA):Option (ByteArray×ByteArray×Bool):= Qa (cN s sep) λv1=>Nn (v1.1,v1.2.1,v1.2.2)
def bL (s:List BA) (v:BA):LS Int (Unit ⊕ Int):=λs4=>bif Nq (s4<(s.length:Int)) then gd (Nq<|0<=s4/\s4<(s.length:Int)) <|bif Nq (v=(J s s4)) then Nn (.inr<|.inr s4) else gd (M3 .i64<|s4+(1:Int)) <|Nn (.inl<|s4+(1:Int)) else Nn (.inr<|.inl ())
def aU (s:List BA) (v:BA):Option Int:= sumK (aV (bL s v) (0:Int)) λs1=>Nn (-1:Int)
def bv (r_:aa) (c:Int):Option (aa×Bool):= Qa (bif r_.failed then Nn Nk else Nn (Nq<|r_.rest=(⟨#[]⟩:BA))) λs1=>Qa (bif s1 then Nn Nk else gd (Nq<|0<=(0:Int)/\(0:Int)<(r_.rest.size:Int)) <|Nn<|((r_.rest.data.getD (0:Int).toNat 0).toNat:Int) != c) λs3=>bif s3 then Nn ((⟨r_.rest,r_.failed⟩:aa),Nl) else gd (Nq<|0<=(1:Int)/\(1:Int)<=(r_.rest.size:Int)/\(r_.rest.size:Int)<=(r_.rest.size:Int)) <|Nn ((⟨(r_.rest.extract (1:Int).toNat (r_.rest.size:Int).toNat),r_.failed⟩:aa),Nk)
def f9 (r_:aa):LS Int Int:=λs4=>Qa (bif Nq (s4<(r_.rest.size:Int)) then gd (Nq<|0<=s4/\s4<(r_.rest.size:Int)) <|Nn (Nq<|(97:Int)<=((r_.rest.data.getD s4.toNat 0).toNat:Int)) else Nn Nl) λs6=>Qa (bif s6 then gd (Nq<|0<=s4/\s4<(r_.rest.size:Int)) <|Nn (Nq<|((r_.rest.data.getD s4.toNat 0).toNat:Int)<=(122:Int)) else Nn Nl) λs9=>bif s9 then gd (M3 .i64<|s4+(1:Int)) <|Nn (.inl<|s4+(1:Int)) else Nn (.inr s4)
def fq (r_:aa):Option (aa×BA):= Qa (aV (f9 r_) (0:Int)) λs1=>gd (Nq<|0<=(0:Int)/\(0:Int)<=s1/\s1<=(r_.rest.size:Int)) <|gd (Nq<|0<=s1/\s1<=(r_.rest.size:Int)/\(r_.rest.size:Int)<=(r_.rest.size:Int)) <|Nn ((⟨(r_.rest.extract s1.toNat (r_.rest.size:Int).toNat),r_.failed⟩:aa),(r_.rest.extract (0:Int).toNat s1.toNat))
def bR (dH:aa->Int->Option (aa×ae)) (rcf:aa->Option (aa×ae)) (r_:aa):Option (aa×ae):= Qa (bv (⟨r_.rest,r_.failed⟩:aa) (40:Int)) λv1=>bif v1.2 then Qa (dH (⟨v1.1.rest,v1.1.failed⟩:aa) (3:Int)) λv3=>Qa (Qa (bv (⟨v3.1.rest,v3.1.failed⟩:aa) (41:Int)) λv5=>bif !v5.2 then Nn (v5.1.rest,Nk) else Nn (v5.1.rest,v5.1.failed)) λs4=>Nn ((⟨s4.1,s4.2⟩:aa),(⟨v3.2.Op,v3.2.Name,v3.2.Kids⟩:ae)) else Qa (bv (⟨v1.1.rest,v1.1.failed⟩:aa) (126:Int)) λv7=>bif v7.2 then Qa (rcf (⟨v7.1.rest,v7.1.failed⟩:aa)) λv9=>Nn ((⟨v9.1.rest,v9.1.failed⟩:aa),(⟨(6:Int),(⟨#[]⟩:BA),([v9.2.inn]:List ZTE)⟩:ae)) else Qa (bv (⟨v7.1.rest,v7.1.failed⟩:aa) (43:Int)) λv10=>bif v10.2 then Qa (rcf (⟨v10.1.rest,v10.1.failed⟩:aa)) λv12=>Nn ((⟨v12.1.rest,v12.1.failed⟩:aa),(⟨(7:Int),(⟨#[]⟩:BA),([v12.2.inn]:List ZTE)⟩:ae)) else Qa (fq (⟨v10.1.rest,v10.1.failed⟩:aa)) λv13=>Qa (bif Nq (v13.2=(⟨#[]⟩:BA)) then Nn Nk else Nn v13.1.failed) λs14=>Nn ((⟨v13.1.rest,s14⟩:aa),(⟨(1:Int),v13.2,([]:List ZTE)⟩:ae))
def bB (dH:aa->Int->Option (aa×ae)):Nat->aa->Option (aa×ae)
 | 0=>λ_=>Np
 | n+1=>bR dH (bB dH n)
def dX (dH:aa->Int->Option (aa×ae)) (r_:aa):Option (aa×ae):=EB λnf=>bB dH nf r_
def dz (op:Int):Option (Int×ByteArray×Int):= bif (op==(1:Int)) then Nn ((0:Int),(⟨#[]⟩:BA),(0:Int)) else bif (op==(2:Int)) then Nn ((3:Int),(⟨#[124]⟩:BA),(2:Int)) else bif (op==(3:Int)) then Nn ((2:Int),(⟨#[38]⟩:BA),(2:Int)) else bif (op==(4:Int)) then Nn ((2:Int),(⟨#[45]⟩:BA),(2:Int)) else bif (op==(5:Int)) then Nn ((1:Int),(⟨#[59]⟩:BA),(2:Int)) else bif (op==(6:Int)) then Nn ((0:Int),(⟨#[126]⟩:BA),(1:Int)) else bif (op==(7:Int)) then Nn ((0:Int),(⟨#[43]⟩:BA),(1:Int)) else Nn ((0:Int),(⟨#[]⟩:BA),(-1:Int))
def eT (level:Int):LS (ByteArray×Bool×Int×Int) (ByteArray×Bool×Int):=λs12=>bif Nq (s12.2.2.1<(([(2:Int),(3:Int),(4:Int),(5:Int)]:LI).length:Int)) then Qa (gd (Nq<|0<=s12.2.2.1/\s12.2.2.1<(([(2:Int),(3:Int),(4:Int),(5:Int)]:LI).length:Int)) <|Qa (dz<|J ([(2:Int),(3:Int),(4:Int),(5:Int)]:LI) s12.2.2.1) λv17=>Qa (bif (s12.2.2.2==(0:Int)) then Nn (v17.1==level) else Nn Nl) λs18=>bif s18 then gd (Nq<|0<=(0:Int)/\(0:Int)<(v17.2.1.size:Int)) <|Qa (bv (⟨s12.1,s12.2.1⟩:aa) ((v17.2.1.data.getD (0:Int).toNat 0).toNat:Int)) λv22=>bif v22.2 then Nn (v22.1.rest,v22.1.failed,(J ([(2:Int),(3:Int),(4:Int),(5:Int)]:LI) s12.2.2.1)) else Nn (v22.1.rest,v22.1.failed,s12.2.2.2) else Nn (s12.1,s12.2.1,s12.2.2.2)) λs15=>gd (M3 .i64<|s12.2.2.1+(1:Int)) <|Nn (.inl (s15.1,s15.2.1,(s12.2.2.1+(1:Int)),s15.2.2)) else Nn (.inr (s12.1,s12.2.1,s12.2.2.2))
def fI (rcf:aa->Int->Option (aa×ae)) (level:Int):(ByteArray×Bool×Int×ByteArray×(List ZTE))->Option ((ByteArray×Bool×Int×ByteArray×(List ZTE)) ⊕ (aa×ae)):=λs7=>Qa (aV (eT level) (s7.1,s7.2.1,(0:Int),(0:Int))) λs9=>bif (s9.2.2==(0:Int)) then Nn (.inr ((⟨s9.1,s9.2.1⟩:aa),(⟨s7.2.2.1,s7.2.2.2.1,s7.2.2.2.2⟩:ae))) else Qa (rcf (⟨s9.1,s9.2.1⟩:aa)<|level-(1:Int)) λv26=>Nn<|.inl (v26.1.rest,v26.1.failed,s9.2.2,(⟨#[]⟩:BA),([(⟨s7.2.2.1,s7.2.2.2.1,s7.2.2.2.2⟩:ae).inn,v26.2.inn]:List ZTE))
def dE (rcf:aa->Int->Option (aa×ae)) (r_:aa) (level:Int):Option (aa×ae):= bif (level==(0:Int)) then Qa (dX rcf (⟨r_.rest,r_.failed⟩:aa)) λv2=>Nn ((⟨v2.1.rest,v2.1.failed⟩:aa),(⟨v2.2.Op,v2.2.Name,v2.2.Kids⟩:ae)) else gd (M3 .i64<|level-(1:Int)) <|Qa (rcf (⟨r_.rest,r_.failed⟩:aa)<|level-(1:Int)) λv4=>aV (fI rcf level) (v4.1.rest,v4.1.failed,v4.2.Op,v4.2.Name,v4.2.Kids)
def bF:Nat->aa->Int->Option (aa×ae)
 | 0=>λ_ _=>Np
 | n+1=>dE (bF n)
def iG (r_:aa) (level:Int):Option (aa×ae):=EB λnf=>bF nf r_ level
def bh (s:List BA) (v:BA):Option Bool:= Qa (aU s v) λv1=>Nn<|Nq<|(0:Int)<=v1
def dI (name:BA):Option Bool:= Qa (bh DR name) λv1=>Nn v1
def iQ (rcf:ae->Int->Option Int) (e_:ae) (most:Int):LS (Int×Int) Int:=λs13=>bif Nq (s13.1<(e_.Kids.length:Int)) then gd (Nq<|0<=s13.1/\s13.1<(e_.Kids.length:Int)) <|gd (M3 .i64<|most-(1:Int)) <|Qa (rcf (⟨((J e_.Kids s13.1).out).Op,((J e_.Kids s13.1).out).Name,((J e_.Kids s13.1).out).Kids⟩:ae)<|most-(1:Int)) λv18=>gd (M3 .i64<|s13.2+v18) <|bif Nq ((40:Int)<(s13.2+v18)) then Nn (.inr<|s13.2+v18) else gd (M3 .i64<|s13.1+(1:Int)) <|Nn (.inl ((s13.1+(1:Int)),(s13.2+v18))) else Nn (.inr s13.2)
def fo (rcf:ae->Int->Option Int) (e_:ae) (most:Int):Option Int:= Qa (dz e_.Op) λv1=>sumK (Qa (bif (most==(0:Int)) then Nn Nk else bif ((e_.Kids.length:Int) != v1.2.2) then Nn Nk else Qa (dI e_.Name) λv6=>bif (!((e_.Op==(1:Int))==v6)) then Nn Nk else bif (e_.Op != (1:Int)) then Nn (!decide (e_.Name=(⟨#[]⟩:BA))) else Nn Nl) λs3=>bif s3 then Nn (.inr (41:Int)) else Nn (.inl ())) λs2=>Qa (aV (iQ rcf e_ most) ((0:Int),(1:Int))) λs10=>Nn s10
def dJ:Nat->ae->Int->Option Int
 | 0=>λ_ _=>Np
 | n+1=>fo (dJ n)
def qH (e_:ae) (most:Int):Option Int:=EB λnf=>dJ nf e_ most
def bV (e_:ae):Option Bool:= Qa (qH e_ (12:Int)) λv1=>Nn<|Nq<|v1<=(40:Int)
def kz (rcf:ae->Int->Option BA) (e_:ae) (most:Int):Option BA:= Qa (dz e_.Op) λv1=>Qa (bif (v1.2.2==(1:Int)) then gd (Nq<|0<=(0:Int)/\(0:Int)<(e_.Kids.length:Int)) <|Qa (rcf ((J e_.Kids (0:Int)).out) (0:Int)) λv5=>gd (Nq<|v1.2.1.size+v5.size<=9223372036854775807) <|Nn (v1.2.1++v5) else bif (v1.2.2==(2:Int)) then gd (Nq<|0<=(0:Int)/\(0:Int)<(e_.Kids.length:Int)) <|Qa (rcf ((J e_.Kids (0:Int)).out) v1.1) λv9=>gd (Nq<|v9.size+v1.2.1.size<=9223372036854775807) <|gd (Nq<|0<=(1:Int)/\(1:Int)<(e_.Kids.length:Int)) <|gd (M3 .i64<|v1.1-(1:Int)) <|Qa (rcf ((J e_.Kids (1:Int)).out)<|v1.1-(1:Int)) λv13=>gd (Nq<|(v9++v1.2.1).size+v13.size<=9223372036854775807) <|Nn ((v9++v1.2.1)++v13) else Nn e_.Name) λs2=>bif Nq (most<v1.1) then gd (Nq<|(⟨#[40]⟩:BA).size+s2.size<=9223372036854775807) <|gd (Nq<|((⟨#[40]⟩:BA)++s2).size+(⟨#[41]⟩:BA).size<=9223372036854775807) <|Nn (((⟨#[40]⟩:BA)++s2)++(⟨#[41]⟩:BA)) else Nn s2
def iz:Nat->ae->Int->Option BA
 | 0=>λ_ _=>Np
 | n+1=>kz (iz n)
def qI (e_:ae) (most:Int):Option BA:=EB λnf=>iz nf e_ most
def dP (e_:ae):Option BA:= Qa (bV e_) λv1=>bif !v1 then Nn (⟨#[]⟩:BA) else Qa (qI e_ (3:Int)) λv3=>Nn v3
def ia (text:BA):Option (ae×Bool):= bif Nq ((300:Int)<(text.size:Int)) then Nn ((⟨(0:Int),(⟨#[]⟩:BA),([]:List ZTE)⟩:ae),Nl) else Qa (iG (⟨text,Nl⟩:aa) (3:Int)) λv2=>Qa (bif v2.1.failed then Nn Nk else Nn (!decide (v2.1.rest=(⟨#[]⟩:BA)))) λs3=>Qa (bif s3 then Nn Nk else Nn (Nq<|text=(⟨#[]⟩:BA))) λs5=>Qa (bif s5 then Nn Nk else Qa (dP (⟨v2.2.Op,v2.2.Name,v2.2.Kids⟩:ae)) λv9=>Nn<|!decide (v9=text)) λs7=>bif s7 then Nn ((⟨(0:Int),(⟨#[]⟩:BA),([]:List ZTE)⟩:ae),Nl) else Nn ((⟨v2.2.Op,v2.2.Name,v2.2.Kids⟩:ae),Nk)
def fu (x:Int) (low:Int) (high:Int):Option Bool:= Qa (bif Nq (low<=x) then Nn (Nq<|x<=high) else Nn Nl) λs1=>Nn s1
def dY (r_:ai):Option Bool:= Qa (fu r_.Kind (1:Int) (3:Int)) λv1=>Qa (bif !v1 then Nn Nk else Qa (bV r_.Expr) λv4=>Nn<|!v4) λs2=>Nn s2
def aA (s:List ai):LS Int (Unit ⊕ Int):=λs4=>bif Nq (s4<(s.length:Int)) then gd (Nq<|0<=s4/\s4<(s.length:Int)) <|Qa (dY<|J s s4) λv8=>bif v8 then Nn (.inr<|.inr s4) else gd (M3 .i64<|s4+(1:Int)) <|Nn (.inl<|s4+(1:Int)) else Nn (.inr<|.inl ())
def ay (s:List ai):Option Int:= sumK (aV (aA s) (0:Int)) λs1=>Nn (-1:Int)
def ax (s:List ai):Option Bool:= Qa (ay s) λv1=>Nn<|Nq<|(0:Int)<=v1
def db (m:List ai):Option Bool:= Qa (fu (m.length:Int) (1:Int) (5:Int)) λv1=>Qa (bif v1 then Qa (ax m) λv4=>Nn (!v4) else Nn Nl) λs2=>Nn s2
def iX (m:List ai):LS ((List BA)×Int) (List BA):=λs8=>bif Nq (s8.2<(m.length:Int)) then gd (Nq<|0<=s8.2/\s8.2<(m.length:Int)) <|gd (Nq<|0<=(J m s8.2).Kind/\(J m s8.2).Kind<4) <|gd (Nq<|(J zR<|(J m s8.2).Kind).size+(⟨#[32]⟩:BA).size<=9223372036854775807) <|Qa (dP (⟨((J m s8.2).Expr).Op,((J m s8.2).Expr).Name,((J m s8.2).Expr).Kids⟩:ae)) λv15=>gd (Nq<|((J zR<|(J m s8.2).Kind)++(⟨#[32]⟩:BA)).size+v15.size<=9223372036854775807) <|gd (Nq<|0<=s8.2/\s8.2<(s8.1.length:Int)) <|gd (M3 .i64<|s8.2+(1:Int)) <|Nn (.inl ((s8.1.set s8.2.toNat<|((J zR<|(J m s8.2).Kind)++(⟨#[32]⟩:BA))++v15),(s8.2+(1:Int)))) else Nn (.inr s8.1)
def iR (m:List ai):Option BA:= Qa (db m) λv1=>bif !v1 then Nn (⟨#[]⟩:BA) else gd (Nq<|0<=(m.length:Int)/\(m.length:Int)<=(m.length:Int)/\(m.length:Int)*((16:Nat):Int)<=140737488355328/\(m.length:Int)<=140737488355328) <|Qa (aV (iX m) ((Qd (m.length:Int).toNat (Nj:BA)),(0:Int))) λs4=>Qa (m7 s4 (⟨#[47]⟩:BA)) λv20=>Nn v20
def jy (v2:(List BA)):LS ((List ai)×Int) ((List ai) ⊕ ((List ai)×Bool)):=λs8=>bif Nq (s8.2<(v2.length:Int)) then gd (Nq<|0<=s8.2/\s8.2<(v2.length:Int)) <|Qa (oK (J v2 s8.2) (⟨#[32]⟩:BA)) λv15=>Qa (aU zR v15.1) λv16=>Qa (ia v15.2.1) λv17=>Qa (bif Nq (v16<(1:Int)) then Nn Nk else Nn (!v17.2)) λs18=>bif s18 then Nn (.inr<|.inr (([]:List ai),Nl)) else gd (dS (s8.1.length+1) 56) <|gd (M3 .i64<|s8.2+(1:Int)) <|Nn (.inl ((s8.1++[(⟨v16,(⟨v17.1.Op,v17.1.Name,v17.1.Kids⟩:ae)⟩:ai)]),(s8.2+(1:Int)))) else Nn (.inr<|.inl s8.1)
def jo (text:BA):Option ((List ai)×Bool):= sumK (Qa (lN text (⟨#[47]⟩:BA)) λv2=>aV (jy v2) (([]:List ai),(0:Int))) λs1=>Qa (iR s1) λv26=>bif (!decide (v26=text)) then Nn (([]:List ai),Nl) else Nn (s1,Nk)
def j5 (name:BA):Option ((List ai)×Bool):= Qa (kx name) λv1=>Qa (jo v1) λv2=>Nn (v2.1,v2.2)
def dQ (x:M6) (loc:Int) (i:Int) (k_:Int):Option Bool:= gd (Nq<|0<=loc/\loc<(x.Order.length:Int)) <|Qa (cV (J x.Order loc) i) λv2=>Qa (cV (J x.Order loc) k_) λv3=>Qa (bif Nq ((0:Int)<=v2) then Nn (Nq<|(0:Int)<=v3) else Nn Nl) λs4=>Qa (bif s4 then Nn (Nq<|v2<v3) else Nn Nl) λs6=>Nn s6
def pO (y:M5):Option Bool:= Nn<|y.Op==(4:Int)
def bi (s:List M5):LS Int (Unit ⊕ Int):=λs4=>bif Nq (s4<(s.length:Int)) then gd (Nq<|0<=s4/\s4<(s.length:Int)) <|Qa (pO<|J s s4) λv8=>bif v8 then Nn (.inr<|.inr s4) else gd (M3 .i64<|s4+(1:Int)) <|Nn (.inl<|s4+(1:Int)) else Nn (.inr<|.inl ())
def aR (s:List M5):Option Int:= sumK (aV (bi s) (0:Int)) λs1=>Nn (-1:Int)
def aC (s:List M5):Option Bool:= Qa (aR s) λv1=>Nn<|Nq<|(0:Int)<=v1
def df (e_:M7) (writes:Bool):Option Bool:= Qa (bif (e_.cu==writes) then Nn (!(e_.Reads==writes)) else Nn Nl) λs1=>Nn s1
def oL (p:List<|List M5) (x:M6) (list:List M7) (name:BA) (i:Int) (k_:Int):Option Bool:= gd (Nq<|0<=i/\i<(list.length:Int)) <|gd (Nq<|0<=k_/\k_<(list.length:Int)) <|Qa (bif Nq ((0:Int)<=((J list i).Thread)) then Nn (((J list i).Thread)==((J list k_).Thread)) else Nn Nl) λs3=>Qa (bif s3 then Nn (Nq<|((J list i).Index)<((J list k_).Index)) else Nn Nl) λs5=>sumK (bif Nq (name=(⟨#[112,111]⟩:BA)) then Nn (.inr s5) else bif Nq (name=(⟨#[108,111,99]⟩:BA)) then Nn (.inr<|((J list i).Loc)==((J list k_).Loc)) else bif Nq (name=(⟨#[101,120,116]⟩:BA)) then Qa (bif (((J list i).Thread) != ((J list k_).Thread)) then Nn Nk else Nn (Nq<|((J list i).Thread)<(0:Int))) λs11=>Nn (.inr s11) else bif Nq (name=(⟨#[114,102]⟩:BA)) then gd (Nq<|0<=k_/\k_<(x.From.length:Int)) <|Nn (.inr<|(J x.From k_)==i) else bif Nq (name=(⟨#[99,111]⟩:BA)) then Qa (dQ x ((J list i).Loc) i k_) λv16=>Nn (.inr v16) else bif Nq (name=(⟨#[102,114]⟩:BA)) then Qa (bif (J list i).Reads then bif (J list k_).cu then bif (i != k_) then gd (Nq<|0<=i/\i<(x.From.length:Int)) <|Qa (dQ x ((J list i).Loc) (J x.From i) k_) λv23=>Nn v23 else Nn Nl else Nn Nl else Nn Nl) λs18=>Nn (.inr s18) else bif Nq (name=(⟨#[102,101,110,99,101]⟩:BA)) then Qa (bif s5 then gd (Nq<|0<=(J list i).Thread/\(J list i).Thread<(p.length:Int)) <|gd (Nq<|0<=(J list i).Index/\(J list i).Index<=(J list k_).Index/\(J list k_).Index<=((J p<|(J list i).Thread).length:Int)) <|Qa (aC<|((J p<|(J list i).Thread).drop ((J list i).Index).toNat).take<|((J list k_).Index).toNat-((J list i).Index).toNat) λv29=>Nn v29 else Nn Nl) λs25=>Nn (.inr s25) else bif Nq (name=(⟨#[119,114]⟩:BA)) then Qa (df (⟨(J list i).Thread,(J list i).Index,(J list i).Loc,(J list i).Reads,(J list i).cu⟩:M7) Nk) λv31=>Qa (bif v31 then Qa (df (⟨(J list k_).Thread,(J list k_).Index,(J list k_).Loc,(J list k_).Reads,(J list k_).cu⟩:M7) Nl) λv34=>Nn v34 else Nn Nl) λs32=>Nn (.inr s32) else bif Nq (name=(⟨#[119,119]⟩:BA)) then Qa (df (⟨(J list i).Thread,(J list i).Index,(J list i).Loc,(J list i).Reads,(J list i).cu⟩:M7) Nk) λv36=>Qa (bif v36 then Qa (df (⟨(J list k_).Thread,(J list k_).Index,(J list k_).Loc,(J list k_).Reads,(J list k_).cu⟩:M7) Nk) λv39=>Nn v39 else Nn Nl) λs37=>Nn (.inr s37) else Nn (.inl ())) λs7=>Nn<|i==k_
def qJ (i:Int) (k_:Int) (a2:List<|List M5) (a3:M6) (a4:List M7) (a5:BA):Option Bool:= Qa (oL a2 a3 a4 a5 i k_) λv1=>Nn v1
def mH (n:Int) (is0:List<|List M5) (is1:M6) (is2:List M7) (is3:BA) (s6:(LI)×Int):LS ((LI)×Int) (LI):=λs14=>bif Nq (s14.2<n) then Qa (Qa (qJ s6.2 s14.2 is0 is1 is2 is3) λv19=>bif v19 then gd (Nq<|0<=s6.2/\s6.2<(s14.1.length:Int)) <|gd (Nq<|0<=s14.2) <|Nn (s14.1.set s6.2.toNat<|bOr .i64 (J s14.1 s6.2)<|Fb .i64 (1:Int) s14.2) else Nn s14.1) λs18=>gd (M3 .i64<|s14.2+(1:Int)) <|Nn (.inl (s18,(s14.2+(1:Int)))) else Nn (.inr s14.1)
def mS (n:Int) (is0:List<|List M5) (is1:M6) (is2:List M7) (is3:BA):LS ((LI)×Int) (LI):=λs6=>bif Nq (s6.2<n) then Qa (aV (mH n is0 is1 is2 is3 s6) (s6.1,(0:Int))) λs10=>gd (M3 .i64<|s6.2+(1:Int)) <|Nn (.inl (s10,(s6.2+(1:Int)))) else Nn (.inr s6.1)
def iS (n:Int) (is0:List<|List M5) (is1:M6) (is2:List M7) (is3:BA):Option (LI):= gd (Nq<|0<=n/\n<=n/\n*((8:Nat):Int)<=140737488355328/\n<=140737488355328) <|Qa (aV (mS n is0 is1 is2 is3) ((Qd n.toNat (Nj:Int)),(0:Int))) λs2=>Nn s2
def gW (p:List<|List M5) (x:M6) (name:BA):Option (LI):= Qa (jm p) λv1=>Qa (iS (v1.length:Int) p x v1 name) λv2=>Nn v2
def mU (x:Int) (a1:LI):Option Bool:= Qa (bif Nq (x<(0:Int)) then Nn Nk else gd (Nq<|0<=(a1.length:Int)) <|Nn<|Nq<|(0:Int)<(kH .i64 x (a1.length:Int))) λs1=>Nn s1
def bS (s:LI) (f0:LI):LS Int (Unit ⊕ Int):=λs4=>bif Nq (s4<(s.length:Int)) then gd (Nq<|0<=s4/\s4<(s.length:Int)) <|Qa (mU (J s s4) f0) λv8=>bif v8 then Nn (.inr<|.inr s4) else gd (M3 .i64<|s4+(1:Int)) <|Nn (.inl<|s4+(1:Int)) else Nn (.inr<|.inl ())
def bz (s:LI) (f0:LI):Option Int:= sumK (aV (bS s f0) (0:Int)) λs1=>Nn (-1:Int)
def bf (s:LI) (f0:LI):Option Bool:= Qa (bz s f0) λv1=>Nn<|Nq<|(0:Int)<=v1
def bZ (r_:LI):Option Bool:= Qa (bif Nq ((r_.length:Int)<=(16:Int)) then Qa (bf r_ r_) λv3=>Nn (!v3) else Nn Nl) λs1=>Nn s1
def fJ (r_:LI) (i:Int) (k_:Int):Option Bool:= gd (Nq<|0<=i/\i<(r_.length:Int)) <|gd (Nq<|0<=k_) <|Nn<|(iC .i64 (kH .i64 (J r_ i) k_) (1:Int))==(1:Int)
def kJ (i:Int) (k_:Int) (a2:LI):Option Bool:= Qa (fJ a2 k_ i) λv1=>Nn v1
def jJ (n:Int) (is0:LI) (s6:(LI)×Int):LS ((LI)×Int) (LI):=λs14=>bif Nq (s14.2<n) then Qa (Qa (kJ s6.2 s14.2 is0) λv19=>bif v19 then gd (Nq<|0<=s6.2/\s6.2<(s14.1.length:Int)) <|gd (Nq<|0<=s14.2) <|Nn (s14.1.set s6.2.toNat<|bOr .i64 (J s14.1 s6.2)<|Fb .i64 (1:Int) s14.2) else Nn s14.1) λs18=>gd (M3 .i64<|s14.2+(1:Int)) <|Nn (.inl (s18,(s14.2+(1:Int)))) else Nn (.inr s14.1)
def j6 (n:Int) (is0:LI):LS ((LI)×Int) (LI):=λs6=>bif Nq (s6.2<n) then Qa (aV (jJ n is0 s6) (s6.1,(0:Int))) λs10=>gd (M3 .i64<|s6.2+(1:Int)) <|Nn (.inl (s10,(s6.2+(1:Int)))) else Nn (.inr s6.1)
def fw (n:Int) (is0:LI):Option (LI):= gd (Nq<|0<=n/\n<=n/\n*((8:Nat):Int)<=140737488355328/\n<=140737488355328) <|Qa (aV (j6 n is0) ((Qd n.toNat (Nj:Int)),(0:Int))) λs2=>Nn s2
def jp (r_:LI):Option (LI):= Qa (bZ r_) λv1=>bif !v1 then Nn ([]:LI) else Qa (fw (r_.length:Int) r_) λv3=>Nn v3
def iY (s16:(LI)×Int):LS ((LI)×Int) (LI):=λs28=>bif Nq (s28.2<(s16.1.length:Int)) then Qa (Qa (fJ s28.1 s28.2 s16.2) λv35=>bif v35 then gd (Nq<|0<=s28.2/\s28.2<(s28.1.length:Int)) <|gd (Nq<|0<=s16.2/\s16.2<(s28.1.length:Int)) <|Nn (s28.1.set s28.2.toNat<|bOr .i64 (J s28.1 s28.2)<|J s28.1 s16.2) else Nn s28.1) λs34=>gd (M3 .i64<|s28.2+(1:Int)) <|Nn (.inl (s34,(s28.2+(1:Int)))) else Nn (.inr s28.1)
def nC (v3:(LI)):LS ((LI)×Int) (LI):=λs16=>bif Nq (s16.2<(v3.length:Int)) then Qa (aV (iY s16) (s16.1,(0:Int))) λs22=>gd (M3 .i64<|s16.2+(1:Int)) <|Nn (.inl (s22,(s16.2+(1:Int)))) else Nn (.inr s16.1)
def gb (r_:LI):Option (LI):= Qa (bZ r_) λv1=>bif !v1 then Nn ([]:LI) else Qa (aJ r_) λv3=>Qa (aV (nC v3) (v3,(0:Int))) λs7=>Nn s7
def dU (a:LI) (b:LI):Option Bool:= Qa (bif ((a.length:Int)==(b.length:Int)) then Qa (bZ a) λv3=>Nn v3 else Nn Nl) λs1=>Qa (bif s1 then Qa (bZ b) λv6=>Nn v6 else Nn Nl) λs4=>Nn s4
def mV (x:Int) (y:Int):Option Int:= Nn<|bOr .i64 x y
def kK (a:LI) (b:LI):LS ((LI)×Int) (LI):=λs8=>bif Nq (s8.2<(a.length:Int)) then gd (Nq<|0<=s8.2/\s8.2<(a.length:Int)) <|gd (Nq<|0<=s8.2/\s8.2<(b.length:Int)) <|Qa (mV (J a s8.2)<|J b s8.2) λv14=>gd (Nq<|0<=s8.2/\s8.2<(s8.1.length:Int)) <|gd (M3 .i64<|s8.2+(1:Int)) <|Nn (.inl ((s8.1.set s8.2.toNat v14),(s8.2+(1:Int)))) else Nn (.inr s8.1)
def fO (a:LI) (b:LI):Option (LI):= Qa (dU a b) λv1=>bif !v1 then Nn ([]:LI) else gd (Nq<|0<=(a.length:Int)/\(a.length:Int)<=(a.length:Int)/\(a.length:Int)*((8:Nat):Int)<=140737488355328/\(a.length:Int)<=140737488355328) <|Qa (aV (kK a b) ((Qd (a.length:Int).toNat (Nj:Int)),(0:Int))) λs4=>Nn s4
def lQ (a:LI) (b:LI):Option (LI):= Qa (fO a b) λv1=>Nn v1
def nT (x:Int) (y:Int):Option Int:= Nn<|iC .i64 x y
def ll (a:LI) (b:LI):LS ((LI)×Int) (LI):=λs8=>bif Nq (s8.2<(a.length:Int)) then gd (Nq<|0<=s8.2/\s8.2<(a.length:Int)) <|gd (Nq<|0<=s8.2/\s8.2<(b.length:Int)) <|Qa (nT (J a s8.2)<|J b s8.2) λv14=>gd (Nq<|0<=s8.2/\s8.2<(s8.1.length:Int)) <|gd (M3 .i64<|s8.2+(1:Int)) <|Nn (.inl ((s8.1.set s8.2.toNat v14),(s8.2+(1:Int)))) else Nn (.inr s8.1)
def gm (a:LI) (b:LI):Option (LI):= Qa (dU a b) λv1=>bif !v1 then Nn ([]:LI) else gd (Nq<|0<=(a.length:Int)/\(a.length:Int)<=(a.length:Int)/\(a.length:Int)*((8:Nat):Int)<=140737488355328/\(a.length:Int)<=140737488355328) <|Qa (aV (ll a b) ((Qd (a.length:Int).toNat (Nj:Int)),(0:Int))) λs4=>Nn s4
def m9 (a:LI) (b:LI):Option (LI):= Qa (gm a b) λv1=>Nn v1
def mW (x:Int) (y:Int):Option Int:= Nn<|AU .i64 x y
def kL (a:LI) (b:LI):LS ((LI)×Int) (LI):=λs8=>bif Nq (s8.2<(a.length:Int)) then gd (Nq<|0<=s8.2/\s8.2<(a.length:Int)) <|gd (Nq<|0<=s8.2/\s8.2<(b.length:Int)) <|Qa (mW (J a s8.2)<|J b s8.2) λv14=>gd (Nq<|0<=s8.2/\s8.2<(s8.1.length:Int)) <|gd (M3 .i64<|s8.2+(1:Int)) <|Nn (.inl ((s8.1.set s8.2.toNat v14),(s8.2+(1:Int)))) else Nn (.inr s8.1)
def fP (a:LI) (b:LI):Option (LI):= Qa (dU a b) λv1=>bif !v1 then Nn ([]:LI) else gd (Nq<|0<=(a.length:Int)/\(a.length:Int)<=(a.length:Int)/\(a.length:Int)*((8:Nat):Int)<=140737488355328/\(a.length:Int)<=140737488355328) <|Qa (aV (kL a b) ((Qd (a.length:Int).toNat (Nj:Int)),(0:Int))) λs4=>Nn s4
def lS (a:LI) (b:LI):Option (LI):= Qa (fP a b) λv1=>Nn v1
def nD (a:LI) (b:LI) (s8:(LI)×Int):LS ((LI)×Int) (LI):=λs16=>bif Nq (s16.2<(b.length:Int)) then Qa (Qa (fJ a s8.2 s16.2) λv21=>bif v21 then gd (Nq<|0<=s8.2/\s8.2<(s16.1.length:Int)) <|gd (Nq<|0<=s16.2/\s16.2<(b.length:Int)) <|Nn (s16.1.set s8.2.toNat<|bOr .i64 (J s16.1 s8.2)<|J b s16.2) else Nn s16.1) λs20=>gd (M3 .i64<|s16.2+(1:Int)) <|Nn (.inl (s20,(s16.2+(1:Int)))) else Nn (.inr s16.1)
def oD (a:LI) (b:LI):LS ((LI)×Int) (LI):=λs8=>bif Nq (s8.2<(a.length:Int)) then Qa (aV (nD a b s8) (s8.1,(0:Int))) λs12=>gd (M3 .i64<|s8.2+(1:Int)) <|Nn (.inl (s12,(s8.2+(1:Int)))) else Nn (.inr s8.1)
def jq (a:LI) (b:LI):Option (LI):= Qa (dU a b) λv1=>bif !v1 then Nn ([]:LI) else gd (Nq<|0<=(a.length:Int)/\(a.length:Int)<=(a.length:Int)/\(a.length:Int)*((8:Nat):Int)<=140737488355328/\(a.length:Int)<=140737488355328) <|Qa (aV (oD a b) ((Qd (a.length:Int).toNat (Nj:Int)),(0:Int))) λs4=>Nn s4
def cF (rcf:(List<|List M5)->M6->ae->Option (LI)) (p:List<|List M5) (x:M6) (e_:ae):Option (LI):= bif (e_.Op==(1:Int)) then Qa (gW p x e_.Name) λv2=>Nn v2 else gd (Nq<|0<=(0:Int)/\(0:Int)<(e_.Kids.length:Int)) <|Qa (rcf p x<|(J e_.Kids (0:Int)).out) λv4=>bif (e_.Op==(6:Int)) then Qa (jp v4) λv6=>Nn v6 else bif (e_.Op==(7:Int)) then Qa (gb v4) λv8=>Nn v8 else gd (Nq<|0<=(1:Int)/\(1:Int)<(e_.Kids.length:Int)) <|Qa (rcf p x<|(J e_.Kids (1:Int)).out) λv10=>bif (e_.Op==(2:Int)) then Qa (lQ v4 v10) λv12=>Nn v12 else bif (e_.Op==(3:Int)) then Qa (m9 v4 v10) λv14=>Nn v14 else bif (e_.Op==(4:Int)) then Qa (lS v4 v10) λv16=>Nn v16 else Qa (jq v4 v10) λv17=>Nn v17
def cG:Nat->(List<|List M5)->M6->ae->Option (LI)
 | 0=>λ_ _ _=>Np
 | n+1=>cF (cG n)
def qK (p:List<|List M5) (x:M6) (e_:ae):Option (LI):=EB λnf=>cG nf p x e_
def lT (r_:LI):LS Int (Unit ⊕ Bool):=λs4=>bif Nq (s4<(r_.length:Int)) then Qa (fJ r_ s4 s4) λv7=>bif v7 then Nn (.inr<|.inr Nl) else gd (M3 .i64<|s4+(1:Int)) <|Nn (.inl<|s4+(1:Int)) else Nn (.inr<|.inl ())
def dR (r_:LI):Option Bool:= sumK (aV (lT r_) (0:Int)) λs1=>Nn Nk
def jr (r_:LI):Option Bool:= Qa (bZ r_) λv1=>Qa (bif v1 then Qa (gb r_) λv4=>Qa (dR v4) λv5=>Nn v5 else Nn Nl) λs2=>Nn s2
def ib (x:Int):Option Int:= gd (Nq<|0<=(1:Int)) <|gd (M3 .u64<|(iC .u64 (kH .u64 x (1:Int)) (6148914691236517205:Int))+(iC .u64 x (6148914691236517205:Int))) <|gd (Nq<|0<=(2:Int)) <|gd (M3 .u64<|(iC .u64 (kH .u64 ((iC .u64 (kH .u64 x (1:Int)) (6148914691236517205:Int))+(iC .u64 x (6148914691236517205:Int))) (2:Int)) (3689348814741910323:Int))+(iC .u64 ((iC .u64 (kH .u64 x (1:Int)) (6148914691236517205:Int))+(iC .u64 x (6148914691236517205:Int))) (3689348814741910323:Int))) <|gd (Nq<|0<=(4:Int)) <|gd (M3 .u64<|(kH .u64 ((iC .u64 (kH .u64 ((iC .u64 (kH .u64 x (1:Int)) (6148914691236517205:Int))+(iC .u64 x (6148914691236517205:Int))) (2:Int)) (3689348814741910323:Int))+(iC .u64 ((iC .u64 (kH .u64 x (1:Int)) (6148914691236517205:Int))+(iC .u64 x (6148914691236517205:Int))) (3689348814741910323:Int))) (4:Int))+((iC .u64 (kH .u64 ((iC .u64 (kH .u64 x (1:Int)) (6148914691236517205:Int))+(iC .u64 x (6148914691236517205:Int))) (2:Int)) (3689348814741910323:Int))+(iC .u64 ((iC .u64 (kH .u64 x (1:Int)) (6148914691236517205:Int))+(iC .u64 x (6148914691236517205:Int))) (3689348814741910323:Int)))) <|Qa (Nn<|(kH .u64 ((iC .u64 (kH .u64 ((iC .u64 (kH .u64 x (1:Int)) (6148914691236517205:Int))+(iC .u64 x (6148914691236517205:Int))) (2:Int)) (3689348814741910323:Int))+(iC .u64 ((iC .u64 (kH .u64 x (1:Int)) (6148914691236517205:Int))+(iC .u64 x (6148914691236517205:Int))) (3689348814741910323:Int))) (4:Int))+((iC .u64 (kH .u64 ((iC .u64 (kH .u64 x (1:Int)) (6148914691236517205:Int))+(iC .u64 x (6148914691236517205:Int))) (2:Int)) (3689348814741910323:Int))+(iC .u64 ((iC .u64 (kH .u64 x (1:Int)) (6148914691236517205:Int))+(iC .u64 x (6148914691236517205:Int))) (3689348814741910323:Int)))) λw7=>gd (Nq<|0<=(8:Int)) <|gd (M3 .u64<|(iC .u64 w7 (1085102592571150095:Int))+(kH .u64 (iC .u64 w7 (1085102592571150095:Int)) (8:Int))) <|gd (Nq<|0<=(16:Int)) <|gd (M3 .u64<|((iC .u64 w7 (1085102592571150095:Int))+(kH .u64 (iC .u64 w7 (1085102592571150095:Int)) (8:Int)))+(kH .u64 ((iC .u64 w7 (1085102592571150095:Int))+(kH .u64 (iC .u64 w7 (1085102592571150095:Int)) (8:Int))) (16:Int))) <|gd (Nq<|0<=(32:Int)) <|gd (M3 .u64<|(((iC .u64 w7 (1085102592571150095:Int))+(kH .u64 (iC .u64 w7 (1085102592571150095:Int)) (8:Int)))+(kH .u64 ((iC .u64 w7 (1085102592571150095:Int))+(kH .u64 (iC .u64 w7 (1085102592571150095:Int)) (8:Int))) (16:Int)))+(kH .u64 (((iC .u64 w7 (1085102592571150095:Int))+(kH .u64 (iC .u64 w7 (1085102592571150095:Int)) (8:Int)))+(kH .u64 ((iC .u64 w7 (1085102592571150095:Int))+(kH .u64 (iC .u64 w7 (1085102592571150095:Int)) (8:Int))) (16:Int))) (32:Int))) <|gd (M3 .i64<|(((iC .u64 w7 (1085102592571150095:Int))+(kH .u64 (iC .u64 w7 (1085102592571150095:Int)) (8:Int)))+(kH .u64 ((iC .u64 w7 (1085102592571150095:Int))+(kH .u64 (iC .u64 w7 (1085102592571150095:Int)) (8:Int))) (16:Int)))+(kH .u64 (((iC .u64 w7 (1085102592571150095:Int))+(kH .u64 (iC .u64 w7 (1085102592571150095:Int)) (8:Int)))+(kH .u64 ((iC .u64 w7 (1085102592571150095:Int))+(kH .u64 (iC .u64 w7 (1085102592571150095:Int)) (8:Int))) (16:Int))) (32:Int))) <|Nn<|iC .i64 ((((iC .u64 w7 (1085102592571150095:Int))+(kH .u64 (iC .u64 w7 (1085102592571150095:Int)) (8:Int)))+(kH .u64 ((iC .u64 w7 (1085102592571150095:Int))+(kH .u64 (iC .u64 w7 (1085102592571150095:Int)) (8:Int))) (16:Int)))+(kH .u64 (((iC .u64 w7 (1085102592571150095:Int))+(kH .u64 (iC .u64 w7 (1085102592571150095:Int)) (8:Int)))+(kH .u64 ((iC .u64 w7 (1085102592571150095:Int))+(kH .u64 (iC .u64 w7 (1085102592571150095:Int)) (8:Int))) (16:Int))) (32:Int))) (127:Int)
def fB (x:Int):Option Int:= Qa (ib x) λv1=>Nn v1
def qw (r_:LI):LS (Int×Int) Int:=λs6=>bif Nq (s6.1<(r_.length:Int)) then gd (Nq<|0<=s6.1/\s6.1<(r_.length:Int)) <|gd (M3 .u64<|J r_ s6.1) <|Qa (fB<|J r_ s6.1) λv11=>gd (M3 .i64<|s6.2+v11) <|gd (M3 .i64<|s6.1+(1:Int)) <|Nn (.inl ((s6.1+(1:Int)),(s6.2+v11))) else Nn (.inr s6.2)
def lV (r_:LI):Option Int:= Qa (bZ r_) λv1=>bif !v1 then Nn (0:Int) else Qa (aV (qw r_) ((0:Int),(0:Int))) λs3=>Nn s3
def kC (kind:Int) (r_:LI):Option Bool:= bif (kind==(1:Int)) then Qa (jr r_) λv2=>Nn v2 else bif (kind==(2:Int)) then Qa (dR r_) λv4=>Nn v4 else Qa (lV r_) λv5=>Nn<|v5==(0:Int)
def oF (p:List<|List M5) (x:M6) (m:List ai):LS Int (Unit ⊕ (Int×(LI))):=λs4=>bif Nq (s4<(m.length:Int)) then gd (Nq<|0<=s4/\s4<(m.length:Int)) <|Qa (qK p x (⟨((J m s4).Expr).Op,((J m s4).Expr).Name,((J m s4).Expr).Kids⟩:ae)) λv8=>Qa (kC ((J m s4).Kind) v8) λv9=>bif !v9 then Nn (.inr<|.inr (s4,v8)) else gd (M3 .i64<|s4+(1:Int)) <|Nn (.inl<|s4+(1:Int)) else Nn (.inr<|.inl ())
def ju (p:List<|List M5) (x:M6) (m:List ai):Option (Int×(LI)):= sumK (aV (oF p x m) (0:Int)) λs1=>Nn ((-1:Int),([]:LI))
def kg (v:aF) (t:Int) (index:Int) (reg:Int):LS (Int×Int) Int:=λs4=>bif Nq (s4.1<(v.events.length:Int)) then Qa (gd (Nq<|0<=s4.1/\s4.1<(v.events.length:Int)) <|Qa (bif (((J v.events s4.1).Thread)==t) then bif Nq (((J v.events s4.1).Index)<index) then bif (J v.events s4.1).Reads then gd (Nq<|0<=t/\t<(v.p.length:Int)) <|gd (Nq<|0<=(J v.events s4.1).Index/\(J v.events s4.1).Index<((J v.p t).length:Int)) <|Nn (((J (J v.p t)<|(J v.events s4.1).Index).Reg)==reg) else Nn Nl else Nn Nl else Nn Nl) λs9=>bif s9 then Nn s4.1 else Nn s4.2) λs7=>gd (M3 .i64<|s4.1+(1:Int)) <|Nn (.inl ((s4.1+(1:Int)),s7)) else Nn (.inr s4.2)
def ez (v:aF) (t:Int) (index:Int) (reg:Int):Option (aF×Int):= Qa (aV (kg v t index reg) ((0:Int),(-1:Int))) λs1=>Nn ((⟨v.p,(⟨v.x.From,v.x.Order⟩:M6),v.events,v.values,v.busy⟩:aF),s1)
def fD (rcf:aF->Int->Option (aF×Int×Bool)) (v:aF) (i:Int):Option (aF×Int×Bool):= gd (Nq<|0<=i/\i<(v.events.length:Int)) <|bif Nq (((J v.events i).Thread)<(0:Int)) then Nn ((⟨v.p,(⟨v.x.From,v.x.Order⟩:M6),v.events,v.values,v.busy⟩:aF),(0:Int),Nk) else gd (Nq<|0<=(J v.events i).Thread/\(J v.events i).Thread<(v.p.length:Int)) <|gd (Nq<|0<=(J v.events i).Index/\(J v.events i).Index<((J v.p<|(J v.events i).Thread).length:Int)) <|bif (((J (J v.p<|(J v.events i).Thread)<|(J v.events i).Index).Op) != (3:Int)) then Nn ((⟨v.p,(⟨v.x.From,v.x.Order⟩:M6),v.events,v.values,v.busy⟩:aF),(J (J v.p<|(J v.events i).Thread)<|(J v.events i).Index).Val,Nk) else gd (Nq<|0<=i/\i<(v.busy.length:Int)) <|bif (J v.busy i) then Nn ((⟨v.p,(⟨v.x.From,v.x.Order⟩:M6),v.events,v.values,v.busy⟩:aF),(0:Int),Nl) else Qa (ez (⟨v.p,(⟨v.x.From,v.x.Order⟩:M6),v.events,v.values,v.busy⟩:aF) ((J v.events i).Thread) ((J v.events i).Index)<|(J (J v.p<|(J v.events i).Thread)<|(J v.events i).Index).Reg) λv8=>bif Nq (v8.2<(0:Int)) then Nn ((⟨v8.1.p,(⟨v8.1.x.From,v8.1.x.Order⟩:M6),v8.1.events,v.values,v8.1.busy⟩:aF),(0:Int),Nk) else gd (Nq<|0<=i/\i<(v8.1.busy.length:Int)) <|gd (Nq<|0<=v8.2/\v8.2<(v8.1.x.From.length:Int)) <|Qa (rcf (⟨v8.1.p,(⟨v8.1.x.From,v8.1.x.Order⟩:M6),v8.1.events,v.values,(v8.1.busy.set i.toNat Nk)⟩:aF)<|J v8.1.x.From v8.2) λv13=>gd (Nq<|0<=i/\i<(v13.1.busy.length:Int)) <|Nn ((⟨v13.1.p,(⟨v13.1.x.From,v13.1.x.Order⟩:M6),v13.1.events,v.values,(v13.1.busy.set i.toNat Nl)⟩:aF),v13.2.1,v13.2.2)
def bI:Nat->aF->Int->Option (aF×Int×Bool)
 | 0=>λ_ _=>Np
 | n+1=>fD (bI n)
def kM (v:aF) (i:Int):Option (aF×Int×Bool):=EB λnf=>bI nf v i
def pQ (v1:(List M7)):LS ((LI)×(List<|List M5)×(LI)×(LL)×(List M7)×(List Bool)×Int) (((LI)×(List<|List M5)×(LI)×(LL)×(List M7)×(List Bool)) ⊕ ((LI)×Bool)):=λs10=>bif Nq (s10.2.2.2.2.2.2<(v1.length:Int)) then gd (Nq<|0<=s10.2.2.2.2.2.2/\s10.2.2.2.2.2.2<(v1.length:Int)) <|sumK (bif (J v1 s10.2.2.2.2.2.2).cu then Qa (kM (⟨s10.2.1,(⟨s10.2.2.1,s10.2.2.2.1⟩:M6),s10.2.2.2.2.1,s10.1,s10.2.2.2.2.2.1⟩:aF) s10.2.2.2.2.2.2) λv20=>bif !v20.2.2 then Nn (.inr<|.inr<|.inr (([]:LI),Nl)) else Nn (.inl (v20.1.p,v20.1.x.From,v20.1.x.Order,v20.1.events,v20.1.busy,v20.2.1)) else Nn (.inl (s10.2.1,s10.2.2.1,s10.2.2.2.1,s10.2.2.2.2.1,s10.2.2.2.2.2.1,(-1:Int)))) λs18=>gd (dS (s10.1.length+1) 8) <|gd (M3 .i64<|s10.2.2.2.2.2.2+(1:Int)) <|Nn (.inl ((s10.1++[s18.2.2.2.2.2]),s18.1,s18.2.1,s18.2.2.1,s18.2.2.2.1,s18.2.2.2.2.1,(s10.2.2.2.2.2.2+(1:Int)))) else Nn (.inr<|.inl (s10.1,s10.2.1,s10.2.2.1,s10.2.2.2.1,s10.2.2.2.2.1,s10.2.2.2.2.2.1))
def lW (p:List<|List M5) (x:M6):Option ((LI)×Bool):= Qa (jm p) λv1=>gd (Nq<|0<=(v1.length:Int)/\(v1.length:Int)<=(v1.length:Int)/\(v1.length:Int)*((1:Nat):Int)<=140737488355328/\(v1.length:Int)<=140737488355328) <|sumK (aV (pQ v1) (([]:LI),p,x.From,x.Order,v1,(Qd (v1.length:Int).toNat (Nj:Bool)),(0:Int))) λs3=>Nn (s3.1,Nk)
def ru:LS (ByteArray×Int) (ByteArray×Int):=λs9=>bif Nq ((9:Int)<s9.2) then gd (Nq<|(10:Int)≠0) <|gd (M3 .i64<|(48:Int)+(s9.2.tmod (10:Int))) <|gd (M3 .u8<|(48:Int)+(s9.2.tmod (10:Int))) <|gd (Nq<|(strOfNums ([((48:Int)+(s9.2.tmod (10:Int)))]:LI)).size+s9.1.size<=9223372036854775807) <|gd (M3 .i64<|s9.2.tdiv (10:Int)) <|Nn (.inl (((strOfNums ([((48:Int)+(s9.2.tmod (10:Int)))]:LI))++s9.1),(s9.2.tdiv (10:Int)))) else Nn (.inr (s9.1,s9.2))
def lY (rcf:Int->Option BA) (n:Int):Option BA:= bif Nq (n<(-9223372036854775807:Int)) then Nn (⟨#[45,57,50,50,51,51,55,50,48,51,54,56,53,52,55,55,53,56,48,56]⟩:BA) else bif Nq (n<(0:Int)) then gd (M3 .i64<|0-n) <|Qa (rcf<|0-n) λv4=>gd (Nq<|(⟨#[45]⟩:BA).size+v4.size<=9223372036854775807) <|Nn ((⟨#[45]⟩:BA)++v4) else Qa (aV ru ((⟨#[]⟩:BA),n)) λs6=>gd (M3 .i64<|(48:Int)+s6.2) <|gd (M3 .u8<|(48:Int)+s6.2) <|gd (Nq<|(strOfNums ([((48:Int)+s6.2)]:LI)).size+s6.1.size<=9223372036854775807) <|Nn<|(strOfNums ([((48:Int)+s6.2)]:LI))++s6.1
def iZ:Nat->Int->Option BA
 | 0=>λ_=>Np
 | n+1=>lY (iZ n)
def oM (n:Int):Option BA:=EB λnf=>iZ nf n
def i9 (from_:Int) (n:Int):Option BA:= gd (M3 .u8 n) <|gd (M3 .u8<|from_+n) <|Nn<|strOfNums ([(from_+n)]:LI)
def oO (x:M5):Option BA:= Qa (i9 (120:Int) x.Loc) λv1=>Qa (i9 (97:Int) x.Reg) λv2=>bif (x.Op==(1:Int)) then gd (Nq<|v2.size+(⟨#[61]⟩:BA).size<=9223372036854775807) <|gd (Nq<|(v2++(⟨#[61]⟩:BA)).size+v1.size<=9223372036854775807) <|Nn ((v2++(⟨#[61]⟩:BA))++v1) else bif (x.Op==(2:Int)) then gd (Nq<|v1.size+(⟨#[61]⟩:BA).size<=9223372036854775807) <|Qa (oM x.Val) λv8=>gd (Nq<|(v1++(⟨#[61]⟩:BA)).size+v8.size<=9223372036854775807) <|Nn ((v1++(⟨#[61]⟩:BA))++v8) else bif (x.Op==(3:Int)) then gd (Nq<|v1.size+(⟨#[61]⟩:BA).size<=9223372036854775807) <|gd (Nq<|(v1++(⟨#[61]⟩:BA)).size+v2.size<=9223372036854775807) <|Nn ((v1++(⟨#[61]⟩:BA))++v2) else bif (x.Op==(5:Int)) then gd (Nq<|v2.size+(⟨#[61]⟩:BA).size<=9223372036854775807) <|gd (Nq<|(v2++(⟨#[61]⟩:BA)).size+v1.size<=9223372036854775807) <|gd (Nq<|((v2++(⟨#[61]⟩:BA))++v1).size+(⟨#[58]⟩:BA).size<=9223372036854775807) <|Qa (oM x.Val) λv17=>gd (Nq<|(((v2++(⟨#[61]⟩:BA))++v1)++(⟨#[58]⟩:BA)).size+v17.size<=9223372036854775807) <|Nn ((((v2++(⟨#[61]⟩:BA))++v1)++(⟨#[58]⟩:BA))++v17) else Nn (⟨#[102,101,110,99,101]⟩:BA)
def gu (k_:Int) (a1:Int):Option Bool:= Nn<|k_==a1
def bT (s:LI) (f0:Int):LS Int (Unit ⊕ Int):=λs4=>bif Nq (s4<(s.length:Int)) then gd (Nq<|0<=s4/\s4<(s.length:Int)) <|Qa (gu (J s s4) f0) λv8=>bif v8 then Nn (.inr<|.inr s4) else gd (M3 .i64<|s4+(1:Int)) <|Nn (.inl<|s4+(1:Int)) else Nn (.inr<|.inl ())
def bA (s:LI) (f0:Int):Option Int:= sumK (aV (bT s f0) (0:Int)) λs1=>Nn (-1:Int)
def bN (zI:Int):LS ((LI)×Int×Int) ((LI)×Int):=λs10=>bif Nq (s10.2.1<(s10.1.length:Int)) then Qa (gd (Nq<|0<=s10.2.1/\s10.2.1<(s10.1.length:Int)) <|Qa (gu (J s10.1 s10.2.1) zI) λv18=>bif !v18 then gd (Nq<|0<=s10.2.2/\s10.2.2<(s10.1.length:Int)) <|gd (M3 .i64<|s10.2.2+(1:Int)) <|Nn ((s10.1.set s10.2.2.toNat<|J s10.1 s10.2.1),(s10.2.2+(1:Int))) else Nn (s10.1,s10.2.2)) λs16=>gd (M3 .i64<|s10.2.1+(1:Int)) <|Nn (.inl (s16.1,(s10.2.1+(1:Int)),s16.2)) else Nn (.inr (s10.1,s10.2.2))
def aT (s:LI) (zI:Int):Option (LI):= Qa (bA s zI) λv1=>bif (v1==(-1:Int)) then Nn s else Qa (gd (M3 .i64<|v1+(1:Int)) <|aV (bN zI) (s,(v1+(1:Int)),v1)) λs3=>gd (Nq<|(0:Int)<=(0:Int)/\(0:Int)<(s3.1.length:Int)) <|gd (Nq<|0<=s3.2/\s3.2<=(s3.1.length:Int)/\(s3.1.length:Int)<=(s3.1.length:Int)) <|gd (Nq<|0<=(0:Int)/\(0:Int)<=s3.2/\s3.2<=(s3.1.length:Int)) <|Nn<|((cpy s3.1 (0+s3.2.toNat) (Qd ((s3.1.length:Int).toNat-s3.2.toNat) (Nj:Int))<|(s3.1.length:Int).toNat-s3.2.toNat).drop (0:Int).toNat).take<|s3.2.toNat-(0:Int).toNat
def ry (writes:LI) (s8:(LL)×Int) (v25:(LL)):LS ((LL)×Int) (LL):=λs31=>bif Nq (s31.2<(v25.length:Int)) then gd (Nq<|0<=s31.2/\s31.2<(v25.length:Int)) <|gd (dS (([(J writes s8.2)]:LI).length+(J v25 s31.2).length) 8) <|gd (dS (s31.1.length+1) 24) <|gd (M3 .i64<|s31.2+(1:Int)) <|Nn (.inl ((s31.1++[(([(J writes s8.2)]:LI)++(J v25 s31.2))]),(s31.2+(1:Int)))) else Nn (.inr s31.1)
def nU (rcf:(LI)->Option (LL)) (writes:LI):((LL)×Int)->Option (((LL)×Int) ⊕ (LL)):=λs8=>bif Nq (s8.2<(writes.length:Int)) then Qa (gd (Nq<|0<=s8.2/\s8.2<(writes.length:Int)) <|Qa (aJ writes) λv16=>gd (M3 .i64<|s8.2+(1:Int)) <|Qa (pJ v16 s8.2<|s8.2+(1:Int)) λv21=>Qa (rcf v21) λv25=>aV (ry writes s8 v25) (s8.1,(0:Int))) λs14=>gd (M3 .i64<|s8.2+(1:Int)) <|Nn (.inl (s14,(s8.2+(1:Int)))) else Nn (.inr s8.1)
def gy (rcf:(LI)->Option (LL)) (writes:LI):Option (LL):= bif ((writes.length:Int)==(0:Int)) then Nn ([([]:LI)]:LL) else Qa (aV (nU rcf writes) (([]:LL),(0:Int))) λs2=>Nn s2
def ja:Nat->(LI)->Option (LL)
 | 0=>λ_=>Np
 | n+1=>gy (ja n)
def rR (writes:LI):Option (LL):=EB λnf=>ja nf writes
def iH (choices:LL) (s4:Int×(LL)) (s15:(LL)×Int):LS ((LL)×Int) (LL):=λs28=>bif Nq (s28.2<((J choices s4.1).length:Int)) then gd (Nq<|0<=s28.2/\s28.2<((J choices s4.1).length:Int)) <|Qa (aJ<|J s4.2 s15.2) λv35=>gd (dS (v35.length+1) 8) <|gd (dS (s28.1.length+1) 24) <|gd (M3 .i64<|s28.2+(1:Int)) <|Nn (.inl ((s28.1++[(v35++[(J (J choices s4.1) s28.2)])]),(s28.2+(1:Int)))) else Nn (.inr s28.1)
def iI (choices:LL) (s4:Int×(LL)):LS ((LL)×Int) (LL):=λs15=>bif Nq (s15.2<(s4.2.length:Int)) then Qa (gd (Nq<|0<=s15.2/\s15.2<(s4.2.length:Int)) <|aV (iH choices s4 s15) (s15.1,(0:Int))) λs21=>gd (M3 .i64<|s15.2+(1:Int)) <|Nn (.inl (s21,(s15.2+(1:Int)))) else Nn (.inr s15.1)
def nE (choices:LL):LS (Int×(LL)) (LL):=λs4=>bif Nq (s4.1<(choices.length:Int)) then Qa (gd (Nq<|0<=s4.1/\s4.1<(choices.length:Int)) <|Qa (aV (iI choices s4) (([]:LL),(0:Int))) λs9=>Nn s9) λs7=>gd (M3 .i64<|s4.1+(1:Int)) <|Nn (.inl ((s4.1+(1:Int)),s7)) else Nn (.inr s4.2)
def iT (choices:LL):Option (LL):= Qa (aV (nE choices) ((0:Int),([([]:LI)]:LL))) λs1=>Nn s1
def lZ (s:LL):Option (LL):= nilK (s.isEmpty) (Nn ([]:LL)) (gd (dS (([]:LL).length+s.length) 24) <|Nn<|([]:LL)++s)
def kN (choices:List<|LL) (s4:Int×(List<|LL)) (s15:(List<|LL)×Int):LS ((List<|LL)×Int) (List<|LL):=λs28=>bif Nq (s28.2<((J choices s4.1).length:Int)) then gd (Nq<|0<=s28.2/\s28.2<((J choices s4.1).length:Int)) <|Qa (lZ<|J s4.2 s15.2) λv35=>gd (dS (v35.length+1) 24) <|gd (dS (s28.1.length+1) 24) <|gd (M3 .i64<|s28.2+(1:Int)) <|Nn (.inl ((s28.1++[(v35++[(J (J choices s4.1) s28.2)])]),(s28.2+(1:Int)))) else Nn (.inr s28.1)
def kO (choices:List<|LL) (s4:Int×(List<|LL)):LS ((List<|LL)×Int) (List<|LL):=λs15=>bif Nq (s15.2<(s4.2.length:Int)) then Qa (gd (Nq<|0<=s15.2/\s15.2<(s4.2.length:Int)) <|aV (kN choices s4 s15) (s15.1,(0:Int))) λs21=>gd (M3 .i64<|s15.2+(1:Int)) <|Nn (.inl (s21,(s15.2+(1:Int)))) else Nn (.inr s15.1)
def qx (choices:List<|LL):LS (Int×(List<|LL)) (List<|LL):=λs4=>bif Nq (s4.1<(choices.length:Int)) then Qa (gd (Nq<|0<=s4.1/\s4.1<(choices.length:Int)) <|Qa (aV (kO choices s4) (([]:List<|LL),(0:Int))) λs9=>Nn s9) λs7=>gd (M3 .i64<|s4.1+(1:Int)) <|Nn (.inl ((s4.1+(1:Int)),s7)) else Nn (.inr s4.2)
def jb (choices:List<|LL):Option (List<|LL):= Qa (aV (qx choices) ((0:Int),([([]:LL)]:List<|LL))) λs1=>Nn s1
def pR (x:M6):LS ((LL)×Int) (LL):=λs7=>bif Nq (s7.2<(x.Order.length:Int)) then gd (Nq<|0<=s7.2/\s7.2<(x.Order.length:Int)) <|Qa (aJ<|J x.Order s7.2) λv12=>gd (Nq<|0<=s7.2/\s7.2<(s7.1.length:Int)) <|gd (M3 .i64<|s7.2+(1:Int)) <|Nn (.inl ((s7.1.set s7.2.toNat v12),(s7.2+(1:Int)))) else Nn (.inr s7.1)
def iA (x:M6):Option M6:= Qa (aJ x.From) λv1=>gd (Nq<|0<=(x.Order.length:Int)/\(x.Order.length:Int)<=(x.Order.length:Int)/\(x.Order.length:Int)*((24:Nat):Int)<=140737488355328/\(x.Order.length:Int)<=140737488355328) <|Qa (aV (pR x) ((Qd (x.Order.length:Int).toNat ([]:LI)),(0:Int))) λs3=>Nn (⟨v1,s3⟩:M6)
def l4 (v1:(List M7)):LS ((LL)×Int) (LL):=λs8=>bif Nq (s8.2<(v1.length:Int)) then gd (Nq<|0<=s8.2/\s8.2<(v1.length:Int)) <|Qa (bif (⟨(J v1 s8.2).Thread,(J v1 s8.2).Index,(J v1 s8.2).Loc,(J v1 s8.2).Reads,(J v1 s8.2).cu⟩:M7).Reads then Qa (fg v1<|(⟨(J v1 s8.2).Thread,(J v1 s8.2).Index,(J v1 s8.2).Loc,(J v1 s8.2).Reads,(J v1 s8.2).cu⟩:M7).Loc) λv17=>Qa (aT v17 s8.2) λv21=>Nn v21 else Nn ([(-1:Int)]:LI)) λs15=>gd (dS (s8.1.length+1) 24) <|gd (M3 .i64<|s8.2+(1:Int)) <|Nn (.inl ((s8.1++[s15]),(s8.2+(1:Int)))) else Nn (.inr s8.1)
def kP (s36:(List<|LL)×Int) (v46:(LL)):LS ((LL)×Int) (LL):=λs52=>bif Nq (s52.2<(v46.length:Int)) then gd (Nq<|0<=s52.2/\s52.2<(v46.length:Int)) <|gd (dS (([s36.2]:LI).length+(J v46 s52.2).length) 8) <|gd (dS (s52.1.length+1) 24) <|gd (M3 .i64<|s52.2+(1:Int)) <|Nn (.inl ((s52.1++[(([s36.2]:LI)++(J v46 s52.2))]),(s52.2+(1:Int)))) else Nn (.inr s52.1)
def kQ (v1:(List M7)):LS ((List<|LL)×Int) (List<|LL):=λs36=>bif Nq (s36.2<(3:Int)) then Qa (Qa (Qa (fg v1 s36.2) λv44=>gd (Nq<|0<=(1:Int)/\(1:Int)<=(v44.length:Int)/\(v44.length:Int)<=(v44.length:Int)) <|Qa (rR<|(v44.drop (1:Int).toNat).take<|(v44.length:Int).toNat-(1:Int).toNat) λv46=>aV (kP s36 v46) (([]:LL),(0:Int))) λs43=>gd (dS (s36.1.length+1) 24) <|Nn<|s36.1++[s43]) λs42=>gd (M3 .i64<|s36.2+(1:Int)) <|Nn (.inl (s42,(s36.2+(1:Int)))) else Nn (.inr s36.1)
def ic (v72:(LL)) (s78:(List M6)×Int) (v86:(List<|LL)):LS ((List M6)×Int) (List M6):=λs92=>bif Nq (s92.2<(v86.length:Int)) then gd (Nq<|0<=s92.2/\s92.2<(v86.length:Int)) <|Qa (iA (⟨(J v72 s78.2),(J v86 s92.2)⟩:M6)) λv99=>gd (dS (s92.1.length+1) 48) <|gd (M3 .i64<|s92.2+(1:Int)) <|Nn (.inl ((s92.1++[v99]),(s92.2+(1:Int)))) else Nn (.inr s92.1)
def ig (s30:(List<|LL)) (v72:(LL)):LS ((List M6)×Int) (List M6):=λs78=>bif Nq (s78.2<(v72.length:Int)) then Qa (gd (Nq<|0<=s78.2/\s78.2<(v72.length:Int)) <|Qa (jb s30) λv86=>aV (ic v72 s78 v86) (s78.1,(0:Int))) λs84=>gd (M3 .i64<|s78.2+(1:Int)) <|Nn (.inl (s84,(s78.2+(1:Int)))) else Nn (.inr s78.1)
def l5 (p:List<|List M5):Option (List M6):= Qa (jm p) λv1=>Qa (aV (l4 v1) (([]:LL),(0:Int))) λs2=>Qa (aV (kQ v1) (([]:List<|LL),(0:Int))) λs30=>Qa (Qa (iT s2) λv72=>aV (ig s30 v72) (([]:List M6),(0:Int))) λs71=>Nn s71
def ng (p:List<|List M5) (x:M6) (m:List ai):Option Bool:= Qa (lW p x) λv1=>bif !v1.2 then Nn Nl else Qa (ju p x m) λv3=>Nn<|Nq<|v3.1<(0:Int)
def dA (x:M6) (a1:List<|List M5) (a2:List ai):Option Bool:= Qa (ng a1 x a2) λv1=>Nn<|!v1
def aY (s:List M6) (f0:List<|List M5) (f1:List ai):LS Int (Unit ⊕ Int):=λs4=>bif Nq (s4<(s.length:Int)) then gd (Nq<|0<=s4/\s4<(s.length:Int)) <|Qa (dA (J s s4) f0 f1) λv8=>bif v8 then Nn (.inr<|.inr s4) else gd (M3 .i64<|s4+(1:Int)) <|Nn (.inl<|s4+(1:Int)) else Nn (.inr<|.inl ())
def aO (s:List M6) (f0:List<|List M5) (f1:List ai):Option Int:= sumK (aV (aY s f0 f1) (0:Int)) λs1=>Nn (-1:Int)
def aX (zI:List<|List M5) (del1:List ai):LS ((List M6)×Int×Int) ((List M6)×Int):=λs10=>bif Nq (s10.2.1<(s10.1.length:Int)) then Qa (gd (Nq<|0<=s10.2.1/\s10.2.1<(s10.1.length:Int)) <|Qa (dA (⟨(J s10.1 s10.2.1).From,(J s10.1 s10.2.1).Order⟩:M6) zI del1) λv18=>bif !v18 then gd (Nq<|0<=s10.2.2/\s10.2.2<(s10.1.length:Int)) <|gd (M3 .i64<|s10.2.2+(1:Int)) <|Nn ((s10.1.set s10.2.2.toNat (⟨(J s10.1 s10.2.1).From,(J s10.1 s10.2.1).Order⟩:M6)),(s10.2.2+(1:Int))) else Nn (s10.1,s10.2.2)) λs16=>gd (M3 .i64<|s10.2.1+(1:Int)) <|Nn (.inl (s16.1,(s10.2.1+(1:Int)),s16.2)) else Nn (.inr (s10.1,s10.2.2))
def aB (s:List M6) (zI:List<|List M5) (del1:List ai):Option (List M6):= Qa (aO s zI del1) λv1=>bif (v1==(-1:Int)) then Nn s else Qa (gd (M3 .i64<|v1+(1:Int)) <|aV (aX zI del1) (s,(v1+(1:Int)),v1)) λs3=>gd (Nq<|(0:Int)<=(0:Int)/\(0:Int)<(s3.1.length:Int)) <|gd (Nq<|0<=s3.2/\s3.2<=(s3.1.length:Int)/\(s3.1.length:Int)<=(s3.1.length:Int)) <|gd (Nq<|0<=(0:Int)/\(0:Int)<=s3.2/\s3.2<=(s3.1.length:Int)) <|Nn<|((cpy s3.1 (0+s3.2.toNat) (Qd ((s3.1.length:Int).toNat-s3.2.toNat) (Nj:M6))<|(s3.1.length:Int).toNat-s3.2.toNat).drop (0:Int).toNat).take<|s3.2.toNat-(0:Int).toNat
def dZ (p:List<|List M5) (m:List ai):Option (List M6):= Qa (da p) λv1=>Qa (bif !v1 then Nn Nk else Qa (db m) λv4=>Nn<|!v4) λs2=>bif s2 then Nn ([]:List M6) else Qa (l5 p) λv6=>Qa (aB v6 p m) λv10=>Nn v10
structure ZSt where
 at_:LI
 regs:LI
 mem:LI
 buf:LL
instance:Inhabited ZSt:=⟨⟨Nj,Nj,Nj,Nj⟩⟩
def M9 {α:Type} (x:Option α) (P:α->Prop):Prop:=∃ v,x=Nn v/\P v
section
variable {α β S E:Type} {P:α->Prop} {Q:β->Prop} {x y:Option α}
theorem M9.pure {v:α} (h:P v):M9 (Nn v) P:=⟨v,rfl,h⟩
theorem M9.mono {P':α->Prop} (h:M9 x P) (k:∀ v,P v->P' v):M9 x P':=by
 obtain ⟨v,e,p⟩:=h;exact ⟨v,e,k v p⟩
theorem M9.bind {o:Option α} {f:α->Option β} (h:M9 o P) (k:∀ v,P v->M9 (f v) Q):M9 (o.bind f) Q:=by
 obtain ⟨v,rfl,p⟩:=h;exact k v p
theorem M9.gd {b:Bool} (hb:b=Nk) (h:M9 x P):M9 (gd b x) P:=by rw [qG hb];exact h
theorem M9.gdD {A:Prop} [Decidable A] (hb:A) (h:M9 x P):M9 (Go.Proofs.YtabfkkjdfhbngaaGreatDoor.gd (decide A) x) P:=M9.gd (decide_eq_true hb) h
theorem M9.gdI {n:Int} (hb : -9223372036854775808<=n/\n<=9223372036854775807) (h:M9 x P):M9 (Go.Proofs.YtabfkkjdfhbngaaGreatDoor.gd (M3 .i64 n) x) P:=M9.gd (IQ hb) h
theorem M9.gdY {n:Int} (hb:0<=n/\n<=255) (h:M9 x P):M9 (Go.Proofs.YtabfkkjdfhbngaaGreatDoor.gd (M3 .u8 n) x) P:=M9.gd (Ky hb) h
theorem H5 {n m:Nat} (hn:n<=1048576) (hm:Nat.ble m 1000=Nk):dS n m=Nk:=by
 have h1:=nlb hm;have h2:n*m<=1048576*1000:=Qm hn h1;exact decide_eq_true ⟨by omega,by omega⟩
theorem M9.gdC {n m:Nat} (hn:n<=1048576) (hm:Nat.ble m 1000=Nk) (h:M9 x P):M9 (Go.Proofs.YtabfkkjdfhbngaaGreatDoor.gd (dS n m) x) P:=M9.gd (H5 hn hm) h
theorem M9.bif {b:Bool} (h1:b=Nk->M9 x P) (h2:b=Nl->M9 y P):M9 (bif b then x else y) P:=by
 cases b with
 | true=>exact h1 rfl
 | false=>exact h2 rfl
theorem M9.bifD {A:Prop} [Decidable A] (h1:A->M9 x P) (h2 : ¬ A->M9 y P):M9 (_root_.cond (decide A) x y) P:=
 M9.bif (λh=>h1<|of_decide_eq_true h) (λh=>h2<|of_decide_eq_false h)
theorem M9.sum {W:Type} {PS:S->Prop} {PW:W->Prop} {a:Option (S ⊕ W)} {f:S->Option W} (h:M9 a λz=>match z with
  | .inl s=>PS s
  | .inr w=>PW w) (k:∀ s,PS s->M9 (f s) PW):M9 (sumK a f) PW:=by
 obtain ⟨v,rfl,p⟩:=h
 match v,p with
 | .inl s,p=>exact k s p
 | .inr w,p=>exact ⟨w,rfl,p⟩
theorem M9.loop {step:S->Option (S ⊕ E)} {R:E->Prop} (J:S->Prop) (mu:S->Nat) {s0:S} (h0:J s0) (h:∀ s,J s->M9 (step s) λz=>match z with
  | .inl s'=>J s'/\mu s'<mu s
  | .inr x=>R x):M9 (aV step s0) R:=by
 have key:∀ (n:Nat) (s:S),mu s=n->J s->M9 (aV step s) R:=by
  intro n
  induction n using Nat.strongRecOn with
  | _ n ih=>
   intro s hs hj;obtain ⟨z,e,hz⟩:=h s hj;rw [yB,e]
   match z,hz with
   | .inl s',hz=>exact ih (mu s') (by omega) s' rfl hz.1
   | .inr x,hz=>exact ⟨x,rfl,hz⟩
 exact key _ s0 rfl h0
theorem M9.eq {v:α} (h:M9 x (· = v)):x=Nn v:=by
 obtain ⟨u,e,rfl⟩:=h;exact e
theorem M9.of {v:α} (h:x=Nn v) (p:P v):M9 x P:=⟨v,h,p⟩
end

structure Mac (σ:Type) where
 mv:σ->LI
 af:σ->Int->σ
 ky:σ->BA
 dn:σ->Bool
 oc:σ->LI
section
variable {σ:Type} (M:Mac σ)
inductive Rea (s0:σ):σ->Prop
 | base:Rea s0 s0
 | step {s:σ} {m:Int} (h:Rea s0 s) (hm:m∈M.mv s):Rea s0 (M.af s m)
variable {M} {s0:σ} {N:Nat}
def Done (M:Mac σ) (V:List σ) (outs:LL) (v:σ):Prop:=(∀ m∈M.mv v,M.af v m∈V)/\(M.dn v=Nk->M.oc v∈outs)
structure Srch (M:Mac σ) (s0:σ) (V stack:List σ) (outs:List (List Int)) (cur:Option (σ×Nat)):Prop where
 rea:∀ v∈V,Rea M s0 v
 base:s0∈V
 nd:V.Nodup
 sub:∀ v∈stack,v∈V
 all:∀ v∈V,v∈stack\/(∃ n,cur=Nn (v,n))\/Done M V outs v
 out:∀ o∈outs,∃ v∈V,M.dn v=Nk/\M.oc v=o
 len:outs.length+stack.length<=V.length
 cur_:∀ s n,cur=Nn (s,n)->s∈V/\(M.dn s=Nk->M.oc s∈outs)/\∀ j,j<n->∀ m,(M.mv s)[j]? = Nn m->M.af s m∈V
theorem Srch.new {V stack:List σ} {s:σ} {outs:LL} {n:Nat} {m:Int} (h:Srch M s0 V stack outs<|Nn (s,n)) (hm:(M.mv s)[n]? = Nn m) (hv:M.af s m∉V):Srch M s0 (V++[M.af s m]) (stack++[M.af s m]) outs (Nn (s,n+1)) where
 rea:=λv hv=>by
  rcases Qp.1 hv with hv | hv
  ·exact h.rea v hv
  rw [Qq.1 hv];exact .step (h.rea s (h.cur_ s n rfl).1)<|List.mem_of_getElem? hm
 base:=Qh _ h.base
 nd:=by
  rw [List.nodup_append];exact ⟨h.nd,by simp,λa ha b hb e=>hv<|by rw [<- Qq.1 hb,<- e];exact ha⟩
 sub:=λv hv=>by
  rcases Qp.1 hv with hv | hv
  ·exact Qh _<|h.sub v hv
  exact Qr _ hv
 all:=λv hv=>by
  rcases Qp.1 hv with hv | hv
  ·rcases h.all v hv with h1 | ⟨k,h1⟩ | ⟨h1,h2⟩
   ·exact .inl<|Qh _ h1
   ·injection h1 with h1;injection h1 with h1 _;subst h1;exact .inr<|.inl ⟨n+1,rfl⟩
   exact .inr<|.inr ⟨λm hm=>Qh _<|h1 m hm,h2⟩
  exact .inl<|Qr _ hv
 out:=λo ho=>by
  obtain ⟨v,g1,g2⟩:=h.out o ho;exact ⟨v,Qh _ g1,g2⟩
 len:=by
  have := h.len;simp only [lla,List.length_singleton];omega
 cur_:=λt k e=>by
  injection e with e;injection e with e1 e2;subst e1 e2;obtain ⟨g1,g2,g3⟩:=h.cur_ s n rfl;refine ⟨Qh _ g1,g2,λj hj m' hm' => ?_⟩;rcases Nat.lt_or_ge j n with h' | h'
  ·exact Qh _<|g3 j h' m' hm'
  obtain rfl:j=n:=by omega
  rw [hm] at hm';obtain rfl:=osl hm';exact Qr _<|Qq.2 rfl
end
theorem H6 {σ:Type} (f:σ->Nat) (m:Nat):∀ (V:List σ),V.Nodup->(∀ v∈V,f v<m)->(∀ u∈V,∀ v∈V,f u=f v->u=v)->V.length<=m:=λV hn hl hi=>by
 have h1:(V.map f).Nodup:=by
  rw [List.nodup_iff_pairwise_ne] at hn ⊢;rw [List.pairwise_map];exact hn.imp_of_mem λ{a b} ha hb hne e=>hne<|hi a ha b hb e
 have := List.Nodup.length_le_of_subset h1 (l₂:=List.range m) λx hx=>by
  obtain ⟨v,hv,rfl⟩:=Qk.1 hx;exact List.mem_range.2<|hl v hv
 simpa using this
def rdX (x:M5):Bool:=x.Op==1||x.Op==5
def wrX (x:M5):Bool:=x.Op==2||x.Op==3||x.Op==5
theorem KE (x:M5):M9 (iO x) (· = rdX x):=by
 unfold iO rdX;exact M9.bind (P:=(· = (x.Op==1||x.Op==5))) (.bif (λh => .pure<|by rw [h];rfl) λh => .pure<|by rw [h];rfl) λv hv => .pure hv
theorem JA (x:M5):M9 (gZ x) (· = wrX x):=by
 unfold gZ wrX;exact M9.bind (P:=(· = (x.Op==2||x.Op==3))) (.bif (λh => .pure<|by rw [h];rfl) λh => .pure<|by rw [h];rfl) λv hv=>M9.bind (P:=(· = (x.Op==2||x.Op==3||x.Op==5))) (.bif (λh => .pure<|by rw [<- hv,h];rfl) λh => .pure<|by rw [<- hv,h];rfl) λv hv => .pure hv
def Vs (p:List<|List M5):Prop:=p.length<=3/\∀ n,(p.getD n Nj).length<=7
theorem Vs.of {p:List (List M5)} (h:cT (p.map λr=>r.map pI)=Nk):Vs p/\∀ t k:Nat,t<p.length->k<(p.getD t Nj).length->lJ (pI<|(p.getD t Nj).getD k Nj)=Nk:=by
 simp only [cT,qq,bae,dte,Qo,rowOk] at h;have hl:p.length<=3:=by simpa using h.1.1.1.1
 have hr:=h.1.1.1.2;refine ⟨⟨hl,λn=>?_⟩,λt k ht hk=>?_⟩
 ·by_cases hn:n<p.length
  ·have e:p.getD n Nj=p[n]:=by simp [hn]
   rw [e];have := (hr (p[n].map pI)<|Qk.2 ⟨p[n],Qi hn,rfl⟩).1;simpa using this
  rw [gdq,gen (by omega)];exact Qc _
 have e:p.getD t Nj=p[t]:=by simp [ht]
 rw [e] at hk ⊢;have h1:=(hr (p[t].map pI)<|Qk.2 ⟨p[t],Qi ht,rfl⟩).2;have e2:p[t].getD k Nj=p[t][k]:=by simp [hk]
 rw [e2];exact h1 _<|Qk.2 ⟨_,Qi hk,rfl⟩
def InR (x:M5):Prop:=0<=x.Loc/\x.Loc<=2/\0<=x.Reg/\x.Reg<=2/\0<=x.Val/\x.Val<=3
theorem Ga {x:M5} (h:lJ (pI x)=Nk):InR x:=by
 obtain ⟨o,l,r,v⟩:=x;unfold InR;simp only;unfold lJ pI at h;simp only [inB] at h
 split at h
 ·simp only [bae,dte,beq_iff_eq] at h;omega
 split at h
 ·simp only [bae,dte,beq_iff_eq] at h;omega
 split at h
 ·simp only [bae,dte,beq_iff_eq] at h;omega
 split at h
 ·simp only [bae,dte] at h;omega
 cases h
structure PV (p:List (List M5)):Prop where
 vs:Vs p
 pos:0<p.length
 ins:∀ t k:Nat,t<p.length->k<(p.getD t Nj).length->InR ((p.getD t Nj).getD k Nj)
theorem PV.of {p:List (List M5)} (h:cT (p.map λr=>r.map pI)=Nk):PV p:=by
 have h1:=Vs.of h;refine ⟨h1.1,?_,λt k ht hk=>Ga<|h1.2 t k ht hk⟩;simp only [cT,bae,dte,llm] at h;exact h.1.2
theorem eC {n m:Nat} (hn:n<=4000000) (hm:Nat.ble m 1000=Nk):dS n m=Nk:=by
 have h1:=nlb hm;have h2:n*m<=4000000*1000:=Qm hn h1;exact decide_eq_true ⟨by omega,by omega⟩
theorem M9.sumR {S W:Type} {a:Option (S ⊕ W)} {f:S->Option W} {w:W} (h:M9 a (· = .inr w)):M9 (sumK a f) (· = w):=by
 obtain ⟨v,rfl,rfl⟩:=h;exact ⟨w,rfl,rfl⟩

end
end Go.Proofs.YtabfkkjdfhbngaaGreatDoor
