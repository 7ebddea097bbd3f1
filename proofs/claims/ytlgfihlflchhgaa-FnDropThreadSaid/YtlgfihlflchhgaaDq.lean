/-
 spec.l8Small, and the drawn arguments of the renamings. Plain theorems. No conditions.
-/
import Derived.Test.YtlgfihlflchhgaaDp
namespace Go.Proofs.Ytlgfihlflchhgaa
open Go.RowKit
set_option maxRecDepth 100000
theorem l1Writes_ret (x:ZIn):Ret (F_spec_l1Writes x) fun _=>True:=by
 unfold F_spec_l1Writes
 exact Ret.bind (P:=fun _=>True) (.bif (fun _ => .pure trivial) fun _ => .pure trivial) fun _ _=>Ret.bind (P:=fun _=>True) (.bif (fun _ => .pure trivial) fun _ => .pure trivial) fun _ _ => .pure trivial
theorem l1Reads_ret (x:ZIn):Ret (F_spec_l1Reads x) fun _=>True:=by
 unfold F_spec_l1Reads
 exact Ret.bind (P:=fun _=>True) (.bif (fun _ => .pure trivial) fun _ => .pure trivial) fun _ _ => .pure trivial
theorem Sm.row {p:List (List ZIn)} (h:Sm p) (i:Nat):(p.getD i default).length<=9:=by
 by_cases hi:i<p.length
 ·have : p.getD i default=p[i]:=by simp [hi]
  rw [this]
  exact (h.2 _ (List.getElem_mem hi)).1
 ·rw [List.getD_eq_getElem?_getD,List.getElem?_eq_none (Nat.le_of_not_lt hi)]
  exact Nat.zero_le _
theorem l1Count_ret {p:List (List ZIn)} (hp:Sm p) (loc:Int) (wr:Bool):Ret (F_spec_l1Count p loc wr) fun v=>0<=v/\v<=81:=by
 unfold F_spec_l1Count
 have hpl:=hp.1
 refine Ret.bind (P:=fun v:Int=>0<=v/\v<=81) ?_ fun v hv => .pure hv
 refine Ret.loop (fun s=>0<=s.1/\s.1<=(p.length:Int)/\0<=s.2/\s.2<=9*s.1) (fun s=>((p.length:Int)-s.1).toNat) ⟨Int.le_refl _,by simp only [];omega,Int.le_refl _,Int.le_refl _⟩ fun s ⟨h1,h2,h3,h4⟩ => ?_
 unfold F_spec_l1Count_L5
 refine .bifD (fun h0 => ?_) fun h0 => .pure ⟨h3,by omega⟩
 have hrow:=hp.row s.1.toNat
 refine Ret.bind (P:=fun v:Int=>0<=v/\v<=9*s.1+9) ?_ fun v ⟨g1,g2⟩ => .gdI (by omega) (.pure ⟨⟨by simp only [];omega,by simp only [];omega,g1,by simp only [];omega⟩,by simp only [];omega⟩)
 refine Ret.loop (fun t=>0<=t.1/\t.1<=((p.getD s.1.toNat default).length:Int)/\0<=t.2/\t.2<=9*s.1+t.1) (fun t=>(((p.getD s.1.toNat default).length:Int)-t.1).toNat) ⟨Int.le_refl _,by simp only [];omega,h3,by simp only [];omega⟩ fun t ⟨k1,k2,k3,k4⟩ => ?_
 unfold F_spec_l1Count_L11
 refine .gdD ⟨h1,h0⟩ (.bifD (fun hk => ?_) fun hk => .pure ⟨k3,by omega⟩)
 refine Ret.bind (P:=fun v:Int=>0<=v/\v<=t.2+1) ?_ fun v ⟨g1,g2⟩ => .gdI (by omega) (.pure ⟨⟨by simp only [];omega,by simp only [];omega,g1,by simp only [];omega⟩,by simp only [];omega⟩)
 refine .gdD ⟨k1,hk⟩ (Ret.bind (P:=fun _=>True) ?_ fun b _ => .bif (fun _ => .gdI (by omega) (.pure ⟨by omega,by omega⟩)) fun _ => .pure ⟨k3,by omega⟩)
 refine .bif (fun _ => ?_) fun _ => .pure trivial
 refine Ret.bind (P:=fun _=>True) (.bif (fun _=>(l1Writes_ret _).bind fun _ _ => .pure trivial) fun _ => .pure trivial) fun _ _ => ?_
 refine Ret.bind (P:=fun _=>True) (.bif (fun _ => .pure trivial) fun _ => ?_) fun _ _ => .pure trivial
 exact Ret.bind (P:=fun _=>True) (.bif (fun _=>(l1Reads_ret _).bind fun _ _ => .pure trivial) fun _ => .pure trivial) fun _ _ => .pure trivial
theorem l1Execs_ret {p:List (List ZIn)} (hp:Sm p) {most:Int} (hm:0<=most/\most<=10000):Ret (F_spec_l1Execs p most) fun _=>True:=by
 unfold F_spec_l1Execs
 refine Ret.bind (P:=fun v:Int=>0<=v/\v<=1000000000) ?_ fun v ⟨h1,h2⟩ => .bifD (fun _ => .gdI (by omega) (.pure trivial)) fun _ => .pure trivial
 refine Ret.loop (fun s=>0<=s.1/\s.1<=3/\0<=s.2/\s.2<=1000000000) (fun s=>(3-s.1).toNat) ⟨Int.le_refl _,by decide,by decide,by decide⟩ fun s ⟨h1,h2,h3,h4⟩ => ?_
 unfold F_spec_l1Execs_L5
 refine .bifD (fun h0 => ?_) fun h0 => .pure ⟨h3,h4⟩
 refine Ret.bind (P:=fun v:Int=>0<=v/\v<=1000000000) ?_ fun v ⟨g1,g2⟩ => .gdI (by omega) (.pure ⟨⟨by simp only [];omega,by simp only [];omega,g1,g2⟩,by simp only [];omega⟩)
 refine (l1Count_ret hp _ _).bind fun w ⟨w1,w2⟩=>Ret.bind (P:=fun v:Int=>0<=v/\v<=1000000000) ?_ fun v ⟨g1,g2⟩ => ?_
 ·refine Ret.loop (fun t=>0<=t.1/\t.1<=81/\0<=t.2/\t.2<=1000000000) (fun t=>(81-t.1).toNat) ⟨Int.le_refl _,by simp only [];omega,h3,h4⟩ fun t ⟨k1,k2,k3,k4⟩ => ?_
  unfold F_spec_l1Execs_L13
  refine (l1Count_ret hp _ _).bind fun c ⟨c1,c2⟩=>Ret.bind (P:=fun b=>b=(decide (t.1<c)&&decide (t.2<=most))) (.bifD (fun h => .pure (by simp [h])) fun h => .pure (by simp [h])) fun b hb => .bif (fun ht => ?_) fun _ => .pure ⟨k3,k4⟩
  rw [hb] at ht
  simp only [Bool.and_eq_true,decide_eq_true_eq] at ht
  have e1:0<=t.2*(w+1)/\t.2*(w+1)<=10000*82:=⟨Int.mul_nonneg k3 (by omega),Int.mul_le_mul (by omega) (by omega) (by omega) (by omega)⟩
  exact .gdI (by omega) (.gdI (by omega) (.gdI (by omega) (.pure ⟨⟨by simp only [];omega,by simp only [];omega,e1.1,by simp only [];omega⟩,by simp only [];omega⟩)))
 ·refine Ret.loop (fun t=>2<=t.1/\t.1<=82/\0<=t.2/\t.2<=1000000000) (fun t=>(82-t.1).toNat) ⟨Int.le_refl _,by simp only [];omega,g1,g2⟩ fun t ⟨k1,k2,k3,k4⟩ => ?_
  unfold F_spec_l1Execs_L24
  refine Ret.bind (P:=fun b=>b=(decide (t.1<=w)&&decide (t.2<=most))) (.bifD (fun h => .pure (by simp [h])) fun h => .pure (by simp [h])) fun b hb => .bif (fun ht => ?_) fun _ => .pure ⟨k3,k4⟩
  rw [hb] at ht
  simp only [Bool.and_eq_true,decide_eq_true_eq] at ht
  have e1:0<=t.2*t.1/\t.2*t.1<=10000*82:=⟨Int.mul_nonneg k3 (by omega),Int.mul_le_mul (by omega) (by omega) (by omega) (by omega)⟩
  exact .gdI (by omega) (.gdI (by omega) (.pure ⟨⟨by simp only [];omega,by simp only [];omega,e1.1,by simp only [];omega⟩,by simp only [];omega⟩))
theorem mp_ok:parsedOk (⟨#[120,61,49,59,97,61,121,124,121,61,49,59,97,61,120]⟩:ByteArray)=true:=by decide +kernel
theorem l8Small_ret {k:Int} {r:Xspec_l17Rd} (h:Rd k r) (hk:k<=10000):Ret (F_spec_l8Small r) fun v=>Rd (k+46) v.1/\smP v.2=true:=by
 unfold F_spec_l8Small
 refine (l1Draw_ret h.mk' hk parse_ok).bind fun v ⟨a1,a2⟩=>(l1Execs_ret (smP_Sm a2) (by decide)).bind fun n _ => .bifD (fun _ => .pure ⟨a1.mk',a2⟩) fun _ => ?_
 exact (parsed_ret mp_ok).bind fun u hu => .pure ⟨a1.mk',hu⟩
end Go.Proofs.Ytlgfihlflchhgaa
