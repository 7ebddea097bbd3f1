/-
 spec.l17Dec of one digit. Plain theorems. No conditions.
-/
import Derived.Test.YtlgfihlflchhgaaSRd
import Derived.Test.YtlgfihlflchhgaaFu
import Derived.Test.YtlgfihlflchhgaaHo
namespace Go.Proofs.Ytlgfihlflchhgaa
open Go.RowKit
def C_spec_l17Dec (n:Int):Option ByteArray:=bif decide (0<=n/\n<=9) then some (strOfNums ([((48:Int)+n)]:List Int)++(⟨#[]⟩:ByteArray)) else none
theorem strOfNums_size (l:List Int):(strOfNums l).size=l.length:=by
 simp [strOfNums,ByteArray.size]
theorem C_spec_l17Dec_le (n:Int):Le (C_spec_l17Dec n) (F_spec_l17Dec n):=by
 intro v h
 unfold C_spec_l17Dec at h
 by_cases hn:0<=n/\n<=9
 ·rw [decide_eq_true hn] at h
  obtain rfl:=Option.some.inj h
  refine fixC_of 1 fun k hk => ?_
  match k,hk with
  | k+1,_=>
   show F_spec_l17Dec_B (F_spec_l17Dec_N k) n=_
   refine Ret.eq ?_
   unfold F_spec_l17Dec_B
   refine .bifD (fun h=>by omega) fun _ => .bifD (fun h=>by omega) fun _ => ?_
   refine Ret.bind (P:=(· = ((⟨#[]⟩:ByteArray),n))) ?_ fun s hs => ?_
   ·refine Ret.loop (fun s=>s=((⟨#[]⟩:ByteArray),n)) (fun _=>0) rfl fun s hs => ?_
    subst hs
    unfold F_spec_l17Dec_L10
    exact .bifD (fun h=>by simp only [] at h;omega) fun _ => .pure rfl
   ·subst hs
    refine .gdI (by simp only [];omega) (.gdY (by simp only [];omega) (.gdD ?_ (.pure rfl)))
    rw [strOfNums_size]
    exact Nat.le_of_ble_eq_true rfl
 ·rw [decide_eq_false hn] at h
  cases h
end Go.Proofs.Ytlgfihlflchhgaa
