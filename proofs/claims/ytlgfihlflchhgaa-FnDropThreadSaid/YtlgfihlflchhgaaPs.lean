/-
 impl.ProgramSame of a program and itself. Plain theorems. No conditions.
-/
import Derived.Test.YtlgfihlflchhgaaHo
import Derived.Test.YtlgfihlflchhgaaSPd
namespace Go.Proofs.Ytlgfihlflchhgaa
open Go.RowKit
set_option maxRecDepth 100000
theorem same_row (s:List ZIn) (h:s.length<=1048576):Ret (F_slices_Equal_impl_Instr_impl_Instr s s) (· = true):=by
 unfold F_slices_Equal_impl_Instr_impl_Instr
 refine .bif (fun h=>by simp at h) fun _=>Ret.sum (PS:=fun _=>True) (PW:=(· = true)) ?_ (fun _ _ => .pure rfl)
 refine Ret.loop (fun i=>0<=i/\i<=(s.length:Int)) (fun i=>((s.length:Int)-i).toNat) ⟨Int.le_refl _,by omega⟩ fun i ⟨h1,h2⟩ => ?_
 unfold F_slices_Equal_impl_Instr_impl_Instr_L6
 refine .bifD (fun h3 => .gdD ⟨h1,h3⟩ (.gdD ⟨h1,h3⟩ (.bif (fun h=>by simp at h) fun _ => .gdI (by omega) (.pure ⟨⟨by omega,by omega⟩,by omega⟩)))) fun _ => .pure trivial
theorem same_ret (p:List (List ZIn)) (h:p.length<=1048576) (hr:∀ r∈p,r.length<=1048576):Ret (F_impl_ProgramSame p p) (· = true):=by
 unfold F_impl_ProgramSame
 refine Ret.bind (P:=(· = true)) ?_ fun v hv => .pure hv
 unfold F_slices_EqualFunc_impl_Instr_impl_Instr_impl_Instr_impl_Instr__impl_ProgramSame_1
 refine .bif (fun h=>by simp at h) fun _=>Ret.sum (PS:=fun _=>True) (PW:=(· = true)) ?_ (fun _ _ => .pure rfl)
 refine Ret.loop (fun i=>0<=i/\i<=(p.length:Int)) (fun i=>((p.length:Int)-i).toNat) ⟨Int.le_refl _,by omega⟩ fun i ⟨h1,h2⟩ => ?_
 unfold F_slices_EqualFunc_impl_Instr_impl_Instr_impl_Instr_impl_Instr__impl_ProgramSame_1_L6
 refine .bifD (fun h3 => .gdD ⟨h1,h3⟩ (.gdD ⟨h1,h3⟩ ?_)) fun _ => .pure trivial
 have hi:i.toNat<p.length:=by omega
 have hm:p.getD i.toNat default∈p:=by
  rw [List.getD_eq_getElem?_getD,List.getElem?_eq_getElem hi]
  exact List.getElem_mem _
 unfold F_impl_ProgramSame_1
 refine Ret.bind (Ret.bind (same_row _ (hr _ hm)) fun v hv => .pure (P:=(· = true)) hv) fun v hv => ?_
 subst hv
 exact .bif (fun h=>by simp at h) fun _ => .gdI (by omega) (.pure ⟨⟨by omega,by omega⟩,by omega⟩)
end Go.Proofs.Ytlgfihlflchhgaa
