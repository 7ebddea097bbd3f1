/-
 FnExactSameTrace's plain function is true at every program and schedules. Plain theorems. No conditions.
-/
import Derived.Test.YtlmjnhnpahicmaaGK
namespace Go.Proofs.Ytlmjnhnpahicmaa
open Go.RowKit
set_option maxRecDepth 100000
theorem sameTrace_ret (p:List (List ZIn)) {a b:List Int} (hsz:p.length<=1048576/\total p<=1048576) (ha:a.length<=1048576) (hb:b.length<=1048576) :
  ∃ r,F_impl_SameTrace p a b=some r/\F_spec_SameTrace p a b=some r:=by
 obtain ⟨c,x1,x2,x3,_⟩:=execOf_ret p hsz ha
 generalize exOf p a c=x at x1 x2 x3
 obtain ⟨d,y1,y2,_,_⟩:=execOf_ret p hsz hb
 generalize exOf p b d=y at y1 y2
 refine ⟨c&&d&&same x y,Ret.eq ?_,Ret.eq ?_⟩
 ·unfold F_impl_SameTrace
  refine (Ret.of (P:=(· = (x,c))) x1 rfl).bind fun v hv=>(Ret.of (P:=(· = (y,d))) y1 rfl).bind fun v' hv' => ?_
  subst hv hv'
  refine Ret.bind (P:=(· = (c&&d))) (.bif (fun h => .pure (by simp only [] at h ⊢;rw [h];rfl)) fun h => .pure (by simp only [] at h;rw [h];rfl)) fun v hv => ?_
  refine Ret.bind (P:=(· = (c&&d&&same x y))) (.bif (fun h => ?_) fun h => .pure (by rw [<- hv,h];rfl)) fun v hv => .pure hv
  exact (isame_ret x3).bind fun w hw => .pure (by rw [<- hv,h,Bool.true_and];exact hw)
 ·unfold F_spec_SameTrace
  refine (Ret.of (P:=(· = (x,c))) x2 rfl).bind fun v hv=>(Ret.of (P:=(· = (y,d))) y2 rfl).bind fun v' hv' => ?_
  subst hv hv'
  refine Ret.bind (P:=(· = (c&&d))) (.bif (fun h => .pure (by simp only [] at h ⊢;rw [h];rfl)) fun h => .pure (by simp only [] at h;rw [h];rfl)) fun v hv => ?_
  refine Ret.bind (P:=(· = (c&&d&&same x y))) (.bif (fun h => ?_) fun h => .pure (by rw [<- hv,h];rfl)) fun v hv => .pure hv
  exact (ssame_ret x3).bind fun w hw => .pure (by rw [<- hv,h,Bool.true_and];exact hw)
end Go.Proofs.Ytlmjnhnpahicmaa
