/-
 PROVED: impl.DropThread computes the function over plain values. No conditions.
-/
import Derived.Test.YtlgfihlflchhgaaBrDid
import Derived.Test.YtlgfihlflchhgaaGO
namespace Go.Proofs.Ytlgfihlflchhgaa
open Go.RowKit
set_option maxRecDepth 100000
theorem F_impl_DropThread_P (p:List (List ZIn)) (t:Int) {q:List (List ZIn)×Bool} (h:F_impl_DropThread p t=some q):PCall Try.prog 6 [eL (cL ZIn.c) p,I t] (.tup [eL (cL ZIn.c) q.1,Bo q.2]):=by
 unfold F_impl_DropThread at h
 obtain ⟨⟨h1,h2⟩,h⟩:=gdD h
 obtain rfl:=Option.some.inj h
 refine pcall_ss (to:=31) (ti:=33) (r:=dropR (toP p) t) (by kernel_rfl) fun w fz vs hl hrel => ?_
 obtain ⟨u,rfl⟩:=args_i hl hrel
 have hs:=slsl_of_frel (f:=Ins.cells) (s:=4) (e:=toIns) (fun _=>rfl) (fun _=>rfl) (hrel 0 _ u rfl rfl)
 exact impl_DropThread_any t hs (Nat.le_refl _) (by rw [total_map];exact h2) (by rw [List.length_map];exact h1)
end Go.Proofs.Ytlgfihlflchhgaa
