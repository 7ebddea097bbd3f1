/-
  PROVED: impl.TurnThreads computes the function over plain values. No conditions.
-/
import Derived.Test.YtjogdblionfmiaaBrTid
import Derived.Test.YtjogdblionfmiaaTurn
namespace Go.Proofs.Ytjogdblionfmiaa
open Go.RowKit
set_option maxRecDepth 100000
theorem F_impl_TurnThreads_P (p : List (List Ximpl_Instr)) (i k : Int) {q : List (List Ximpl_Instr) × Bool} (h : F_impl_TurnThreads p i k = some q) : PCall Try.prog 29 [eL (cL Ximpl_Instr.c) p, I i, I k] (.tup [eL (cL Ximpl_Instr.c) q.1, Bo q.2]) := by
  unfold F_impl_TurnThreads at h
  obtain ⟨⟨h1, h2⟩, h⟩ := gdD h
  obtain rfl := Option.some.inj h
  refine pcall_ss (to := 78) (ti := 81) (r := turnR (toP p) i k) (by kernel_rfl) fun w fz vs hl hrel => ?_
  obtain ⟨u, rfl⟩ := args_ii hl hrel
  have hs := slsl_of_frel (f := Ins.cells) (s := 4) (e := toIns) (fun _ => rfl) (fun _ => rfl) (hrel 0 _ u rfl rfl)
  exact impl_TurnThreads_any i k hs (Nat.le_refl _) (by rw [total_map]; exact h2) (by rw [List.length_map]; exact h1)
end Go.Proofs.Ytjogdblionfmiaa
