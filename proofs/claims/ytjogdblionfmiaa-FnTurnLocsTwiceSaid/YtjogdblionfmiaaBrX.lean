/-
  PROVED: impl.execs computes the function over plain values. No conditions.
-/
import Derived.Test.YtjogdblionfmiaaBrXd
import Derived.Test.YtjogdblionfmiaaBrV
namespace Go.Proofs.Ytjogdblionfmiaa
open Go.RowKit
set_option maxRecDepth 100000
theorem F_impl_execs_P (p : List (List Ximpl_Instr)) {q : Int} (h : F_impl_execs p = some q) : PCall Try.prog 80 [eL (cL Ximpl_Instr.c) p] (I q) := by
  unfold F_impl_execs at h
  obtain ⟨⟨h1, h2⟩, h⟩ := gdD h
  obtain rfl := Option.some.inj h
  refine ⟨by kernel_rfl, fun w fz vs hlt hl hrel => ?_⟩
  obtain ⟨u, rfl⟩ := args1' hl
  have hs := slsl_of_frel (f := Ins.cells) (s := 4) (e := toIns) (fun _ => rfl) (fun _ => rfl) (hrel 0 _ u rfl rfl)
  refine (execs_any hs (by rw [total_map]; exact h2)).mono fun e w' ⟨he, hb⟩ => ?_
  exact ⟨_, fz, he, hb, .v rfl, fun g hg => hg, fun g hg => .inl hg, fun g hg => Nat.lt_of_lt_of_le (hlt g hg) hb.size⟩
end Go.Proofs.Ytjogdblionfmiaa
