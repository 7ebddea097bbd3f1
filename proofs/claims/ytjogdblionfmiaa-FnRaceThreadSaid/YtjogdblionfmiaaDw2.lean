/-
  The drawn texts. Plain theorems. No conditions.
-/
import Derived.Test.YtjogdblionfmiaaDw
namespace Go.Proofs.Ytjogdblionfmiaa
open Go.RowKit
theorem of_ret {k : Int} {r : Xspec_l17Rd} (h : Rd k r) (hk : k ≤ 100000000) (l : List ByteArray) (hl : l ≠ []) : Ret (F_spec_l17Rd_of r l) fun v => Rd (k + 1) v.1 ∧ v.2 ∈ l := by
  have hpos : 0 < l.length := List.length_pos_iff.2 hl
  unfold F_spec_l17Rd_of
  refine (pick_ret h.mk' hk _).bind fun v ⟨h1, h2, h3⟩ => ?_
  refine .gdD ⟨h2, by omega⟩ (.pure ⟨h1, ?_⟩)
  have : v.2.toNat < l.length := by omega
  rw [List.getD_eq_getElem?_getD, List.getElem?_eq_getElem this]
  exact List.getElem_mem _
end Go.Proofs.Ytjogdblionfmiaa
