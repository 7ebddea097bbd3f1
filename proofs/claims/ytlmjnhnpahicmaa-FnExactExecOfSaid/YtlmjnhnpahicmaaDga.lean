/-
 Conversions and comparisons of the law's own kinds. Plain theorems. No conditions.
-/
import Derived.Test.YtlmjnhnpahicmaaS26d
import Derived.Test.YtlmjnhnpahicmaaHo
namespace Go.Proofs.Ytlmjnhnpahicmaa
open Go.RowKit
set_option maxRecDepth 100000
section
variable {α β W : Type} [Inhabited α]
theorem eqLoop {a b : List α} [DecidableEq α] (hl : a.length = b.length) {bad : W} {step : Int → Option (Int ⊕ (Unit ⊕ W))}
  (hs : ∀ i : Int, 0 ≤ i → i < (a.length : Int) → Ret (step i) (· = if a.getD i.toNat default = b.getD i.toNat default then .inl (i + 1) else .inr (.inr bad)))
  (he : ∀ i : Int, ¬ i < (a.length : Int) → step i = some (.inr (.inl ()))) : Ret (loopO step 0) (· = if a = b then .inl () else .inr bad) := by
 refine Ret.loop (fun i => 0 ≤ i ∧ i ≤ (a.length : Int) ∧ ∀ j : Nat, (j : Int) < i → a[j]? = b[j]?) (fun i => ((a.length : Int) - i).toNat) ⟨Int.le_refl _, by omega, fun i hi => absurd hi (by omega)⟩ fun i ⟨h1, h2, h3⟩ => ?_
 by_cases h : i < (a.length : Int)
 ·refine (hs i h1 h).mono ?_
  have ha : i.toNat < a.length := by omega
  have hb : i.toNat < b.length := by omega
  have ea : a.getD i.toNat default = a[i.toNat] := by rw [List.getD_eq_getElem?_getD, List.getElem?_eq_getElem ha]; rfl
  have eb : b.getD i.toNat default = b[i.toNat] := by rw [List.getD_eq_getElem?_getD, List.getElem?_eq_getElem hb]; rfl
  rintro _ rfl
  by_cases e : a.getD i.toNat default = b.getD i.toNat default
  ·rw [if_pos e]
   refine ⟨⟨by omega, by omega, fun j hj => ?_⟩, by omega⟩
   by_cases ej : j = i.toNat
   ·subst ej
    rw [List.getElem?_eq_getElem ha, List.getElem?_eq_getElem hb, ← ea, ← eb, e]
   ·exact h3 j (by omega)
  ·rw [if_neg e]
   show _ = _
   rw [if_neg]
   rintro rfl
   exact e rfl
 ·rw [he i h]
  refine .pure ?_
  show _ = _
  rw [if_pos]
  refine List.ext_getElem? fun j => ?_
  by_cases hj : (j : Int) < i
  ·exact h3 j hj
  ·rw [List.getElem?_eq_none (by omega), List.getElem?_eq_none (by omega)]
end
instance : DecidableEq ZIn := fun a b => decidable_of_iff (a.Op = b.Op ∧ a.Loc = b.Loc ∧ a.Reg = b.Reg ∧ a.Val = b.Val) ⟨fun ⟨h1, h2, h3, h4⟩ => by cases a; cases b; simp only at h1 h2 h3 h4; subst h1 h2 h3 h4; rfl, fun h => by subst h; exact ⟨rfl, rfl, rfl, rfl⟩⟩
end Go.Proofs.Ytlmjnhnpahicmaa
