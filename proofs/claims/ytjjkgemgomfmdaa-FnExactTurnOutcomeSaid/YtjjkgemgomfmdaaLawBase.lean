/-
  Bounds of valid programs, for the laws' last steps. No conditions.
-/
import Derived.Test.YtjjkgemgomfmdaaTurn
import Derived.Test.YtjjkgemgomfmdaaRow
import Derived.OpenShut
namespace Go.Proofs.Ytjjkgemgomfmdaa

theorem vB_small {p : List (List Ins)} (h : validB p = true) : p.length ≤ 3 ∧ ∀ j (hj : j < p.length), p[j].length ≤ 7 := by
  simp only [validB, shapeB, Bool.and_eq_true, decide_eq_true_eq, List.all_eq_true, rowOk] at h
  exact ⟨h.1.1.1.1, fun j hj => (h.1.1.1.2 _ (List.getElem_mem hj)).1⟩
theorem valid_total {p : List (List Ins)} (h : p.length ≤ 3 ∧ ∀ j (hj : j < p.length), p[j].length ≤ 7) : total p ≤ 1000 ∧ p.length ≤ 1000 := by
  obtain ⟨h, h7⟩ := h
  match p, h, h7 with
  | [], _, _ => simp [total]
  | [a], _, h7 => have := h7 0 (by simp); simp [total] at this ⊢; omega
  | [a, b], _, h7 => have := h7 0 (by simp); have := h7 1 (by simp); simp [total] at *; omega
  | [a, b, c], _, h7 => have := h7 0 (by simp); have := h7 1 (by simp); have := h7 2 (by simp); simp [total] at *; omega
end Go.Proofs.Ytjjkgemgomfmdaa
