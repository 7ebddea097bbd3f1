/-
  PROVED: FnSmallTest: for every code the law returns true, and memory that was there is as it was. No conditions.
-/
import Derived.Test.YtjjkgemgomfmdaaS41
import Derived.Test.YtjjkgemgomfmdaaS4c
import Derived.Test.YtjjkgemgomfmdaaD4
import Derived.Test.YtjjkgemgomfmdaaBr

namespace Go.Proofs.Ytjjkgemgomfmdaa
open Go.ChangeShapes Go.WideShapes Go.ChangeAt Go.RowKit
set_option maxRecDepth 100000

theorem drawn {b : List Int} (hb : Bts b) : ∃ v, F_spec_DrawSmallTest b = some v ∧ -1 ≤ v ∧ v ≤ 1296 := by
  obtain ⟨b', e1, hb'⟩ := open_ok hb
  obtain ⟨v1, e2, h1, h2⟩ := pick_ok hb' (p := 0) (by omega) 10
  unfold F_spec_DrawSmallTest
  by_cases h0 : v1 = 0
  · obtain ⟨v2, e3, h3⟩ := num_ok hb' (p := 0 + 1) (by omega) [(-1 : Int), 1296, 1295, 0] (by simp)
    refine ⟨v2, bind_eq e1 (bind_eq e2 (bif_t (beq_iff_eq.2 h0) (bind_eq e3 rfl))), ?_⟩
    simp only [List.mem_cons, List.not_mem_nil, or_false] at h3
    omega
  · obtain ⟨v2, e3, h3, h4⟩ := pick_ok hb' (p := 0 + 1) (by omega) 36
    obtain ⟨v3, e4, h5, h6⟩ := pick_ok hb' (p := 0 + 1 + 1) (by omega) 36
    refine ⟨v2 * 36 + v3, bind_eq e1 (bind_eq e2 (bif_f (beq_eq_false_iff_ne.2 h0) (bind_eq e3 (gdI_eq ?_ (bind_eq e4 (gdI_eq ?_ rfl)))))), ?_⟩ <;> (try simp only []) <;> omega
theorem all_tests : ((List.range 1298).all fun k => C_laws_FnSmallTest_T ((k : Int) - 1) == some true) = true := by decide +kernel
theorem law_ok {b : List Int} (hb : Bts b) : F_laws_FnSmallTest b = some true := by
  obtain ⟨v, e, h1, h2⟩ := drawn hb
  have ht : F_laws_FnSmallTest_T v = some true := by
    have h := List.all_eq_true.1 all_tests (v + 1).toNat (by rw [List.mem_range]; omega)
    rw [show (((v + 1).toNat : Nat) : Int) - 1 = v by omega] at h
    exact C_laws_FnSmallTest_T_le v _ (beq_iff_eq.1 h)
  unfold F_laws_FnSmallTest
  have := hb.1
  exact bif_f (decide_eq_false (by omega)) (bind_eq e ht)
end Go.Proofs.Ytjjkgemgomfmdaa
