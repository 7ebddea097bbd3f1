/-
  Contracts of impl.SmallTest and spec.SmallTest at every number. No conditions.
-/
import Derived.Test.YtjjkgemgomfmdaaSmall2
namespace Go.Proofs.Ytjjkgemgomfmdaa
open Go.ChangeShapes Go.WideShapes Go.ChangeAt Go.RowKit
set_option maxRecDepth 100000

theorem within_any (x lo hi : Int) (b : Bool) (hb : (decide (lo ≤ x) && decide (x ≤ hi)) = b) (w : World) :
    Calls Try.prog 50 #[.int .i64 x, .int .i64 lo, .int .i64 hi] w fun e w' => e = .returned (.bool b) ∧ w = w' := by
  subst hb
  by_cases h1 : lo ≤ x
  · by_cases h2 : x ≤ hi
    · go_enter Try.func50, Try.ntmps50
      go_wp2
      all_goals (go_ret; exact ⟨ret_bool (by simp [h1, h2]), rfl⟩)
    · go_enter Try.func50, Try.ntmps50
      go_wp2
      all_goals (go_ret; exact ⟨ret_bool (by simp; omega), rfl⟩)
  · go_enter Try.func50, Try.ntmps50
    go_wp2
    all_goals (go_ret; exact ⟨ret_bool (by simp; omega), rfl⟩)

theorem impl_SmallTests_any (w : World) : Calls Try.prog 16 #[] w fun e w' => e = .returned (.int .i64 1296) ∧ w = w' := by
  go_enter Try.func16, Try.ntmps16
  go_wp2
  go_ret
  exact ⟨rfl, rfl⟩
theorem spec_SmallTests_any (w : World) : Calls Try.prog 15 #[] w fun e w' => e = .returned (.int .i64 1296) ∧ Below w.heap.size w w' := by
  go_enter Try.func15, Try.ntmps15
  go_wp2
  go_ret
  exact ⟨rfl, (Below.refl _ _).alloc (Nat.le_refl _) _⟩

def smallP (n : Nat) : List (List Ins) := [(digs 4 n [] []).1, (digs 4 n [] []).2]
def smallR (n : Int) : List (List Ins) × Bool := if 0 ≤ n ∧ n < 1296 then (smallP n.toNat, true) else ([], false)
theorem smallP_eq (a b c d : Nat) (ha : a < 6) (hb : b < 6) (hc : c < 6) (hd : d < 6) : smallP (216 * a + 36 * b + 6 * c + d) = [[smalls[a], smalls[b]], [smalls[c], smalls[d]]] := by
  have e1 : (216 * a + 36 * b + 6 * c + d) % 6 = d := by omega
  have e2 : (216 * a + 36 * b + 6 * c + d) / 6 = 36 * a + 6 * b + c := by omega
  have e3 : (36 * a + 6 * b + c) % 6 = c := by omega
  have e4 : (36 * a + 6 * b + c) / 6 = 6 * a + b := by omega
  have e5 : (6 * a + b) % 6 = b := by omega
  have e6 : (6 * a + b) / 6 = a := by omega
  have e7 : a % 6 = a := by omega
  simp [smallP, digs, e1, e2, e3, e4, e5, e6, e7]
  exact ⟨⟨rfl, rfl⟩, rfl, rfl⟩
theorem OwOw.nil_ {α : Type} {f : α → List Value} {s : Nat} {to ti : TypeId} {w : World} {lo hi : Nat} (A : Option Addr) (c : Nat) (hc : c ≤ 9223372036854775807) : OwOw f s to ti w lo hi (.slice A 0 c) [] :=
  ⟨[], ⟨A, c, rfl, by simp, hc, fun h => absurd h (by simp)⟩, rfl, fun k h => absurd h (by simp), fun i j h => absurd h (by simp)⟩

theorem impl_SmallTest_any (n : Int) (w : World) :
    Calls Try.prog 18 #[.int .i64 n] w fun e w' => (∃ v, e = .returned (.tuple #[v, .bool (smallR n).2]) ∧ OwOw Ins.cells 4 57 66 w' w.heap.size w'.heap.size v (smallR n).1) ∧ Below w.heap.size w w' := by
  by_cases h : 0 ≤ n ∧ n < 1296
  · have hr : smallR n = (smallP n.toNat, true) := if_pos h
    obtain ⟨h0, h1⟩ := h
    have hp := smallP_eq (n.toNat / 216) (n.toNat / 36 % 6) (n.toNat / 6 % 6) (n.toNat % 6) (by omega) (by omega) (by omega) (by omega)
    rw [show 216 * (n.toNat / 216) + 36 * (n.toNat / 36 % 6) + 6 * (n.toNat / 6 % 6) + n.toNat % 6 = n.toNat from by omega] at hp
    have HR := Lib.hid hr; clear hr
    have HP := Lib.hid hp; clear hp
    go_enter Try.func18, Try.ntmps18
    go_wp2_with (first
      | (go_at_call 16; refine (impl_SmallTests_any _).mono ?_; rintro e w1 ⟨rfl, rfl⟩)
      | (go_at_call 50; refine (within_any _ _ _ true (by simp; omega) _).mono ?_; rintro e w1 ⟨rfl, rfl⟩)
      | (go_at_call 51; refine (smallTest_any (n.toNat / 216) (n.toNat / 36 % 6) (n.toNat / 6 % 6) (n.toNat % 6) (by omega) (by omega) (by omega) (by omega) n (by omega) _).mono ?_; rintro e w1 ⟨v, rfl, ho, hb⟩))
    go_ret2
    refine ⟨⟨v, by rw [HR.out]; rfl, ?_⟩, hb⟩
    rw [HR.out]
    show OwOw _ _ _ _ _ _ _ _ (smallP n.toNat)
    rw [HP.out]
    exact ho
  · have hr : smallR n = ([], false) := if_neg h
    have HR := Lib.hid hr; clear hr
    have h' : n < 0 ∨ 1295 < n := by omega
    clear h
    have HH := Lib.hid h'; clear h'
    go_enter Try.func18, Try.ntmps18
    go_wp2_with (first
      | (go_at_call 16; refine (impl_SmallTests_any _).mono ?_; rintro e w1 ⟨rfl, rfl⟩)
      | (go_at_call 50; refine (within_any _ _ _ false (by have := HH.out; simp; omega) _).mono ?_; rintro e w1 ⟨rfl, rfl⟩))
    go_ret2
    refine ⟨⟨_, by rw [HR.out]; rfl, ?_⟩, Below.refl _ _⟩
    rw [HR.out]
    exact OwOw.nil_ _ _ (by omega)

theorem spec_SmallTest_any (n : Int) (w : World) :
    Calls Try.prog 17 #[.int .i64 n] w fun e w' => (∃ v, e = .returned (.tuple #[v, .bool (smallR n).2]) ∧ OwOw Ins.cells 4 57 66 w' w.heap.size w'.heap.size v (smallR n).1) ∧ Below w.heap.size w w' := by
  by_cases h : 0 ≤ n ∧ n < 1296
  · have hr : smallR n = (smallP n.toNat, true) := if_pos h
    obtain ⟨h0, h1⟩ := h
    have HR := Lib.hid hr; clear hr
    obtain ⟨m, rfl⟩ := Int.eq_ofNat_of_zero_le h0
    have h2 : ¬ (m : Int) < 0 := by omega
    go_enter Try.func17, Try.ntmps17
    go_wp2_with (first
      | (go_at_call 15; refine (spec_SmallTests_any _).mono ?_; rintro e w1 ⟨rfl, hb1⟩)
      | (go_at_call 49; refine (l14Test_any m (by omega) _).mono ?_; rintro e w2 ⟨v, rfl, ho, hb⟩))
    go_ret2
    refine ⟨⟨v, by rw [HR.out]; rfl, ?_⟩, hb1.trans (hb.mono hb1.size)⟩
    rw [HR.out]
    exact ho.mono hb1.size (Nat.le_refl _)
  · have hr : smallR n = ([], false) := if_neg h
    have HR := Lib.hid hr; clear hr
    by_cases h0 : n < 0
    · clear h
      go_enter Try.func17, Try.ntmps17
      go_wp2_with fail
      go_ret2
      refine ⟨⟨_, by rw [HR.out]; rfl, ?_⟩, (Below.refl _ _).alloc (Nat.le_refl _) _⟩
      rw [HR.out]
      exact OwOw.nil_ _ _ (by omega)
    · have h1 : 1296 ≤ n := by omega
      clear h
      go_enter Try.func17, Try.ntmps17
      go_wp2_with (first
        | (go_at_call 15; refine (spec_SmallTests_any _).mono ?_; rintro e w1 ⟨rfl, hb1⟩))
      go_ret2
      refine ⟨⟨_, by rw [HR.out]; rfl, ?_⟩, hb1.alloc hb1.size _⟩
      rw [HR.out]
      exact OwOw.nil_ _ _ (by omega)
end Go.Proofs.Ytjjkgemgomfmdaa
