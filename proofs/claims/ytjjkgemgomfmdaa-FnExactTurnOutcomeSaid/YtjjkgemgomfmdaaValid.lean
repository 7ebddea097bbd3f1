/-
  Contracts of impl.InstrValid, spec.InstrValid and what they call. No conditions.
-/
import Derived.Test.YtjjkgemgomfmdaaSmall3
import Derived.Outline
import Derived.Deep.RegionWith
import Derived.RegionTactic
import Derived.ChangeAlike
namespace Go.Proofs.Ytjjkgemgomfmdaa
open Go.ChangeShapes Go.WideShapes Go.ChangeAt Go.RowKit
set_option maxRecDepth 100000

theorem l1In_any (x hi : Int) (b : Bool) (hb : (decide (0 ≤ x) && decide (x ≤ hi)) = b) (w : World) :
    Calls Try.prog 69 #[.int .i64 x, .int .i64 hi] w fun e w' => e = .returned (.bool b) ∧ w = w' := by
  subst hb
  by_cases h1 : 0 ≤ x
  · by_cases h2 : x ≤ hi
    · go_enter Try.func69, Try.ntmps69
      go_wp2
      all_goals (go_ret; exact ⟨ret_bool (by simp [h1, h2]), rfl⟩)
    · go_enter Try.func69, Try.ntmps69
      go_wp2
      all_goals (go_ret; exact ⟨ret_bool (by simp; omega), rfl⟩)
  · go_enter Try.func69, Try.ntmps69
    go_wp2
    all_goals (go_ret; exact ⟨ret_bool (by simp; omega), rfl⟩)

def inB (x hi : Int) : Bool := decide (0 ≤ x) && decide (x ≤ hi)
def insOk (x : Ins) : Bool :=
  if x.op = 1 ∨ x.op = 3 then inB x.loc 2 && inB x.reg 2 && x.val == 0
  else if x.op = 2 then inB x.loc 2 && x.reg == 0 && inB x.val 3
  else if x.op = 4 then x.loc == 0 && x.reg == 0 && x.val == 0
  else if x.op = 5 then inB x.loc 2 && inB x.reg 2 && inB x.val 3
  else false

theorem beq_int (a b : Int) : (a == b) = decide (a = b) := rfl
theorem spec_InstrValid_any (x : Ins) (w : World) :
    Calls Try.prog 105 #[x.v] w fun e w' => e = .returned (.bool (insOk x)) ∧ Below w.heap.size w w' := by
  obtain ⟨op, a, b, c⟩ := x
  have hop : (op = 1 ∨ op = 3) ∨ op = 2 ∨ op = 4 ∨ op = 5 ∨ ((op == 1) = false ∧ (op == 3) = false ∧ (op == 2) = false ∧ (op == 4) = false ∧ (op == 5) = false) := by
    simp only [beq_eq_false_iff_ne, ne_eq]
    omega
  unfold Ins.v
  rcases hop with hop | rfl | rfl | rfl | ⟨h1, h2, h3, h4, h5⟩
  · have hr : insOk ⟨op, a, b, c⟩ = (inB a 2 && inB b 2 && c == 0) := by unfold insOk; rw [if_pos hop]
    generalize ha : inB a 2 = pa at *
    generalize hb : inB b 2 = pb at *
    have HR := Lib.hid hr; clear hr
    have HA := Lib.hid ha; clear ha
    have HB := Lib.hid hb; clear hb
    rcases hop with rfl | rfl
    all_goals
      go_enter Try.func105, Try.ntmps105
      go_wp2_with (first
        | (go_at_call_of 69 (Value.int .i64 a); refine (l1In_any a 2 _ HA.out _).mono ?_; rintro e w1 ⟨rfl, rfl⟩)
        | (go_at_call_of 69 (Value.int .i64 b); refine (l1In_any b 2 _ HB.out _).mono ?_; rintro e w1 ⟨rfl, rfl⟩))
      all_goals (go_ret; exact ⟨ret_bool (by rw [HR.out]; simp_all), (Below.refl _ _).alloc (Nat.le_refl _) _⟩)
  · have hr : insOk ⟨2, a, b, c⟩ = (inB a 2 && b == 0 && inB c 3) := rfl
    generalize ha : inB a 2 = pa at *
    generalize hc : inB c 3 = pc at *
    have HR := Lib.hid hr; clear hr
    have HA := Lib.hid ha; clear ha
    have HC := Lib.hid hc; clear hc
    go_enter Try.func105, Try.ntmps105
    go_wp2_with (first
      | (go_at_call_of 69 (Value.int .i64 a); refine (l1In_any a 2 _ HA.out _).mono ?_; rintro e w1 ⟨rfl, rfl⟩)
      | (go_at_call_of 69 (Value.int .i64 c); refine (l1In_any c 3 _ HC.out _).mono ?_; rintro e w1 ⟨rfl, rfl⟩))
    all_goals (go_ret; exact ⟨ret_bool (by rw [HR.out]; simp_all), (Below.refl _ _).alloc (Nat.le_refl _) _⟩)
  · have hr : insOk ⟨4, a, b, c⟩ = (a == 0 && b == 0 && c == 0) := rfl
    have HR := Lib.hid hr; clear hr
    go_enter Try.func105, Try.ntmps105
    go_wp2_with fail
    all_goals (go_ret; exact ⟨ret_bool (by rw [HR.out]; simp_all), (Below.refl _ _).alloc (Nat.le_refl _) _⟩)
  · have hr : insOk ⟨5, a, b, c⟩ = (inB a 2 && inB b 2 && inB c 3) := rfl
    generalize ha : inB a 2 = pa at *
    generalize hb : inB b 2 = pb at *
    generalize hc : inB c 3 = pc at *
    have HR := Lib.hid hr; clear hr
    have HA := Lib.hid ha; clear ha
    have HB := Lib.hid hb; clear hb
    have HC := Lib.hid hc; clear hc
    go_enter Try.func105, Try.ntmps105
    go_wp2_with (first
      | (go_at_call_of 69 (Value.int .i64 a); refine (l1In_any a 2 _ HA.out _).mono ?_; rintro e w1 ⟨rfl, rfl⟩)
      | (go_at_call_of 69 (Value.int .i64 b); refine (l1In_any b 2 _ HB.out _).mono ?_; rintro e w1 ⟨rfl, rfl⟩)
      | (go_at_call_of 69 (Value.int .i64 c); refine (l1In_any c 3 _ HC.out _).mono ?_; rintro e w1 ⟨rfl, rfl⟩))
    all_goals (go_ret; exact ⟨ret_bool (by rw [HR.out]; simp_all), (Below.refl _ _).alloc (Nat.le_refl _) _⟩)
  · have hr : insOk ⟨op, a, b, c⟩ = false := by
      simp only [beq_eq_false_iff_ne, ne_eq] at h1 h2 h3 h4 h5
      simp [insOk, h1, h2, h3, h4, h5]
    have HR := Lib.hid hr; clear hr
    go_enter Try.func105, Try.ntmps105
    go_wp2_with fail
    all_goals (go_ret; exact ⟨ret_bool (by rw [HR.out]), (Below.refl _ _).alloc (Nat.le_refl _) _⟩)

theorem impl_InstrValid_any (x : Ins) (w : World) :
    Calls Try.prog 66 #[x.v] w fun e w' => e = .returned (.bool (insOk x)) ∧ Below w.heap.size w w' := by
  obtain ⟨op, a, b, c⟩ := x
  have hop : (op = 1 ∨ op = 3) ∨ op = 2 ∨ op = 4 ∨ op = 5 ∨ ((op == 1) = false ∧ (op == 3) = false ∧ (op == 2) = false ∧ (op == 4) = false ∧ (op == 5) = false) := by
    simp only [beq_eq_false_iff_ne, ne_eq]
    omega
  unfold Ins.v
  rcases hop with hop | rfl | rfl | rfl | ⟨h1, h2, h3, h4, h5⟩
  · have hr : insOk ⟨op, a, b, c⟩ = (inB a 2 && inB b 2 && c == 0) := by unfold insOk; rw [if_pos hop]
    generalize ha : inB a 2 = pa at *
    generalize hb : inB b 2 = pb at *
    have HR := Lib.hid hr; clear hr
    have HA := Lib.hid ha; clear ha
    have HB := Lib.hid hb; clear hb
    rcases hop with rfl | rfl
    all_goals
      go_enter Try.func66, Try.ntmps66
      go_wp2_with fail
      go_region
      go_wp2_with (first
        | (go_at_call_of 50 (Value.int .i64 a); refine (within_any a 0 2 _ HA.out _).mono ?_; rintro e w1 ⟨rfl, rfl⟩)
        | (go_at_call_of 50 (Value.int .i64 b); refine (within_any b 0 2 _ HB.out _).mono ?_; rintro e w1 ⟨rfl, rfl⟩)
        | (go_at_call 50; refine (within_any _ _ _ true (by decide) _).mono ?_; rintro e w1 ⟨rfl, rfl⟩))
      all_goals (first | (go_ret; exact ⟨ret_bool (by rw [HR.out]; simp_all), (((Below.refl _ _).alloc (Nat.le_refl _) _).alloc (by simp) _).drew⟩) | (go_ret; exact ⟨ret_bool (by rw [HR.out]; simp_all), (((Below.refl _ _).alloc (Nat.le_refl _) _).alloc (by simp) _)⟩))
  · have hr : insOk ⟨2, a, b, c⟩ = (inB a 2 && b == 0 && inB c 3) := rfl
    generalize ha : inB a 2 = pa at *
    generalize hc : inB c 3 = pc at *
    have HR := Lib.hid hr; clear hr
    have HA := Lib.hid ha; clear ha
    have HC := Lib.hid hc; clear hc
    go_enter Try.func66, Try.ntmps66
    go_wp2_with fail
    go_region
    go_wp2_with (first
      | (go_at_call_of 50 (Value.int .i64 a); refine (within_any a 0 2 _ HA.out _).mono ?_; rintro e w1 ⟨rfl, rfl⟩)
      | (go_at_call_of 50 (Value.int .i64 c); refine (within_any c 0 3 _ HC.out _).mono ?_; rintro e w1 ⟨rfl, rfl⟩)
      | (go_at_call 50; refine (within_any _ _ _ true (by decide) _).mono ?_; rintro e w1 ⟨rfl, rfl⟩))
    all_goals (first | (go_ret; exact ⟨ret_bool (by rw [HR.out]; simp_all), (((Below.refl _ _).alloc (Nat.le_refl _) _).alloc (by simp) _).drew⟩) | (go_ret; exact ⟨ret_bool (by rw [HR.out]; simp_all), (((Below.refl _ _).alloc (Nat.le_refl _) _).alloc (by simp) _)⟩))
  · have hr : insOk ⟨4, a, b, c⟩ = (a == 0 && b == 0 && c == 0) := rfl
    have HR := Lib.hid hr; clear hr
    go_enter Try.func66, Try.ntmps66
    go_wp2_with (first
      | (go_at_call 50; refine (within_any _ _ _ true (by decide) _).mono ?_; rintro e w1 ⟨rfl, rfl⟩))
    all_goals (first | (go_ret; exact ⟨ret_bool (by rw [HR.out]; simp_all), (((Below.refl _ _).alloc (Nat.le_refl _) _).alloc (by simp) _).drew⟩) | (go_ret; exact ⟨ret_bool (by rw [HR.out]; simp_all), (((Below.refl _ _).alloc (Nat.le_refl _) _).alloc (by simp) _)⟩))
  · have hr : insOk ⟨5, a, b, c⟩ = (inB a 2 && inB b 2 && inB c 3) := rfl
    generalize ha : inB a 2 = pa at *
    generalize hb : inB b 2 = pb at *
    generalize hc : inB c 3 = pc at *
    have HR := Lib.hid hr; clear hr
    have HA := Lib.hid ha; clear ha
    have HB := Lib.hid hb; clear hb
    have HC := Lib.hid hc; clear hc
    go_enter Try.func66, Try.ntmps66
    go_wp2_with (first
      | (go_at_call_of 50 (Value.int .i64 a); refine (within_any a 0 2 _ HA.out _).mono ?_; rintro e w1 ⟨rfl, rfl⟩)
      | (go_at_call_of 50 (Value.int .i64 b); refine (within_any b 0 2 _ HB.out _).mono ?_; rintro e w1 ⟨rfl, rfl⟩)
      | (go_at_call_of 50 (Value.int .i64 c); refine (within_any c 0 3 _ HC.out _).mono ?_; rintro e w1 ⟨rfl, rfl⟩))
    all_goals (first | (go_ret; exact ⟨ret_bool (by rw [HR.out]; simp_all), (((Below.refl _ _).alloc (Nat.le_refl _) _).alloc (by simp) _).drew⟩) | (go_ret; exact ⟨ret_bool (by rw [HR.out]; simp_all), (((Below.refl _ _).alloc (Nat.le_refl _) _).alloc (by simp) _)⟩))
  · have hr : insOk ⟨op, a, b, c⟩ = false := by
      simp only [beq_eq_false_iff_ne, ne_eq] at h1 h2 h3 h4 h5
      simp [insOk, h1, h2, h3, h4, h5]
    have HR := Lib.hid hr; clear hr
    go_enter Try.func66, Try.ntmps66
    go_wp2_with fail
    all_goals (go_ret; exact ⟨ret_bool (by rw [HR.out]), (((Below.refl _ _).alloc (Nat.le_refl _) _).alloc (by simp) _)⟩)
end Go.Proofs.Ytjjkgemgomfmdaa
