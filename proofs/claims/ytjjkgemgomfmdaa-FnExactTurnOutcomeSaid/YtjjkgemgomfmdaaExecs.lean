/-
  Contracts of spec.l1Execs and impl.execs: both count the product of all locations, up to 3001. Conditions: the program has at most 1048576 instructions.
-/
import Derived.Test.YtjjkgemgomfmdaaCount
namespace Go.Proofs.Ytjjkgemgomfmdaa
open Go.ChangeShapes Go.WideShapes Go.ChangeAt Go.RowKit
set_option maxRecDepth 100000

def cap3 (n : Nat) : Nat := min n 3001
def fct : Nat → Nat
  | 0 => 1
  | n + 1 => fct n * (n + 1)
theorem fct_pos (n : Nat) : 1 ≤ fct n := by
  induction n with
  | zero => exact Nat.le_refl _
  | succ n ih => exact Nat.mul_pos ih (by omega)
def cw (p : List (List Ins)) (l : Int) : Nat := cntP (atLoc l wrB) p
def cr (p : List (List Ins)) (l : Int) : Nat := cntP (atLoc l rdB) p
def locF (p : List (List Ins)) (l : Nat) : Nat := (cw p l + 1) ^ (cr p l) * fct (cw p l)
def pT (p : List (List Ins)) : Nat → Nat
  | 0 => 1
  | l + 1 => pT p l * locF p l
/-- the product of all locations -/
def execsT (p : List (List Ins)) : Nat := pT p 3
theorem cap3_mul {a b : Nat} (n : Nat) (h : cap3 a = cap3 b) (hn : 1 ≤ n) : cap3 (a * n) = cap3 (b * n) := by
  unfold cap3 at *
  by_cases ha : a < 3001
  · have : a = b := by omega
    rw [this]
  · have h1 : a ≤ a * n := Nat.le_mul_of_pos_right a hn
    have h2 : b ≤ b * n := Nat.le_mul_of_pos_right b hn
    omega
theorem cap3_big {a b n : Nat} (h : cap3 a = cap3 b) (ha : 3000 < a) (hn : 1 ≤ n) : cap3 a = cap3 (b * n) := by
  unfold cap3 at *
  have h2 : b ≤ b * n := Nat.le_mul_of_pos_right b hn
  omega
theorem pow_split {a i r : Nat} (h : i ≤ r) : a ^ r = a ^ i * a ^ (r - i) := by rw [← Nat.pow_add]; congr 1; omega
theorem fct_split (i : Nat) : ∀ d, ∃ q, 1 ≤ q ∧ fct (i + d) = fct i * q
  | 0 => ⟨1, Nat.le_refl _, by simp⟩
  | d + 1 => by
    obtain ⟨q, hq, h⟩ := fct_split i d
    exact ⟨q * (i + d + 1), Nat.mul_pos hq (by omega), by rw [← Nat.add_assoc, fct, h, Nat.mul_assoc]⟩

theorem mul_bdI {n a : Int} (h : n ≤ 3000) (_ : 0 ≤ n) (ha : a ≤ 1048577) (ha0 : 0 ≤ a) : n * a ≤ 3145731000 := by
  have : n * a ≤ 3000 * 1048577 := Int.mul_le_mul h ha ha0 (by omega)
  omega
theorem mul_bdN {n a : Nat} (h : n ≤ 3000) (ha : a ≤ 1048577) : n * a ≤ 4000000000 := by
  have : n * a ≤ 3000 * 1048577 := Nat.mul_le_mul h ha
  omega
set_option maxHeartbeats 1000000 in
theorem l1Execs_any {lo hi : Nat} {u : Value} {p : List (List Ins)} {w : World} (hu : SlSl Ins.cells 4 w lo hi u p) (hhi : hi ≤ w.heap.size) (ht : total p ≤ 1048576) :
    Calls Try.prog 95 #[u, .int .i64 3000] w fun e w' => e = .returned (.int .i64 (cap3 (execsT p))) ∧ Below w.heap.size w w' := by
  have HU := Lib.hid hu; clear hu
  go_enter Try.func95, Try.ntmps95
  go_wp2_with fail
  go_loopw [5, 6] (fun sn sl wr => ∃ (l n : Nat), l ≤ 3 ∧ sl = .int .i64 l ∧ sn = .int .i64 n ∧ n ≤ 4000000000 ∧ 1 ≤ n ∧ cap3 n = cap3 (pT p l) ∧ Below w.heap.size w wr) (fun _ sl _ => 3 - (intOf sl).toNat)
  case atStart => exact ⟨0, 1, by omega, rfl, rfl, by omega, by omega, rfl, Below.refl _ _⟩
  case round =>
    obtain ⟨l, n, hl, rfl, rfl, hn, hn1, hcap, hb⟩ := hrel
    have HC := Lib.hid hcap; clear hcap
    by_cases hl3 : l < 3
    · have hle : (l : Int) ≤ 2 := by omega
      have HW := Lib.hid (show pT p (l + 1) = pT p l * ((cw p l + 1) ^ (cr p l) * fct (cw p l)) from rfl)
      have hcw := cntP_le (atLoc (l : Int) wrB) p
      have hcr := cntP_le (atLoc (l : Int) rdB) p
      have CW := Lib.hid (fun W hs => l1Count_w (loc := (l : Int)) (w := W) (hs : SlSl Ins.cells 4 W lo hi u p) ht)
      have CR := Lib.hid (fun W hs => l1Count_r (loc := (l : Int)) (w := W) (hs : SlSl Ins.cells 4 W lo hi u p) ht)
      change cw p l ≤ total p at hcw
      change cr p l ≤ total p at hcr
      have CW2 : Hid (∀ W, SlSl Ins.cells 4 W lo hi u p → Calls Try.prog 106 #[u, .int .i64 (l : Int), .bool true] W fun e w' => e = .returned (.int .i64 (cw p l)) ∧ Below W.heap.size W w') := CW.out
      have CR2 : Hid (∀ W, SlSl Ins.cells 4 W lo hi u p → Calls Try.prog 106 #[u, .int .i64 (l : Int), .bool false] W fun e w' => e = .returned (.int .i64 (cr p l)) ∧ Below W.heap.size W w') := CR.out
      clear CW CR
      generalize cw p l = a at *
      generalize cr p l = r at *
      obtain ⟨wo, rfl⟩ : ∃ wo : World, wo = wr := ⟨_, rfl⟩
      go_wp2_with fail
      refine (CW2.out _ (HU.out.below hb hhi)).mono ?_
      rintro e w1 ⟨rfl, hq1⟩
      have hb1 : Below w.heap.size w w1 := hb.trans (hq1.mono hb.size)
      have ha1 : (a : Int) ≤ 1048576 := by omega
      go_wp2_with fail
      go_loopw [5, 8] (fun sn si w2 => ∃ (i n : Nat), i ≤ r ∧ si = .int .i64 i ∧ sn = .int .i64 n ∧ n ≤ 4000000000 ∧ 1 ≤ n ∧ cap3 n = cap3 (pT p l * (a + 1) ^ i) ∧ Below w.heap.size w w2) (fun _ si _ => r - (intOf si).toNat)
      case atStart => exact ⟨0, n, Nat.zero_le _, rfl, rfl, hn, hn1, by rw [HC.out]; simp, hb1⟩
      case round =>
        obtain ⟨i, n, hi, rfl, rfl, hn, hn1, hcap, hb2⟩ := hrel
        have HC1 := Lib.hid hcap; clear hcap
        by_cases hgo : i < r ∧ n ≤ 3000
        · obtain ⟨h1, h2⟩ := hgo
          have h1' : (i : Int) < (r : Int) := by omega
          have h2' : (n : Int) ≤ 3000 := by omega
          have hmul : n * (a + 1) ≤ 4000000000 := mul_bdN h2 (by omega)
          have hmul1 : 1 ≤ n * (a + 1) := Nat.mul_pos hn1 (by omega)
          have hmulI : (n : Int) * ((a : Int) + 1) ≤ 3145731000 := mul_bdI h2' (by omega) (by omega) (by omega)
          have hmulI0 : 0 ≤ (n : Int) * ((a : Int) + 1) := Int.mul_nonneg (by omega) (by omega)
          have HM := Lib.hid hmul; clear hmul
          have HM1 := Lib.hid hmul1; clear hmul1
          go_wp2_with (go_at_call 106; refine (CR2.out _ (HU.out.below hb2 hhi)).mono ?_; rintro e w3 ⟨rfl, hq3⟩)
          go_roundw
          case rel =>
            refine ⟨i + 1, n * (a + 1), by omega, by go_num, by push_cast; rfl, HM.out, HM1.out, ?_, hb2.trans (hq3.mono hb2.size)⟩
            rw [Nat.pow_succ, ← Nat.mul_assoc]
            exact cap3_mul _ HC1.out (by omega)
          case measure => simp [intOf]; omega
        · have hc2 : cap3 n = cap3 (pT p l * (a + 1) ^ r) := by
            by_cases h : i < r
            · rw [pow_split hi, ← Nat.mul_assoc]
              exact cap3_big HC1.out (by omega) (Nat.pow_pos (by omega))
            · have : i = r := by omega
              rw [← this]; exact HC1.out
          have HC2 := Lib.hid hc2; clear hc2
          have hor : ((i : Int) < (r : Int) ∧ ¬ (n : Int) ≤ 3000) ∨ ¬ (i : Int) < (r : Int) := by omega
          clear hgo
          rcases hor with ⟨h1, h2⟩ | h1
          all_goals
            obtain ⟨wi, rfl⟩ : ∃ wi : World, wi = wr := ⟨_, rfl⟩
            go_wp2_with (go_at_call 106; refine (CR2.out _ (HU.out.below hb2 hhi)).mono ?_; rintro e w3 ⟨rfl, hq3⟩)
            have hb3 : Below w.heap.size w w3 := hb2.trans (hq3.mono hb2.size)
            go_loopw [5, 9] (fun sn si w4 => ∃ (i n : Nat), 2 ≤ i ∧ i ≤ max 2 (a + 1) ∧ si = .int .i64 i ∧ sn = .int .i64 n ∧ n ≤ 4000000000 ∧ 1 ≤ n ∧ cap3 n = cap3 (pT p l * (a + 1) ^ r * fct (i - 1)) ∧ Below w.heap.size w w4) (fun _ si _ => a + 3 - (intOf si).toNat)
            case atStart => exact ⟨2, n, Nat.le_refl _, by omega, rfl, rfl, hn, hn1, by rw [HC2.out]; simp [fct], hb3⟩
            case round =>
              obtain ⟨i, n, hi2, hi, rfl, rfl, hn, hn1, hcap, hb4⟩ := hrel
              have HC3 := Lib.hid hcap; clear hcap
              by_cases hgo : i ≤ a ∧ n ≤ 3000
              · obtain ⟨h1, h2⟩ := hgo
                have h1' : (i : Int) ≤ (a : Int) := by omega
                have h2' : (n : Int) ≤ 3000 := by omega
                have hmul : n * i ≤ 4000000000 := mul_bdN h2 (by omega)
                have hmul1 : 1 ≤ n * i := Nat.mul_pos hn1 (by omega)
                have hmulI : (n : Int) * (i : Int) ≤ 3145731000 := mul_bdI h2' (by omega) (by omega) (by omega)
                have hmulI0 : 0 ≤ (n : Int) * (i : Int) := Int.mul_nonneg (by omega) (by omega)
                have HM := Lib.hid hmul; clear hmul
                have HM1 := Lib.hid hmul1; clear hmul1
                go_wp2_with fail
                go_roundw
                case rel =>
                  refine ⟨i + 1, n * i, by omega, by omega, by go_num, by push_cast; rfl, HM.out, HM1.out, ?_, hb4⟩
                  have : fct (i + 1 - 1) = fct (i - 1) * i := by
                    obtain ⟨q, rfl⟩ : ∃ q, i = q + 1 := ⟨i - 1, by omega⟩
                    rfl
                  rw [this, ← Nat.mul_assoc]
                  exact cap3_mul _ HC3.out (by omega)
                case measure => simp [intOf]; omega
              · have hc4 : cap3 n = cap3 (pT p (l + 1)) := by
                  rw [HW.out, ← Nat.mul_assoc]
                  by_cases h : i ≤ a
                  · obtain ⟨q, hq, hf⟩ := fct_split (i - 1) (a - (i - 1))
                    rw [show i - 1 + (a - (i - 1)) = a from by omega] at hf
                    rw [hf, ← Nat.mul_assoc]
                    exact cap3_big HC3.out (by omega) hq
                  · have : fct (i - 1) = fct a := by
                      by_cases ha0 : a = 0
                      · have : i = 2 := by omega
                        subst this ha0
                        rfl
                      · congr 1; omega
                    rw [← this]; exact HC3.out
                have HC4 := Lib.hid hc4; clear hc4
                have hor : ((i : Int) ≤ (a : Int) ∧ ¬ (n : Int) ≤ 3000) ∨ ¬ (i : Int) ≤ (a : Int) := by omega
                clear hgo
                rcases hor with ⟨h1, h2⟩ | h1
                all_goals
                  go_wp2_with fail
                  go_roundw
                  case rel => exact ⟨l + 1, n, by omega, by go_num, rfl, hn, hn1, HC4.out, hb4⟩
                  case measure => simp [intOf]; omega
    · have hl4 : l = 3 := by omega
      subst hl4
      by_cases hbig : n ≤ 3000
      · have hfin : n = cap3 (execsT p) := by
          have := HC.out
          unfold execsT cap3 at *
          omega
        have HF := Lib.hid hfin; clear hfin
        have hb' : ¬ (3000 : Int) < (n : Int) := by omega
        go_wp2_with fail
        go_ret
        exact ⟨ret_int (by rw [← HF.out]), hb⟩
      · have hfin : 3001 = cap3 (execsT p) := by
          have := HC.out
          unfold execsT cap3 at *
          omega
        have HF := Lib.hid hfin; clear hfin
        have hb' : (3000 : Int) < (n : Int) := by omega
        go_wp2_with fail
        go_ret
        exact ⟨ret_int (by rw [← HF.out]; rfl), hb⟩
end Go.Proofs.Ytjjkgemgomfmdaa
