/-
  Contract of impl.execs. Conditions: the program has at most 1048576 instructions.
-/
import Derived.Test.YtjjkgemgomfmdaaExecs
namespace Go.Proofs.Ytjjkgemgomfmdaa
open Go.ChangeShapes Go.WideShapes Go.ChangeAt Go.RowKit
set_option maxRecDepth 100000

theorem execs1_any (g a n : Nat) (t : TypeId) (w : World) (hB : Blk w g t #[.int .i64 a]) (ha : a ≤ 3001) (hn : n ≤ 1048577) :
    Calls Try.prog 92 #[.int .i64 n, .pointer (some ⟨g, 0, none⟩)] w fun e w' => e = .returned (.tuple #[]) ∧ w.setCell ⟨g, 0, none⟩ (.int .i64 (cap3 (a * n) : Nat)) = w' := by
  have h1 : (a : Int) * (n : Int) ≤ 4000000000 := by
    have : (a : Int) * n ≤ 3001 * 1048577 := Int.mul_le_mul (by omega) (by omega) (by omega) (by omega)
    omega
  have h0 : 0 ≤ (a : Int) * (n : Int) := Int.mul_nonneg (by omega) (by omega)
  have c := hB.cell 0
  have f := hB.frozen 0
  have hc : w.cell? ⟨g, 0, none⟩ = some (.int .i64 a) := c
  clear c hB
  go_enter Try.func92, Try.ntmps92
  go_wp2_with fail
  · have hv : ((cap3 (a * n) : Nat) : Int) = 3001 := by
      have : ((a * n : Nat) : Int) = (a : Int) * (n : Int) := by push_cast; rfl
      unfold cap3
      omega
    go_end0
    exact ⟨rfl, by rw [hv]⟩
  · have hv : ((cap3 (a * n) : Nat) : Int) = (a : Int) * (n : Int) := by
      have : ((a * n : Nat) : Int) = (a : Int) * (n : Int) := by push_cast; rfl
      unfold cap3
      omega
    go_end0
    exact ⟨rfl, by rw [hv]⟩

theorem cap3_le (n : Nat) : cap3 n ≤ 3001 := Nat.min_le_right _ _
theorem cap3_cap3 (a n : Nat) (hn : 1 ≤ n) : cap3 (cap3 a * n) = cap3 (a * n) := cap3_mul n (by unfold cap3; omega) hn

set_option maxHeartbeats 2000000 in
theorem execs_any {lo hi : Nat} {u : Value} {p : List (List Ins)} {w : World} (hu : SlSl Ins.cells 4 w lo hi u p) (ht : total p ≤ 1048576) :
    Calls Try.prog 67 #[u] w fun e w' => e = .returned (.int .i64 (cap3 (execsT p))) ∧ Below w.heap.size w w' := by
  obtain ⟨xs, hxs, hxl, hxr⟩ := hu
  obtain ⟨A, ca, rfl, hca, hma, hA⟩ := hxs.vals
  clear hxs
  have HX := Lib.hid hxl; clear hxl
  have HXR := Lib.hid hxr; clear hxr
  have HAA := Lib.hid hA; clear hA
  go_enter Try.func67, Try.ntmps67
  go_wp2_with fail
  go_loopw [14] (fun sl wr => ∃ (l : Nat), l ≤ 3 ∧ sl = .int .i64 l ∧ Blk wr w.heap.size 3 #[.int .i64 (cap3 (pT p l) : Nat)] ∧ Below w.heap.size w wr) (fun sl _ => 3 - (intOf sl).toNat)
  case atStart => exact ⟨0, by omega, rfl, Blk.new _ _ _, (Below.refl _ _).alloc (Nat.le_refl _) _⟩
  case round =>
    obtain ⟨l, hl, rfl, hB, hb⟩ := hrel
    have HB := Lib.hid hB; clear hB
    have hgl := HB.out.lt
    by_cases hl3 : l < 3
    · have HW := Lib.hid (show pT p (l + 1) = pT p l * ((cw p l + 1) ^ (cr p l) * fct (cw p l)) from rfl)
      obtain ⟨wo, rfl⟩ : ∃ wo : World, wo = wr := ⟨_, rfl⟩
      have hl3' : (l : Int) < 3 := by omega
      go_wp2_with fail
      go_loopw [6, 7, 19] (fun sr sw i w1 => ∃ k : Nat, k ≤ xs.length ∧ i = .int .i64 k ∧ sr = .int .i64 (cntP (atLoc l rdB) (p.take k)) ∧ sw = .int .i64 (cntP (atLoc l wrB) (p.take k)) ∧ Below wo.heap.size wo w1) (fun _ _ i _ => xs.length - (intOf i).toNat)
      case atStart => exact ⟨0, Nat.zero_le _, rfl, rfl, rfl, Below.refl _ _⟩
      case round =>
        obtain ⟨k, hk, rfl, rfl, rfl, hb1⟩ := hrel
        have hbw := hb.trans (hb1.mono hb.size)
        by_cases hlt : k < xs.length
        · obtain ⟨ba, oa, rfl, _, _, hba, hA⟩ := HAA.out (by omega)
          have hp : k < p.length := HX.out ▸ hlt
          obtain ⟨Ak, ck, hk1, hk2, hk3, hrow⟩ := (HXR.out k hlt hp).inss
          have HROW := Lib.hid hrow; clear hrow
          have ca0 := (hbw.cell (p := ⟨ba, oa + k, none⟩) hba).trans (hA k hlt)
          rw [hk1] at ca0
          clear hA hk1
          have i1 : (0 : Int) ≤ (k : Int) := by omega
          have i2 : (k : Int) < (xs.length : Int) := by omega
          have HTr := Lib.hid (cntP_take_succ (atLoc l rdB) p k hp)
          have HTw := Lib.hid (cntP_take_succ (atLoc l wrB) p k hp)
          have HPr := Lib.hid (fun j => cntP_part_le (atLoc l rdB) p k j hp)
          have HPw := Lib.hid (fun j => cntP_part_le (atLoc l wrB) p k j hp)
          obtain ⟨w1, rfl⟩ : ∃ w1 : World, w1 = wr := ⟨_, rfl⟩
          go_wp2_with fail
          go_loopw [6, 7, 25] (fun sr sw i w2 => ∃ j : Nat, j ≤ p[k].length ∧ i = .int .i64 j ∧ sr = .int .i64 (cntP (atLoc l rdB) (p.take k) + (p[k].take j).countP (atLoc l rdB) : Nat) ∧ sw = .int .i64 (cntP (atLoc l wrB) (p.take k) + (p[k].take j).countP (atLoc l wrB) : Nat) ∧ Below w1.heap.size w1 w2) (fun _ _ i _ => p[k].length - (intOf i).toNat)
          case atStart => exact ⟨0, Nat.zero_le _, rfl, by simp, by simp, Below.refl _ _⟩
          case round =>
            obtain ⟨j, hj, rfl, rfl, rfl, hb2⟩ := hrel
            have hbw2 := hbw.trans (hb2.mono hbw.size)
            have hsm1 : cntP (atLoc l rdB) (p.take k) + (p[k].take j).countP (atLoc l rdB) ≤ 1048576 := Nat.le_trans (HPr.out j) ht
            have hsm2 : cntP (atLoc l wrB) (p.take k) + (p[k].take j).countP (atLoc l wrB) ≤ 1048576 := Nat.le_trans (HPw.out j) ht
            by_cases hlj : j < p[k].length
            · obtain ⟨bb, ob, rfl, _, _, hbb, hBB⟩ := HROW.out (by omega)
              obtain ⟨d1, d2, d3, d4⟩ := (hBB j hlj).below hbw2 hbb
              have HSr := Lib.hid (countP_take_succ (atLoc l rdB) p[k] j hlj)
              have HSw := Lib.hid (countP_take_succ (atLoc l wrB) p[k] j hlj)
              have j1 : (0 : Int) ≤ (j : Int) := by omega
              have j2 : (j : Int) < (p[k].length : Int) := by omega
              clear hBB
              go_wp2_with (first
                | (go_at_call 73; refine (reads_any _ _ _ _ _).mono ?_; rintro e w3 ⟨rfl, hq⟩; have z0 := hq.cell (p := ⟨wr.heap.size, 0, none⟩) (by simp); have z1 := hq.cell (p := ⟨wr.heap.size, 1, none⟩) (by simp); have z2 := hq.cell (p := ⟨wr.heap.size, 2, none⟩) (by simp); have z3 := hq.cell (p := ⟨wr.heap.size, 3, none⟩) (by simp))
                | (go_at_call 93; refine (writes_any _ _ _ _ _).mono ?_; rintro e w4 ⟨rfl, hq2⟩))
              all_goals
                have hr := HSr.out
                have hw := HSw.out
                first
                  | (have ef : atLoc (l : Int) rdB p[k][j] = true := by simp [atLoc, rdB, *]
                     rw [if_pos ef] at hr)
                  | (have ef : ¬ atLoc (l : Int) rdB p[k][j] = true := by simp [atLoc, rdB, *]
                     rw [if_neg ef] at hr)
                first
                  | (have ef : atLoc (l : Int) wrB p[k][j] = true := by simp [atLoc, wrB, *]
                     rw [if_pos ef] at hw)
                  | (have ef : ¬ atLoc (l : Int) wrB p[k][j] = true := by simp [atLoc, wrB, *]
                     rw [if_neg ef] at hw)
                go_roundw
                case rel =>
                  have hsz := hb2.size
                  refine ⟨j + 1, by omega, by go_num, congrArg (Value.int .i64) (by omega), congrArg (Value.int .i64) (by omega), ?_⟩
                  first
                    | exact hb2.alloc hb2.size _
                    | exact ((hb2.alloc hb2.size _).trans (hq.mono (by simp; omega))).trans (hq2.mono (by have := hq.size; simp at this; omega))
                case measure => simp [intOf]; omega
            · have hjx : p[k].take j = p[k] := List.take_of_length_le (by omega)
              have HJ := Lib.hid hjx; clear hjx
              go_wp2_with fail
              go_roundw
              case rel => exact ⟨k + 1, by omega, by go_num, congrArg (Value.int .i64) (by rw [HJ.out, HTr.out]), congrArg (Value.int .i64) (by rw [HJ.out, HTw.out]), hb1.trans (hb2.mono hb1.size)⟩
              case measure => simp [intOf]; omega
        · have hkx : p.take k = p := List.take_of_length_le (by rw [← HX.out]; omega)
          have B1 := HB.out.below hb1 hgl
          have hcw := cntP_le (atLoc (l : Int) wrB) p
          have hcr := cntP_le (atLoc (l : Int) rdB) p
          have er : cntP (atLoc (l : Int) rdB) (p.take k) = cr p l := by rw [hkx]; rfl
          have ew : cntP (atLoc (l : Int) wrB) (p.take k) = cw p l := by rw [hkx]; rfl
          rw [er, ew]
          change cw p l ≤ total p at hcw
          change cr p l ≤ total p at hcr
          clear er ew hkx
          generalize cw p l = a at *
          generalize cr p l = r at *
          have BB1 := Lib.hid B1; clear B1
          have ha1 : (a : Int) ≤ 1048576 := by omega
          have hr1 : (r : Int) ≤ 1048576 := by omega
          go_wp2_with fail
          go_loopw [52] (fun si w4 => ∃ (i : Nat), i ≤ r ∧ si = .int .i64 i ∧ Blk w4 w.heap.size 3 #[.int .i64 (cap3 (pT p l * (a + 1) ^ i) : Nat)] ∧ Below w.heap.size w w4) (fun si _ => r - (intOf si).toNat)
          case atStart => exact ⟨0, Nat.zero_le _, rfl, by simpa using BB1.out, hbw⟩
          case round =>
            obtain ⟨i, hi, rfl, hBi, hb4⟩ := hrel
            have HBi := Lib.hid hBi; clear hBi
            by_cases hir : i < r
            · have hir' : (i : Int) < (r : Int) := by omega
              have hc3 : cap3 (pT p l * (a + 1) ^ i) ≤ 3001 := cap3_le _
              have hstep : cap3 (cap3 (pT p l * (a + 1) ^ i) * (a + 1)) = cap3 (pT p l * (a + 1) ^ (i + 1)) := by rw [cap3_cap3 _ _ (by omega), Nat.pow_succ, Nat.mul_assoc]
              have HST := Lib.hid hstep; clear hstep
              have hcast : ((a + 1 : Nat) : Int) = (a : Int) + 1 := by push_cast; rfl
              have EX := execs1_any w.heap.size (cap3 (pT p l * (a + 1) ^ i)) (a + 1) 3 wr HBi.out hc3 (by omega)
              rw [hcast] at EX
              have HEX := Lib.hid EX; clear EX hcast hc3
              go_wp2_with (go_at_call 92; refine HEX.out.mono ?_; rintro e w5 ⟨rfl, rfl⟩)
              go_roundw
              case rel => exact ⟨i + 1, by omega, by go_num, by rw [← HST.out]; exact HBi.out.set_ 0 _, hb4.setCell (by simp) _⟩
              case measure => simp [intOf]; omega
            · have hix : i = r := by omega
              subst hix
              go_wp2_with fail
              go_loopw [60] (fun si w4 => ∃ (j : Nat), j ≤ a ∧ si = .int .i64 j ∧ Blk w4 w.heap.size 3 #[.int .i64 (cap3 (pT p l * (a + 1) ^ i * fct j) : Nat)] ∧ Below w.heap.size w w4) (fun si _ => a - (intOf si).toNat)
              case atStart => exact ⟨0, Nat.zero_le _, rfl, by simpa [fct] using HBi.out, hb4⟩
              case round =>
                obtain ⟨j, hj, rfl, hBj, hb5⟩ := hrel
                have HBj := Lib.hid hBj; clear hBj
                by_cases hja : j < a
                · have hja' : (j : Int) < (a : Int) := by omega
                  have hc3 : cap3 (pT p l * (a + 1) ^ i * fct j) ≤ 3001 := cap3_le _
                  have hstep : cap3 (cap3 (pT p l * (a + 1) ^ i * fct j) * (j + 1)) = cap3 (pT p l * (a + 1) ^ i * fct (j + 1)) := by rw [cap3_cap3 _ _ (by omega), fct, ← Nat.mul_assoc]
                  have HST := Lib.hid hstep; clear hstep
                  have hcast : ((j + 1 : Nat) : Int) = (j : Int) + 1 := by push_cast; rfl
                  have EX := execs1_any w.heap.size (cap3 (pT p l * (a + 1) ^ i * fct j)) (j + 1) 3 wr HBj.out hc3 (by omega)
                  rw [hcast] at EX
                  have HEX := Lib.hid EX; clear EX hcast hc3
                  go_wp2_with (go_at_call 92; refine HEX.out.mono ?_; rintro e w5 ⟨rfl, rfl⟩)
                  go_roundw
                  case rel => exact ⟨j + 1, by omega, by go_num, by rw [← HST.out]; exact HBj.out.set_ 0 _, hb5.setCell (by simp) _⟩
                  case measure => simp [intOf]; omega
                · have hjx : j = a := by omega
                  subst hjx
                  go_wp2_with fail
                  go_roundw
                  case rel => exact ⟨l + 1, by omega, by go_num, by rw [HW.out, ← Nat.mul_assoc]; exact HBj.out, hb5⟩
                  case measure => simp [intOf]; omega
    · have hl4 : l = 3 := by omega
      subst hl4
      have c0 := HB.out.cell 0
      have c1 : wr.cell? ⟨w.heap.size, 0, none⟩ = some (.int .i64 (cap3 (pT p 3) : Nat)) := c0
      clear c0
      go_wp2_with fail
      go_ret
      exact ⟨ret_int rfl, hb⟩
end Go.Proofs.Ytjjkgemgomfmdaa
