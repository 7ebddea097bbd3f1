/-
  Contract of spec.l12Apart. No conditions but that its first instruction does not read.
-/
import Derived.Test.YtjjkgemgomfmdaaCanRe
namespace Go.Proofs.Ytjjkgemgomfmdaa
open Go.ChangeShapes Go.WideShapes Go.ChangeAt Go.RowKit
set_option maxRecDepth 100000

set_option maxHeartbeats 1000000 in
theorem l12Apart_any (xo xl xr xv yo yl yr yv : Int) (hx : rdO xo = false) (b : Bool) (hrd : rdO yo = b) (w : World) : Calls Try.prog 71 #[.agg #[.int .i64 xo, .int .i64 xl, .int .i64 xr, .int .i64 xv], .agg #[.int .i64 yo, .int .i64 yl, .int .i64 yr, .int .i64 yv]] w fun e w' =>
    e = .returned (.bool (!(xl == yl) && !(xo == 3 && b && xr == yr))) ∧ Below w.heap.size w w' := by
  have RX := Lib.hid (fun W => (l1Reads_any xo xl xr xv W).mono (fun e w' (h : e = .returned (.bool (rdO xo)) ∧ Below W.heap.size W w') => (show e = .returned (.bool false) ∧ Below W.heap.size W w' from hx ▸ h)))
  clear hx
  cases b with
  | true =>
    have RY := Lib.hid (fun W => (l1Reads_any yo yl yr yv W).mono (fun e w' (h : e = .returned (.bool (rdO yo)) ∧ Below W.heap.size W w') => (show e = .returned (.bool true) ∧ Below W.heap.size W w' from hrd ▸ h)))
    clear hrd
    by_cases hl : xl = yl
    · subst hl
      go_enter Try.func71, Try.ntmps71
      go_wp2_with fail
      go_ret
      exact ⟨ret_bool (by simp), ((Below.refl _ _).alloc (Nat.le_refl _) _).alloc (by simp) _⟩
    · have HL := Lib.hid hl; clear hl
      have bx0 := (Blk.new w 66 #[.int .i64 xo, .int .i64 xl, .int .i64 xr, .int .i64 xv]).alloc (.cells #[.int .i64 yo, .int .i64 yl, .int .i64 yr, .int .i64 yv] 66)
      have by0 := Blk.at_ (w := w.alloc (.cells #[.int .i64 xo, .int .i64 xl, .int .i64 xr, .int .i64 xv] 66)) (n := w.heap.size + 1) (t := 66) (cs := #[.int .i64 yo, .int .i64 yl, .int .i64 yr, .int .i64 yv]) (by simp)
      have hw0 : Below w.heap.size w ((w.alloc (.cells #[.int .i64 xo, .int .i64 xl, .int .i64 xr, .int .i64 xv] 66)).alloc (.cells #[.int .i64 yo, .int .i64 yl, .int .i64 yr, .int .i64 yv] 66)) := ((Below.refl _ _).alloc (Nat.le_refl _) _).alloc (by simp) _
      have hz0 : ((w.alloc (.cells #[.int .i64 xo, .int .i64 xl, .int .i64 xr, .int .i64 xv] 66)).alloc (.cells #[.int .i64 yo, .int .i64 yl, .int .i64 yr, .int .i64 yv] 66)).heap.size = w.heap.size + 1 + 1 := by simp
      have HL2 := Lib.hid (show (xl == yl) = false by simpa using HL.out)
      have BX0 := Lib.hid bx0; clear bx0
      have BY0 := Lib.hid by0; clear by0
      have HW0 := Lib.hid hw0; clear hw0
      have hlt : ¬ xl = yl := HL.out
      go_enter Try.func71, Try.ntmps71
      go_wp2_with fail
      refine (RX.out _).mono ?_
      rintro e w1 ⟨rfl, hq1⟩
      have BX1 := BX0.out.below hq1 (by rw [hz0]; omega)
      have BY1 := BY0.out.below hq1 (by rw [hz0]; omega)
      have HW1 := HW0.out.trans (hq1.mono (by rw [hz0]; omega))
      have hz1 := Nat.le_trans (Nat.le_of_eq hz0.symm) hq1.size
      have x0_1 : w1.cell? ⟨w.heap.size, 0, none⟩ = some (.int .i64 xo) := BX1.cell 0
      have x1_1 : w1.cell? ⟨w.heap.size, 1, none⟩ = some (.int .i64 xl) := BX1.cell 1
      have x2_1 : w1.cell? ⟨w.heap.size, 2, none⟩ = some (.int .i64 xr) := BX1.cell 2
      have x3_1 : w1.cell? ⟨w.heap.size, 3, none⟩ = some (.int .i64 xv) := BX1.cell 3
      have y0_1 : w1.cell? ⟨w.heap.size + 1, 0, none⟩ = some (.int .i64 yo) := BY1.cell 0
      have y1_1 : w1.cell? ⟨w.heap.size + 1, 1, none⟩ = some (.int .i64 yl) := BY1.cell 1
      have y2_1 : w1.cell? ⟨w.heap.size + 1, 2, none⟩ = some (.int .i64 yr) := BY1.cell 2
      have y3_1 : w1.cell? ⟨w.heap.size + 1, 3, none⟩ = some (.int .i64 yv) := BY1.cell 3
      go_wp2_with fail
      refine (RX.out _).mono ?_
      rintro e w2 ⟨rfl, hq2⟩
      have BX2 := BX1.below hq2 (by omega)
      have BY2 := BY1.below hq2 (by omega)
      have HW2 := HW1.trans (hq2.mono (by omega))
      have hz2 := Nat.le_trans hz1 hq2.size
      have x0_2 : w2.cell? ⟨w.heap.size, 0, none⟩ = some (.int .i64 xo) := BX2.cell 0
      have x1_2 : w2.cell? ⟨w.heap.size, 1, none⟩ = some (.int .i64 xl) := BX2.cell 1
      have x2_2 : w2.cell? ⟨w.heap.size, 2, none⟩ = some (.int .i64 xr) := BX2.cell 2
      have x3_2 : w2.cell? ⟨w.heap.size, 3, none⟩ = some (.int .i64 xv) := BX2.cell 3
      have y0_2 : w2.cell? ⟨w.heap.size + 1, 0, none⟩ = some (.int .i64 yo) := BY2.cell 0
      have y1_2 : w2.cell? ⟨w.heap.size + 1, 1, none⟩ = some (.int .i64 yl) := BY2.cell 1
      have y2_2 : w2.cell? ⟨w.heap.size + 1, 2, none⟩ = some (.int .i64 yr) := BY2.cell 2
      have y3_2 : w2.cell? ⟨w.heap.size + 1, 3, none⟩ = some (.int .i64 yv) := BY2.cell 3
      go_wp2_with fail
      refine (RY.out _).mono ?_
      rintro e w3 ⟨rfl, hq3⟩
      have BX3 := BX2.below hq3 (by omega)
      have BY3 := BY2.below hq3 (by omega)
      have HW3 := HW2.trans (hq3.mono (by omega))
      have hz3 := Nat.le_trans hz2 hq3.size
      have x0 : w3.cell? ⟨w.heap.size, 0, none⟩ = some (.int .i64 xo) := BX3.cell 0
      have x1 : w3.cell? ⟨w.heap.size, 1, none⟩ = some (.int .i64 xl) := BX3.cell 1
      have x2 : w3.cell? ⟨w.heap.size, 2, none⟩ = some (.int .i64 xr) := BX3.cell 2
      have x3 : w3.cell? ⟨w.heap.size, 3, none⟩ = some (.int .i64 xv) := BX3.cell 3
      have y0 : w3.cell? ⟨w.heap.size + 1, 0, none⟩ = some (.int .i64 yo) := BY3.cell 0
      have y1 : w3.cell? ⟨w.heap.size + 1, 1, none⟩ = some (.int .i64 yl) := BY3.cell 1
      have y2 : w3.cell? ⟨w.heap.size + 1, 2, none⟩ = some (.int .i64 yr) := BY3.cell 2
      have y3 : w3.cell? ⟨w.heap.size + 1, 3, none⟩ = some (.int .i64 yv) := BY3.cell 3
      go_wp2_with fail
      all_goals
        have hl2 := HL2.out
        go_ret
        refine ⟨ret_bool ?_, HW3⟩
        simp_all
  | false =>
    have RY := Lib.hid (fun W => (l1Reads_any yo yl yr yv W).mono (fun e w' (h : e = .returned (.bool (rdO yo)) ∧ Below W.heap.size W w') => (show e = .returned (.bool false) ∧ Below W.heap.size W w' from hrd ▸ h)))
    clear hrd
    by_cases hl : xl = yl
    · subst hl
      go_enter Try.func71, Try.ntmps71
      go_wp2_with fail
      go_ret
      exact ⟨ret_bool (by simp), ((Below.refl _ _).alloc (Nat.le_refl _) _).alloc (by simp) _⟩
    · have HL := Lib.hid hl; clear hl
      have bx0 := (Blk.new w 66 #[.int .i64 xo, .int .i64 xl, .int .i64 xr, .int .i64 xv]).alloc (.cells #[.int .i64 yo, .int .i64 yl, .int .i64 yr, .int .i64 yv] 66)
      have by0 := Blk.at_ (w := w.alloc (.cells #[.int .i64 xo, .int .i64 xl, .int .i64 xr, .int .i64 xv] 66)) (n := w.heap.size + 1) (t := 66) (cs := #[.int .i64 yo, .int .i64 yl, .int .i64 yr, .int .i64 yv]) (by simp)
      have hw0 : Below w.heap.size w ((w.alloc (.cells #[.int .i64 xo, .int .i64 xl, .int .i64 xr, .int .i64 xv] 66)).alloc (.cells #[.int .i64 yo, .int .i64 yl, .int .i64 yr, .int .i64 yv] 66)) := ((Below.refl _ _).alloc (Nat.le_refl _) _).alloc (by simp) _
      have hz0 : ((w.alloc (.cells #[.int .i64 xo, .int .i64 xl, .int .i64 xr, .int .i64 xv] 66)).alloc (.cells #[.int .i64 yo, .int .i64 yl, .int .i64 yr, .int .i64 yv] 66)).heap.size = w.heap.size + 1 + 1 := by simp
      have HL2 := Lib.hid (show (xl == yl) = false by simpa using HL.out)
      have BX0 := Lib.hid bx0; clear bx0
      have BY0 := Lib.hid by0; clear by0
      have HW0 := Lib.hid hw0; clear hw0
      have hlt : ¬ xl = yl := HL.out
      go_enter Try.func71, Try.ntmps71
      go_wp2_with fail
      refine (RX.out _).mono ?_
      rintro e w1 ⟨rfl, hq1⟩
      have BX1 := BX0.out.below hq1 (by rw [hz0]; omega)
      have BY1 := BY0.out.below hq1 (by rw [hz0]; omega)
      have HW1 := HW0.out.trans (hq1.mono (by rw [hz0]; omega))
      have hz1 := Nat.le_trans (Nat.le_of_eq hz0.symm) hq1.size
      have x0_1 : w1.cell? ⟨w.heap.size, 0, none⟩ = some (.int .i64 xo) := BX1.cell 0
      have x1_1 : w1.cell? ⟨w.heap.size, 1, none⟩ = some (.int .i64 xl) := BX1.cell 1
      have x2_1 : w1.cell? ⟨w.heap.size, 2, none⟩ = some (.int .i64 xr) := BX1.cell 2
      have x3_1 : w1.cell? ⟨w.heap.size, 3, none⟩ = some (.int .i64 xv) := BX1.cell 3
      have y0_1 : w1.cell? ⟨w.heap.size + 1, 0, none⟩ = some (.int .i64 yo) := BY1.cell 0
      have y1_1 : w1.cell? ⟨w.heap.size + 1, 1, none⟩ = some (.int .i64 yl) := BY1.cell 1
      have y2_1 : w1.cell? ⟨w.heap.size + 1, 2, none⟩ = some (.int .i64 yr) := BY1.cell 2
      have y3_1 : w1.cell? ⟨w.heap.size + 1, 3, none⟩ = some (.int .i64 yv) := BY1.cell 3
      go_wp2_with fail
      refine (RX.out _).mono ?_
      rintro e w2 ⟨rfl, hq2⟩
      have BX2 := BX1.below hq2 (by omega)
      have BY2 := BY1.below hq2 (by omega)
      have HW2 := HW1.trans (hq2.mono (by omega))
      have hz2 := Nat.le_trans hz1 hq2.size
      have x0_2 : w2.cell? ⟨w.heap.size, 0, none⟩ = some (.int .i64 xo) := BX2.cell 0
      have x1_2 : w2.cell? ⟨w.heap.size, 1, none⟩ = some (.int .i64 xl) := BX2.cell 1
      have x2_2 : w2.cell? ⟨w.heap.size, 2, none⟩ = some (.int .i64 xr) := BX2.cell 2
      have x3_2 : w2.cell? ⟨w.heap.size, 3, none⟩ = some (.int .i64 xv) := BX2.cell 3
      have y0_2 : w2.cell? ⟨w.heap.size + 1, 0, none⟩ = some (.int .i64 yo) := BY2.cell 0
      have y1_2 : w2.cell? ⟨w.heap.size + 1, 1, none⟩ = some (.int .i64 yl) := BY2.cell 1
      have y2_2 : w2.cell? ⟨w.heap.size + 1, 2, none⟩ = some (.int .i64 yr) := BY2.cell 2
      have y3_2 : w2.cell? ⟨w.heap.size + 1, 3, none⟩ = some (.int .i64 yv) := BY2.cell 3
      go_wp2_with fail
      refine (RY.out _).mono ?_
      rintro e w3 ⟨rfl, hq3⟩
      have BX3 := BX2.below hq3 (by omega)
      have BY3 := BY2.below hq3 (by omega)
      have HW3 := HW2.trans (hq3.mono (by omega))
      have hz3 := Nat.le_trans hz2 hq3.size
      have x0 : w3.cell? ⟨w.heap.size, 0, none⟩ = some (.int .i64 xo) := BX3.cell 0
      have x1 : w3.cell? ⟨w.heap.size, 1, none⟩ = some (.int .i64 xl) := BX3.cell 1
      have x2 : w3.cell? ⟨w.heap.size, 2, none⟩ = some (.int .i64 xr) := BX3.cell 2
      have x3 : w3.cell? ⟨w.heap.size, 3, none⟩ = some (.int .i64 xv) := BX3.cell 3
      have y0 : w3.cell? ⟨w.heap.size + 1, 0, none⟩ = some (.int .i64 yo) := BY3.cell 0
      have y1 : w3.cell? ⟨w.heap.size + 1, 1, none⟩ = some (.int .i64 yl) := BY3.cell 1
      have y2 : w3.cell? ⟨w.heap.size + 1, 2, none⟩ = some (.int .i64 yr) := BY3.cell 2
      have y3 : w3.cell? ⟨w.heap.size + 1, 3, none⟩ = some (.int .i64 yv) := BY3.cell 3
      go_wp2_with fail
      all_goals
        have hl2 := HL2.out
        go_ret
        refine ⟨ret_bool ?_, HW3⟩
        simp_all
end Go.Proofs.Ytjjkgemgomfmdaa
