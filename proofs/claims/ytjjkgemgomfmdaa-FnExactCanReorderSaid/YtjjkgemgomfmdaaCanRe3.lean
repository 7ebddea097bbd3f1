/-
  Contract of spec.CanReorder. Conditions: the program has at most 1048576 instructions and threads.
-/
import Derived.Test.YtjjkgemgomfmdaaCanRe2
namespace Go.Proofs.Ytjjkgemgomfmdaa
open Go.ChangeShapes Go.WideShapes Go.ChangeAt Go.RowKit
set_option maxRecDepth 100000

theorem canB_spec (x y : Ins) (s : ByteArray) : canB x y s = (wrP x.op && (!(x.loc == y.loc) && !(x.op == 3 && rdO y.op && x.reg == y.reg)) && (isTsoB s && y.op == 1 || isPsoB s && (y.op == 1 || wrP y.op))) := by
  unfold canB
  have h : (if y.op = 1 then isTsoB s || isPsoB s else if y.op = 2 ∨ y.op = 3 then isPsoB s else false) = (isTsoB s && y.op == 1 || isPsoB s && (y.op == 1 || wrP y.op)) := by
    unfold wrP
    by_cases h1 : y.op = 1
    · simp [h1]
    · by_cases h2 : y.op = 2
      · simp [h2]
      · by_cases h3 : y.op = 3
        · simp [h3]
        · simp [h1, h2, h3]
  rw [h, Bool.and_assoc (wrP x.op)]
theorem rdO_of_wrP {o : Int} (h : wrP o = true) : rdO o = false := by
  unfold wrP at h
  unfold rdO
  simp at h
  rcases h with rfl | rfl <;> decide

set_option maxHeartbeats 4000000 in
theorem spec_CanReorder_any {lo hi : Nat} {u : Value} {p : List (List Ins)} {w : World} (t i : Int) (s : ByteArray) (hu : SlSl Ins.cells 4 w lo hi u p) (hhi : hi ≤ w.heap.size) (ht : total p ≤ 1048576) (hp : p.length ≤ 1048576) :
    Calls Try.prog 29 #[u, .int .i64 t, .int .i64 i, .string s] w fun e w' => e = .returned (.bool (canR p t i s)) ∧ Below w.heap.size w w' := by
  have HU := Lib.hid hu
  obtain ⟨xs, hxs, hxl, hxr⟩ := hu
  obtain ⟨A, ca, rfl, hca, hma, hA⟩ := hxs.vals
  clear hxs hma
  have HX := Lib.hid hxl
  have hxle : xs.length ≤ 1048576 := by omega
  clear hxl
  have HXR := Lib.hid hxr; clear hxr
  have HAA := Lib.hid hA; clear hA
  have PV := Lib.hid (spec_ProgramValid_any (w := w) HU.out hhi ht)
  have hl1 : (decide (0 ≤ t) && decide (t ≤ (xs.length : Int) - 1)) = inB t ((p.length : Int) - 1) := by rw [HX.out]; rfl
  unfold canR
  rcases thr_cases p t with ⟨hv, h1⟩ | ⟨hv, h2, h1⟩ | ⟨hv, h2, h1, a, rfl, ha⟩
  · have hr : nbB p t i = false := by unfold nbB; rw [h1]; rfl
    rw [hr]
    rw [hv] at PV
    clear hv hr h1 hl1
    go_enter Try.func29, Try.ntmps29
    go_wp2_with fail
    refine PV.out.mono ?_
    rintro e w1 ⟨rfl, hb1⟩
    go_wp2_with fail
    go_ret
    exact ⟨rfl, hb1⟩
  · have hr : nbB p t i = false := by unfold nbB; rw [h1]; rfl
    rw [hr]
    rw [hv] at PV
    rw [h2] at hl1
    have L1 := Lib.hid hl1
    clear hv hr h1 h2 hl1
    go_enter Try.func29, Try.ntmps29
    go_wp2_with fail
    refine PV.out.mono ?_
    rintro e w1 ⟨rfl, hb1⟩
    go_wp2_with fail
    refine (l1In_any _ _ false L1.out _).mono ?_
    rintro e w2 ⟨rfl, rfl⟩
    go_wp2_with fail
    go_ret
    exact ⟨rfl, hb1⟩
  · rw [hv] at PV
    rw [h2] at hl1
    have L1 := Lib.hid hl1
    have H1 := Lib.hid h1
    clear hv h1 h2 hl1
    have hax : a < xs.length := by rw [HX.out]; exact ha
    obtain ⟨ba, oa, rfl, _, _, hba, hA⟩ := HAA.out (by omega)
    have ca1 := hA a hax
    obtain ⟨Ak, ck, hk1, hck, hmk, hAk⟩ := (HXR.out a hax ha).inss
    rw [hk1] at ca1
    clear hA hk1
    have HAK := Lib.hid hAk; clear hAk
    have hr : p[a].length ≤ 1048576 := Nat.le_trans (row_le_total p a ha) ht
    have a0 : (0 : Int) ≤ (a : Int) := by omega
    have a1 : (a : Int) < (xs.length : Int) := by omega
    have a2 : (a : Int) < (p.length : Int) := by omega
    clear HAA HXR
    by_cases c1 : i < 0
    · have hr : nbB p a i = false := by
        unfold nbB
        rw [H1.out]
        simp [inB]
        omega
      rw [hr]
      clear hr
      go_enter Try.func29, Try.ntmps29
      go_wp2_with fail
      refine PV.out.mono ?_
      rintro e w1 ⟨rfl, hb1⟩
      go_wp2_with fail
      refine (l1In_any _ _ true L1.out _).mono ?_
      rintro e w2 ⟨rfl, rfl⟩
      have cb1 := (hb1.cell (p := ⟨ba, oa + a, none⟩) hba).trans ca1
      have s1 := hb1.size
      go_wp2_with fail
      go_ret
      exact ⟨rfl, hb1⟩
    · obtain ⟨b, rfl⟩ := Int.eq_ofNat_of_zero_le (show 0 ≤ i by omega)
      by_cases c2 : (b : Int) ≥ (p[a].length : Int) - 1
      · have hr : nbB p a b = false := by
          unfold nbB
          simp only [Int.toNat_natCast]
          rw [H1.out, row_getD p a ha]
          simp [inB]
          omega
        rw [hr]
        clear hr
        go_enter Try.func29, Try.ntmps29
        go_wp2_with fail
        refine PV.out.mono ?_
        rintro e w1 ⟨rfl, hb1⟩
        go_wp2_with fail
        refine (l1In_any _ _ true L1.out _).mono ?_
        rintro e w2 ⟨rfl, rfl⟩
        have cb1 := (hb1.cell (p := ⟨ba, oa + a, none⟩) hba).trans ca1
        have s1 := hb1.size
        go_wp2_with fail
        go_ret
        exact ⟨rfl, hb1⟩
      · have hr : nbB p a b = true := by
          unfold nbB
          simp only [Int.toNat_natCast]
          rw [H1.out, row_getD p a ha]
          simp [inB]
          omega
        have hab : b + 1 < p[a].length := by omega
        rw [hr, Bool.true_and]
        simp only [Int.toNat_natCast]
        rw [row_getD p a ha]
        have gx : p[a].getD b default = p[a][b] := by simp [show b < p[a].length by omega]
        have gy : p[a].getD (b + 1) default = p[a][b + 1] := by simp [hab]
        rw [gx, gy]
        clear gx gy hr
        obtain ⟨bp, op, rfl, _, _, hbp, hAp⟩ := HAK.out (by omega)
        have hx := hAp b (by omega)
        have hy := hAp (b + 1) hab
        clear hAp HAK
        generalize p[a][b] = x at *
        generalize p[a][b + 1] = y at *
        obtain ⟨xo, xl, xr, xv⟩ := x
        obtain ⟨yo, yl, yr, yv⟩ := y
        rw [canB_spec]
        simp only
        have HIX := Lib.hid hx; clear hx
        have HIY := Lib.hid hy; clear hy
        have i3 : (0 : Int) ≤ (b : Int) := by omega
        have i4 : (b : Int) < (p[a].length : Int) := by omega
        have i5 : (0 : Int) ≤ (b : Int) + 1 := by omega
        have i6 : (b : Int) + 1 < (p[a].length : Int) := by omega
        clear HU
        cases hwx : wrP xo with
        | false =>
          have WX := Lib.hid (fun W => (l12Write_any xo xl xr xv W).mono (fun e w' (h : e = .returned (.bool (wrP xo)) ∧ Below W.heap.size W w') => (show e = .returned (.bool false) ∧ Below W.heap.size W w' from hwx ▸ h)))
          clear hwx
          go_enter Try.func29, Try.ntmps29
          go_wp2_with fail
          refine PV.out.mono ?_
          rintro e w1 ⟨rfl, hb1⟩
          go_wp2_with fail
          refine (l1In_any _ _ true L1.out _).mono ?_
          rintro e w2 ⟨rfl, rfl⟩
          have cb1 := (hb1.cell (p := ⟨ba, oa + a, none⟩) hba).trans ca1
          have s1 := hb1.size
          obtain ⟨d0, d1, d2, d3⟩ := HIX.out.below hb1 hbp
          have hy1 := HIY.out.below hb1 hbp
          obtain ⟨f0, f1, f2, f3⟩ := hy1
          simp only at d0 d1 d2 d3 f0 f1 f2 f3
          have k1 : ba < w1.heap.size := by omega
          have k2 : bp < w1.heap.size := by omega
          have bx0 := (Blk.new w1 66 #[.int .i64 xo, .int .i64 xl, .int .i64 xr, .int .i64 xv]).alloc (.cells #[.int .i64 yo, .int .i64 yl, .int .i64 yr, .int .i64 yv] 66)
          have by0 := Blk.at_ (w := w1.alloc (.cells #[.int .i64 xo, .int .i64 xl, .int .i64 xr, .int .i64 xv] 66)) (n := w1.heap.size + 1) (t := 66) (cs := #[.int .i64 yo, .int .i64 yl, .int .i64 yr, .int .i64 yv]) (by simp)
          have hw0 : Below w.heap.size w ((w1.alloc (.cells #[.int .i64 xo, .int .i64 xl, .int .i64 xr, .int .i64 xv] 66)).alloc (.cells #[.int .i64 yo, .int .i64 yl, .int .i64 yr, .int .i64 yv] 66)) := ((hb1.alloc s1 _).alloc (by simp; omega) _)
          have hz0 : ((w1.alloc (.cells #[.int .i64 xo, .int .i64 xl, .int .i64 xr, .int .i64 xv] 66)).alloc (.cells #[.int .i64 yo, .int .i64 yl, .int .i64 yr, .int .i64 yv] 66)).heap.size = w1.heap.size + 1 + 1 := by simp
          have HZ0 := Lib.hid hz0; clear hz0
          have n1 : (w1.alloc (.cells #[.int .i64 xo, .int .i64 xl, .int .i64 xr, .int .i64 xv] 66)).cell? ⟨ba, oa + a, none⟩ = some (.slice (some ⟨bp, op, none⟩) p[a].length ck) := by rw [World.cell?_alloc_lt _ _ _ (by exact k1)]; exact cb1
          have n2 : InsAt (w1.alloc (.cells #[.int .i64 xo, .int .i64 xl, .int .i64 xr, .int .i64 xv] 66)) bp (op + (b + 1) * 4) ⟨yo, yl, yr, yv⟩ := by
            unfold InsAt
            rw [World.cell?_alloc_lt _ _ _ (by exact k2), World.cell?_alloc_lt _ _ _ (by exact k2), World.cell?_alloc_lt _ _ _ (by exact k2), World.cell?_alloc_lt _ _ _ (by exact k2)]
            exact ⟨f0, f1, f2, f3⟩
          obtain ⟨m0, m1, m2, m3⟩ := n2
          simp only at m0 m1 m2 m3
          have BX0 := Lib.hid bx0; clear bx0
          have BY0 := Lib.hid by0; clear by0
          have HW0 := Lib.hid hw0; clear hw0
          go_wp2_with fail
          refine (WX.out _).mono ?_
          rintro e w3 ⟨rfl, hq3⟩
          have BX3 := BX0.out.below hq3 (by have := HZ0.out; omega)
          have BY3 := BY0.out.below hq3 (by have := HZ0.out; omega)
          have HW3 := HW0.out.trans (hq3.mono (by have := HZ0.out; omega))
          have hz3 : w1.heap.size + 1 + 1 ≤ w3.heap.size := by have := HZ0.out; have := hq3.size; omega
          have x0_3 : w3.cell? ⟨w1.heap.size, 0, none⟩ = some (.int .i64 xo) := BX3.cell 0
          have x1_3 : w3.cell? ⟨w1.heap.size, 1, none⟩ = some (.int .i64 xl) := BX3.cell 1
          have x2_3 : w3.cell? ⟨w1.heap.size, 2, none⟩ = some (.int .i64 xr) := BX3.cell 2
          have x3_3 : w3.cell? ⟨w1.heap.size, 3, none⟩ = some (.int .i64 xv) := BX3.cell 3
          have y0_3 : w3.cell? ⟨w1.heap.size + 1, 0, none⟩ = some (.int .i64 yo) := BY3.cell 0
          have y1_3 : w3.cell? ⟨w1.heap.size + 1, 1, none⟩ = some (.int .i64 yl) := BY3.cell 1
          have y2_3 : w3.cell? ⟨w1.heap.size + 1, 2, none⟩ = some (.int .i64 yr) := BY3.cell 2
          have y3_3 : w3.cell? ⟨w1.heap.size + 1, 3, none⟩ = some (.int .i64 yv) := BY3.cell 3
          go_wp2_with fail
          go_ret
          exact ⟨ret_bool (by simp), HW3⟩
        | true =>
          have WX := Lib.hid (fun W => (l12Write_any xo xl xr xv W).mono (fun e w' (h : e = .returned (.bool (wrP xo)) ∧ Below W.heap.size W w') => (show e = .returned (.bool true) ∧ Below W.heap.size W w' from hwx ▸ h)))
          have AP := Lib.hid (fun W => l12Apart_any xo xl xr xv yo yl yr yv (rdO_of_wrP hwx) _ rfl W)
          clear hwx
          generalize (!(xl == yl) && !(xo == 3 && rdO yo && xr == yr)) = bA at *
          cases bA with
          | false =>
            go_enter Try.func29, Try.ntmps29
            go_wp2_with fail
            refine PV.out.mono ?_
            rintro e w1 ⟨rfl, hb1⟩
            go_wp2_with fail
            refine (l1In_any _ _ true L1.out _).mono ?_
            rintro e w2 ⟨rfl, rfl⟩
            have cb1 := (hb1.cell (p := ⟨ba, oa + a, none⟩) hba).trans ca1
            have s1 := hb1.size
            obtain ⟨d0, d1, d2, d3⟩ := HIX.out.below hb1 hbp
            have hy1 := HIY.out.below hb1 hbp
            obtain ⟨f0, f1, f2, f3⟩ := hy1
            simp only at d0 d1 d2 d3 f0 f1 f2 f3
            have k1 : ba < w1.heap.size := by omega
            have k2 : bp < w1.heap.size := by omega
            have bx0 := (Blk.new w1 66 #[.int .i64 xo, .int .i64 xl, .int .i64 xr, .int .i64 xv]).alloc (.cells #[.int .i64 yo, .int .i64 yl, .int .i64 yr, .int .i64 yv] 66)
            have by0 := Blk.at_ (w := w1.alloc (.cells #[.int .i64 xo, .int .i64 xl, .int .i64 xr, .int .i64 xv] 66)) (n := w1.heap.size + 1) (t := 66) (cs := #[.int .i64 yo, .int .i64 yl, .int .i64 yr, .int .i64 yv]) (by simp)
            have hw0 : Below w.heap.size w ((w1.alloc (.cells #[.int .i64 xo, .int .i64 xl, .int .i64 xr, .int .i64 xv] 66)).alloc (.cells #[.int .i64 yo, .int .i64 yl, .int .i64 yr, .int .i64 yv] 66)) := ((hb1.alloc s1 _).alloc (by simp; omega) _)
            have hz0 : ((w1.alloc (.cells #[.int .i64 xo, .int .i64 xl, .int .i64 xr, .int .i64 xv] 66)).alloc (.cells #[.int .i64 yo, .int .i64 yl, .int .i64 yr, .int .i64 yv] 66)).heap.size = w1.heap.size + 1 + 1 := by simp
            have HZ0 := Lib.hid hz0; clear hz0
            have n1 : (w1.alloc (.cells #[.int .i64 xo, .int .i64 xl, .int .i64 xr, .int .i64 xv] 66)).cell? ⟨ba, oa + a, none⟩ = some (.slice (some ⟨bp, op, none⟩) p[a].length ck) := by rw [World.cell?_alloc_lt _ _ _ (by exact k1)]; exact cb1
            have n2 : InsAt (w1.alloc (.cells #[.int .i64 xo, .int .i64 xl, .int .i64 xr, .int .i64 xv] 66)) bp (op + (b + 1) * 4) ⟨yo, yl, yr, yv⟩ := by
              unfold InsAt
              rw [World.cell?_alloc_lt _ _ _ (by exact k2), World.cell?_alloc_lt _ _ _ (by exact k2), World.cell?_alloc_lt _ _ _ (by exact k2), World.cell?_alloc_lt _ _ _ (by exact k2)]
              exact ⟨f0, f1, f2, f3⟩
            obtain ⟨m0, m1, m2, m3⟩ := n2
            simp only at m0 m1 m2 m3
            have BX0 := Lib.hid bx0; clear bx0
            have BY0 := Lib.hid by0; clear by0
            have HW0 := Lib.hid hw0; clear hw0
            go_wp2_with fail
            refine (WX.out _).mono ?_
            rintro e w3 ⟨rfl, hq3⟩
            have BX3 := BX0.out.below hq3 (by have := HZ0.out; omega)
            have BY3 := BY0.out.below hq3 (by have := HZ0.out; omega)
            have HW3 := HW0.out.trans (hq3.mono (by have := HZ0.out; omega))
            have hz3 : w1.heap.size + 1 + 1 ≤ w3.heap.size := by have := HZ0.out; have := hq3.size; omega
            have x0_3 : w3.cell? ⟨w1.heap.size, 0, none⟩ = some (.int .i64 xo) := BX3.cell 0
            have x1_3 : w3.cell? ⟨w1.heap.size, 1, none⟩ = some (.int .i64 xl) := BX3.cell 1
            have x2_3 : w3.cell? ⟨w1.heap.size, 2, none⟩ = some (.int .i64 xr) := BX3.cell 2
            have x3_3 : w3.cell? ⟨w1.heap.size, 3, none⟩ = some (.int .i64 xv) := BX3.cell 3
            have y0_3 : w3.cell? ⟨w1.heap.size + 1, 0, none⟩ = some (.int .i64 yo) := BY3.cell 0
            have y1_3 : w3.cell? ⟨w1.heap.size + 1, 1, none⟩ = some (.int .i64 yl) := BY3.cell 1
            have y2_3 : w3.cell? ⟨w1.heap.size + 1, 2, none⟩ = some (.int .i64 yr) := BY3.cell 2
            have y3_3 : w3.cell? ⟨w1.heap.size + 1, 3, none⟩ = some (.int .i64 yv) := BY3.cell 3
            go_wp2_with fail
            refine (AP.out _).mono ?_
            rintro e w4 ⟨rfl, hq4⟩
            have BX4 := BX3.below hq4 (by omega)
            have BY4 := BY3.below hq4 (by omega)
            have HW4 := HW3.trans (hq4.mono (by omega))
            have hz4 := Nat.le_trans hz3 hq4.size
            have x0_4 : w4.cell? ⟨w1.heap.size, 0, none⟩ = some (.int .i64 xo) := BX4.cell 0
            have x1_4 : w4.cell? ⟨w1.heap.size, 1, none⟩ = some (.int .i64 xl) := BX4.cell 1
            have x2_4 : w4.cell? ⟨w1.heap.size, 2, none⟩ = some (.int .i64 xr) := BX4.cell 2
            have x3_4 : w4.cell? ⟨w1.heap.size, 3, none⟩ = some (.int .i64 xv) := BX4.cell 3
            have y0_4 : w4.cell? ⟨w1.heap.size + 1, 0, none⟩ = some (.int .i64 yo) := BY4.cell 0
            have y1_4 : w4.cell? ⟨w1.heap.size + 1, 1, none⟩ = some (.int .i64 yl) := BY4.cell 1
            have y2_4 : w4.cell? ⟨w1.heap.size + 1, 2, none⟩ = some (.int .i64 yr) := BY4.cell 2
            have y3_4 : w4.cell? ⟨w1.heap.size + 1, 3, none⟩ = some (.int .i64 yv) := BY4.cell 3
            go_wp2_with fail
            go_ret
            exact ⟨ret_bool (by simp), HW4⟩
          | true =>
            have WY := Lib.hid (fun W => l12Write_any yo yl yr yv W)
            unfold isTsoB isPsoB
            generalize wrP yo = bY at *
            go_enter Try.func29, Try.ntmps29
            go_wp2_with fail
            refine PV.out.mono ?_
            rintro e w1 ⟨rfl, hb1⟩
            go_wp2_with fail
            refine (l1In_any _ _ true L1.out _).mono ?_
            rintro e w2 ⟨rfl, rfl⟩
            have cb1 := (hb1.cell (p := ⟨ba, oa + a, none⟩) hba).trans ca1
            have s1 := hb1.size
            obtain ⟨d0, d1, d2, d3⟩ := HIX.out.below hb1 hbp
            have hy1 := HIY.out.below hb1 hbp
            obtain ⟨f0, f1, f2, f3⟩ := hy1
            simp only at d0 d1 d2 d3 f0 f1 f2 f3
            have k1 : ba < w1.heap.size := by omega
            have k2 : bp < w1.heap.size := by omega
            have bx0 := (Blk.new w1 66 #[.int .i64 xo, .int .i64 xl, .int .i64 xr, .int .i64 xv]).alloc (.cells #[.int .i64 yo, .int .i64 yl, .int .i64 yr, .int .i64 yv] 66)
            have by0 := Blk.at_ (w := w1.alloc (.cells #[.int .i64 xo, .int .i64 xl, .int .i64 xr, .int .i64 xv] 66)) (n := w1.heap.size + 1) (t := 66) (cs := #[.int .i64 yo, .int .i64 yl, .int .i64 yr, .int .i64 yv]) (by simp)
            have hw0 : Below w.heap.size w ((w1.alloc (.cells #[.int .i64 xo, .int .i64 xl, .int .i64 xr, .int .i64 xv] 66)).alloc (.cells #[.int .i64 yo, .int .i64 yl, .int .i64 yr, .int .i64 yv] 66)) := ((hb1.alloc s1 _).alloc (by simp; omega) _)
            have hz0 : ((w1.alloc (.cells #[.int .i64 xo, .int .i64 xl, .int .i64 xr, .int .i64 xv] 66)).alloc (.cells #[.int .i64 yo, .int .i64 yl, .int .i64 yr, .int .i64 yv] 66)).heap.size = w1.heap.size + 1 + 1 := by simp
            have HZ0 := Lib.hid hz0; clear hz0
            have n1 : (w1.alloc (.cells #[.int .i64 xo, .int .i64 xl, .int .i64 xr, .int .i64 xv] 66)).cell? ⟨ba, oa + a, none⟩ = some (.slice (some ⟨bp, op, none⟩) p[a].length ck) := by rw [World.cell?_alloc_lt _ _ _ (by exact k1)]; exact cb1
            have n2 : InsAt (w1.alloc (.cells #[.int .i64 xo, .int .i64 xl, .int .i64 xr, .int .i64 xv] 66)) bp (op + (b + 1) * 4) ⟨yo, yl, yr, yv⟩ := by
              unfold InsAt
              rw [World.cell?_alloc_lt _ _ _ (by exact k2), World.cell?_alloc_lt _ _ _ (by exact k2), World.cell?_alloc_lt _ _ _ (by exact k2), World.cell?_alloc_lt _ _ _ (by exact k2)]
              exact ⟨f0, f1, f2, f3⟩
            obtain ⟨m0, m1, m2, m3⟩ := n2
            simp only at m0 m1 m2 m3
            have BX0 := Lib.hid bx0; clear bx0
            have BY0 := Lib.hid by0; clear by0
            have HW0 := Lib.hid hw0; clear hw0
            go_wp2_with fail
            refine (WX.out _).mono ?_
            rintro e w3 ⟨rfl, hq3⟩
            have BX3 := BX0.out.below hq3 (by have := HZ0.out; omega)
            have BY3 := BY0.out.below hq3 (by have := HZ0.out; omega)
            have HW3 := HW0.out.trans (hq3.mono (by have := HZ0.out; omega))
            have hz3 : w1.heap.size + 1 + 1 ≤ w3.heap.size := by have := HZ0.out; have := hq3.size; omega
            have x0_3 : w3.cell? ⟨w1.heap.size, 0, none⟩ = some (.int .i64 xo) := BX3.cell 0
            have x1_3 : w3.cell? ⟨w1.heap.size, 1, none⟩ = some (.int .i64 xl) := BX3.cell 1
            have x2_3 : w3.cell? ⟨w1.heap.size, 2, none⟩ = some (.int .i64 xr) := BX3.cell 2
            have x3_3 : w3.cell? ⟨w1.heap.size, 3, none⟩ = some (.int .i64 xv) := BX3.cell 3
            have y0_3 : w3.cell? ⟨w1.heap.size + 1, 0, none⟩ = some (.int .i64 yo) := BY3.cell 0
            have y1_3 : w3.cell? ⟨w1.heap.size + 1, 1, none⟩ = some (.int .i64 yl) := BY3.cell 1
            have y2_3 : w3.cell? ⟨w1.heap.size + 1, 2, none⟩ = some (.int .i64 yr) := BY3.cell 2
            have y3_3 : w3.cell? ⟨w1.heap.size + 1, 3, none⟩ = some (.int .i64 yv) := BY3.cell 3
            go_wp2_with fail
            refine (AP.out _).mono ?_
            rintro e w4 ⟨rfl, hq4⟩
            have BX4 := BX3.below hq4 (by omega)
            have BY4 := BY3.below hq4 (by omega)
            have HW4 := HW3.trans (hq4.mono (by omega))
            have hz4 := Nat.le_trans hz3 hq4.size
            have x0_4 : w4.cell? ⟨w1.heap.size, 0, none⟩ = some (.int .i64 xo) := BX4.cell 0
            have x1_4 : w4.cell? ⟨w1.heap.size, 1, none⟩ = some (.int .i64 xl) := BX4.cell 1
            have x2_4 : w4.cell? ⟨w1.heap.size, 2, none⟩ = some (.int .i64 xr) := BX4.cell 2
            have x3_4 : w4.cell? ⟨w1.heap.size, 3, none⟩ = some (.int .i64 xv) := BX4.cell 3
            have y0_4 : w4.cell? ⟨w1.heap.size + 1, 0, none⟩ = some (.int .i64 yo) := BY4.cell 0
            have y1_4 : w4.cell? ⟨w1.heap.size + 1, 1, none⟩ = some (.int .i64 yl) := BY4.cell 1
            have y2_4 : w4.cell? ⟨w1.heap.size + 1, 2, none⟩ = some (.int .i64 yr) := BY4.cell 2
            have y3_4 : w4.cell? ⟨w1.heap.size + 1, 3, none⟩ = some (.int .i64 yv) := BY4.cell 3
            go_wp2_with (go_at_call 70; refine (WY.out _).mono ?_; rintro e w5 ⟨rfl, hq5⟩)
            all_goals
              go_ret
              refine ⟨ret_bool ?_, ?_⟩
              · clear x0_3 x1_3 x2_3 x3_3 y0_3 y1_3 y2_3 y3_3 x0_4 x1_4 x2_4 x3_4 y0_4 y1_4 y2_4 y3_4 HW4 HW3 BX3 BX4 BY3 BY4 d0 d1 d2 d3 f0 f1 f2 f3 m0 m1 m2 m3 n1 cb1 ca1
                simp_all
              · first
                  | exact HW4
                  | exact HW4.trans (hq5.mono (by omega))
end Go.Proofs.Ytjjkgemgomfmdaa
