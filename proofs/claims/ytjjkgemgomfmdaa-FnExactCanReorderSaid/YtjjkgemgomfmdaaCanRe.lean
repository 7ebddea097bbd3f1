/-
  Contracts of impl.isBuffered, spec.l12Write, spec.l12Apart, impl.CanReorder. Conditions: the program has at most 1048576 instructions and threads.
-/
import Derived.Test.YtjjkgemgomfmdaaReorder3
namespace Go.Proofs.Ytjjkgemgomfmdaa
open Go.ChangeShapes Go.WideShapes Go.ChangeAt Go.RowKit
set_option maxRecDepth 100000

def isTsoB (s : ByteArray) : Bool := s.toList == [116, 115, 111]
def isPsoB (s : ByteArray) : Bool := s.toList == [112, 115, 111]
theorem isBuffered_any (s : ByteArray) (w : World) : Calls Try.prog 74 #[.string s] w fun e w' => e = .returned (.bool (isTsoB s || isPsoB s)) ∧ w = w' := by
  unfold isTsoB isPsoB
  go_enter Try.func74, Try.ntmps74
  go_wp2_with fail
  all_goals (go_ret; exact ⟨ret_bool (by simp_all), rfl⟩)
def wrP (op : Int) : Bool := op == 2 || op == 3
theorem l12Write_any (op a b c : Int) (w : World) : Calls Try.prog 70 #[.agg #[.int .i64 op, .int .i64 a, .int .i64 b, .int .i64 c]] w fun e w' => e = .returned (.bool (wrP op)) ∧ Below w.heap.size w w' := by
  unfold wrP
  go_enter Try.func70, Try.ntmps70
  go_wp2_with fail
  all_goals (go_ret; exact ⟨ret_bool (by simp_all), (Below.refl _ _).alloc (Nat.le_refl _) _⟩)

/-- can two instructions be exchanged -/
def canB (x y : Ins) (s : ByteArray) : Bool :=
  wrP x.op && !(x.loc == y.loc) && !(x.op == 3 && rdO y.op && x.reg == y.reg) && (if y.op = 1 then isTsoB s || isPsoB s else if y.op = 2 ∨ y.op = 3 then isPsoB s else false)
def canR (p : List (List Ins)) (t i : Int) (s : ByteArray) : Bool := nbB p t i && canB ((p.getD t.toNat []).getD i.toNat default) ((p.getD t.toNat []).getD (i.toNat + 1) default) s

set_option maxHeartbeats 4000000 in
theorem impl_CanReorder_any {lo hi : Nat} {u : Value} {p : List (List Ins)} {w : World} (t i : Int) (s : ByteArray) (hu : SlSl Ins.cells 4 w lo hi u p) (hhi : hi ≤ w.heap.size) (ht : total p ≤ 1048576) (hp : p.length ≤ 1048576) :
    Calls Try.prog 30 #[u, .int .i64 t, .int .i64 i, .string s] w fun e w' => e = .returned (.bool (canR p t i s)) ∧ Below w.heap.size w w' := by
  have HU := Lib.hid hu
  obtain ⟨xs, hxs, hxl, hxr⟩ := hu
  obtain ⟨A, ca, rfl, hca, hma, hA⟩ := hxs.vals
  clear hxs hma
  have HX := Lib.hid hxl
  have hxle : xs.length ≤ 1048576 := by omega
  clear hxl
  have HXR := Lib.hid hxr; clear hxr
  have HAA := Lib.hid hA; clear hA
  unfold canR
  by_cases h1 : nbB p t i = true
  · have AN := Lib.hid (areNeighbors_any (w := w) t i true HU.out hhi ht hp h1)
    obtain ⟨a, b, ha, rfl, rfl, hab⟩ := nbB_open h1
    simp only [Int.toNat_natCast]
    rw [h1, Bool.true_and, row_getD p a ha]
    have gx : p[a].getD b default = p[a][b] := by simp [show b < p[a].length by omega]
    have gy : p[a].getD (b + 1) default = p[a][b + 1] := by simp [hab]
    rw [gx, gy]
    clear gx gy h1
    have hax : a < xs.length := by rw [HX.out]; exact ha
    obtain ⟨ba, oa, rfl, _, _, hba, hA⟩ := HAA.out (by omega)
    have ca1 := hA a hax
    obtain ⟨Ak, ck, hk1, hck, hmk, hAk⟩ := (HXR.out a hax ha).inss
    rw [hk1] at ca1
    clear hA hk1
    obtain ⟨bp, op, rfl, _, _, hbp, hAp⟩ := hAk (by omega)
    have hx := hAp b (by omega)
    have hy := hAp (b + 1) hab
    clear hAp hAk
    have hr : p[a].length ≤ 1048576 := Nat.le_trans (row_le_total p a ha) ht
    generalize p[a][b] = x at *
    generalize p[a][b + 1] = y at *
    obtain ⟨xo, xl, xr, xv⟩ := x
    obtain ⟨yo, yl, yr, yv⟩ := y
    simp only [canB]
    have HIX := Lib.hid hx; clear hx
    have HIY := Lib.hid hy; clear hy
    have a0 : (0 : Int) ≤ (a : Int) := by omega
    have a1 : (a : Int) < (xs.length : Int) := by omega
    have i3 : (0 : Int) ≤ (b : Int) := by omega
    have i4 : (b : Int) < (p[a].length : Int) := by omega
    have i5 : (0 : Int) ≤ (b : Int) + 1 := by omega
    have i6 : (b : Int) + 1 < (p[a].length : Int) := by omega
    clear HXR HAA HU
    go_enter Try.func30, Try.ntmps30
    go_wp2_with fail
    refine AN.out.mono ?_
    rintro e w1 ⟨rfl, hb1⟩
    have cb1 := (hb1.cell (p := ⟨ba, oa + a, none⟩) hba).trans ca1
    obtain ⟨x0, x1, x2, x3⟩ := HIX.out.below hb1 hbp
    obtain ⟨y0, y1, y2, y3⟩ := HIY.out.below hb1 hbp
    simp only at x0 x1 x2 x3 y0 y1 y2 y3
    have s1 := hb1.size
    clear ca1
    have k1 : ba < w1.heap.size := by omega
    have k2 : bp < w1.heap.size := by omega
    have k3 : ba ≠ w1.heap.size := by omega
    have k4 : bp ≠ w1.heap.size := by omega
    have k5 : ba ≠ w1.heap.size + 1 := by omega
    have k6 : bp ≠ w1.heap.size + 1 := by omega
    have k7 : ba < w1.heap.size + 1 := by omega
    have k8 : bp < w1.heap.size + 1 := by omega
    have n1 : ∀ o, (w1.drew.alloc o).cell? ⟨ba, oa + a, none⟩ = some (.slice (some ⟨bp, op, none⟩) p[a].length ck) := fun o => by rw [World.cell?_alloc_lt _ _ _ (by exact k1)]; exact cb1
    go_wp2_with fail
    go_region
    · have Bx := ((Blk.new w1 66 #[.int .i64 xo, .int .i64 xl, .int .i64 xr, .int .i64 xv]).alloc (.cells #[.int .i64 yo, .int .i64 yl, .int .i64 yr, .int .i64 yv] 66)).drew
      have By := (Blk.at_ (w := w1.alloc (.cells #[.int .i64 xo, .int .i64 xl, .int .i64 xr, .int .i64 xv] 66)) (n := w1.heap.size + 1) (t := 66) (cs := #[.int .i64 yo, .int .i64 yl, .int .i64 yr, .int .i64 yv]) (by simp)).drew
      obtain ⟨W2, hW2⟩ : ∃ W2, W2 = ((w1.alloc (.cells #[.int .i64 xo, .int .i64 xl, .int .i64 xr, .int .i64 xv] 66)).alloc (.cells #[.int .i64 yo, .int .i64 yl, .int .i64 yr, .int .i64 yv] 66)).drew := ⟨_, rfl⟩
      clear x0 x1 x2 x3 y0 y1 y2 y3 n1
      have x0 : W2.cell? ⟨w1.heap.size, 0, none⟩ = some (.int .i64 xo) := by rw [hW2]; exact Bx.cell 0
      have x1 : W2.cell? ⟨w1.heap.size, 1, none⟩ = some (.int .i64 xl) := by rw [hW2]; exact Bx.cell 1
      have x2 : W2.cell? ⟨w1.heap.size, 2, none⟩ = some (.int .i64 xr) := by rw [hW2]; exact Bx.cell 2
      have x3 : W2.cell? ⟨w1.heap.size, 3, none⟩ = some (.int .i64 xv) := by rw [hW2]; exact Bx.cell 3
      have y0 : W2.cell? ⟨w1.heap.size + 1, 0, none⟩ = some (.int .i64 yo) := by rw [hW2]; exact By.cell 0
      have y1 : W2.cell? ⟨w1.heap.size + 1, 1, none⟩ = some (.int .i64 yl) := by rw [hW2]; exact By.cell 1
      have y2 : W2.cell? ⟨w1.heap.size + 1, 2, none⟩ = some (.int .i64 yr) := by rw [hW2]; exact By.cell 2
      have y3 : W2.cell? ⟨w1.heap.size + 1, 3, none⟩ = some (.int .i64 yv) := by rw [hW2]; exact By.cell 3
      have hbW : Below w.heap.size w W2 := by rw [hW2]; exact (((hb1.alloc s1 _).alloc (by simp; omega) _).drew)
      have hsW : W2.heap.size = w1.heap.size + 1 + 1 := by rw [hW2, heap_drew]; simp
      rw [← hW2]
      clear hW2 Bx By
      cases hrd : rdO yo with
      | true =>
        have RD := Lib.hid (fun W => (reads_any yo yl yr yv W).mono (fun e w' (h : e = .returned (.bool (rdO yo)) ∧ Below W.heap.size W w') => (show e = .returned (.bool true) ∧ Below W.heap.size W w' from hrd ▸ h)))
        have HRD := Lib.hid hrd; clear hrd
        go_wp2_with (first
          | (go_at_call 73; refine (RD.out _).mono ?_; rintro e w5 ⟨rfl, hq⟩; have x2' := (hq.cell (p := ⟨w1.heap.size, 2, none⟩) (by simp; omega)).trans x2; have y0' := (hq.cell (p := ⟨w1.heap.size + 1, 0, none⟩) (by simp; omega)).trans y0; have y2' := (hq.cell (p := ⟨w1.heap.size + 1, 2, none⟩) (by simp; omega)).trans y2)
          | (go_at_call 74; refine (isBuffered_any _ _).mono ?_; rintro e w6 ⟨rfl, rfl⟩))
        all_goals
          have hrd := HRD.out
          go_ret
          clear x0 x1 x2 x3 y0 y1 y2 y3
          refine ⟨ret_bool ?_, ?_⟩
          · clear hbW
            simp_all [wrP, isTsoB, isPsoB, rdO]
          · first
              | exact hbW
              | exact hbW.trans (hq.mono (by omega))
      | false =>
        have RD := Lib.hid (fun W => (reads_any yo yl yr yv W).mono (fun e w' (h : e = .returned (.bool (rdO yo)) ∧ Below W.heap.size W w') => (show e = .returned (.bool false) ∧ Below W.heap.size W w' from hrd ▸ h)))
        have HRD := Lib.hid hrd; clear hrd
        go_wp2_with (first
          | (go_at_call 73; refine (RD.out _).mono ?_; rintro e w5 ⟨rfl, hq⟩; have x2' := (hq.cell (p := ⟨w1.heap.size, 2, none⟩) (by simp; omega)).trans x2; have y0' := (hq.cell (p := ⟨w1.heap.size + 1, 0, none⟩) (by simp; omega)).trans y0; have y2' := (hq.cell (p := ⟨w1.heap.size + 1, 2, none⟩) (by simp; omega)).trans y2)
          | (go_at_call 74; refine (isBuffered_any _ _).mono ?_; rintro e w6 ⟨rfl, rfl⟩))
        all_goals
          have hrd := HRD.out
          go_ret
          clear x0 x1 x2 x3 y0 y1 y2 y3
          refine ⟨ret_bool ?_, ?_⟩
          · clear hbW
            simp_all [wrP, isPsoB, rdO]
          · first
              | exact hbW
              | exact hbW.trans (hq.mono (by omega))
    · have By := ((Blk.new w1 66 #[.int .i64 yo, .int .i64 yl, .int .i64 yr, .int .i64 yv]).alloc (.cells #[.int .i64 xo, .int .i64 xl, .int .i64 xr, .int .i64 xv] 66)).drew
      have Bx := (Blk.at_ (w := w1.alloc (.cells #[.int .i64 yo, .int .i64 yl, .int .i64 yr, .int .i64 yv] 66)) (n := w1.heap.size + 1) (t := 66) (cs := #[.int .i64 xo, .int .i64 xl, .int .i64 xr, .int .i64 xv]) (by simp)).drew
      obtain ⟨W2, hW2⟩ : ∃ W2, W2 = ((w1.alloc (.cells #[.int .i64 yo, .int .i64 yl, .int .i64 yr, .int .i64 yv] 66)).alloc (.cells #[.int .i64 xo, .int .i64 xl, .int .i64 xr, .int .i64 xv] 66)).drew := ⟨_, rfl⟩
      clear x0 x1 x2 x3 y0 y1 y2 y3 n1
      have x0 : W2.cell? ⟨w1.heap.size + 1, 0, none⟩ = some (.int .i64 xo) := by rw [hW2]; exact Bx.cell 0
      have x1 : W2.cell? ⟨w1.heap.size + 1, 1, none⟩ = some (.int .i64 xl) := by rw [hW2]; exact Bx.cell 1
      have x2 : W2.cell? ⟨w1.heap.size + 1, 2, none⟩ = some (.int .i64 xr) := by rw [hW2]; exact Bx.cell 2
      have x3 : W2.cell? ⟨w1.heap.size + 1, 3, none⟩ = some (.int .i64 xv) := by rw [hW2]; exact Bx.cell 3
      have y0 : W2.cell? ⟨w1.heap.size, 0, none⟩ = some (.int .i64 yo) := by rw [hW2]; exact By.cell 0
      have y1 : W2.cell? ⟨w1.heap.size, 1, none⟩ = some (.int .i64 yl) := by rw [hW2]; exact By.cell 1
      have y2 : W2.cell? ⟨w1.heap.size, 2, none⟩ = some (.int .i64 yr) := by rw [hW2]; exact By.cell 2
      have y3 : W2.cell? ⟨w1.heap.size, 3, none⟩ = some (.int .i64 yv) := by rw [hW2]; exact By.cell 3
      have hbW : Below w.heap.size w W2 := by rw [hW2]; exact (((hb1.alloc s1 _).alloc (by simp; omega) _).drew)
      have hsW : W2.heap.size = w1.heap.size + 1 + 1 := by rw [hW2, heap_drew]; simp
      rw [← hW2]
      clear hW2 Bx By
      cases hrd : rdO yo with
      | true =>
        have RD := Lib.hid (fun W => (reads_any yo yl yr yv W).mono (fun e w' (h : e = .returned (.bool (rdO yo)) ∧ Below W.heap.size W w') => (show e = .returned (.bool true) ∧ Below W.heap.size W w' from hrd ▸ h)))
        have HRD := Lib.hid hrd; clear hrd
        go_wp2_with (first
          | (go_at_call 73; refine (RD.out _).mono ?_; rintro e w5 ⟨rfl, hq⟩; have x2' := (hq.cell (p := ⟨w1.heap.size + 1, 2, none⟩) (by simp; omega)).trans x2; have y0' := (hq.cell (p := ⟨w1.heap.size, 0, none⟩) (by simp; omega)).trans y0; have y2' := (hq.cell (p := ⟨w1.heap.size, 2, none⟩) (by simp; omega)).trans y2)
          | (go_at_call 74; refine (isBuffered_any _ _).mono ?_; rintro e w6 ⟨rfl, rfl⟩))
        all_goals
          have hrd := HRD.out
          go_ret
          clear x0 x1 x2 x3 y0 y1 y2 y3
          refine ⟨ret_bool ?_, ?_⟩
          · clear hbW
            simp_all [wrP, isTsoB, isPsoB, rdO]
          · first
              | exact hbW
              | exact hbW.trans (hq.mono (by omega))
      | false =>
        have RD := Lib.hid (fun W => (reads_any yo yl yr yv W).mono (fun e w' (h : e = .returned (.bool (rdO yo)) ∧ Below W.heap.size W w') => (show e = .returned (.bool false) ∧ Below W.heap.size W w' from hrd ▸ h)))
        have HRD := Lib.hid hrd; clear hrd
        go_wp2_with (first
          | (go_at_call 73; refine (RD.out _).mono ?_; rintro e w5 ⟨rfl, hq⟩; have x2' := (hq.cell (p := ⟨w1.heap.size + 1, 2, none⟩) (by simp; omega)).trans x2; have y0' := (hq.cell (p := ⟨w1.heap.size, 0, none⟩) (by simp; omega)).trans y0; have y2' := (hq.cell (p := ⟨w1.heap.size, 2, none⟩) (by simp; omega)).trans y2)
          | (go_at_call 74; refine (isBuffered_any _ _).mono ?_; rintro e w6 ⟨rfl, rfl⟩))
        all_goals
          have hrd := HRD.out
          go_ret
          clear x0 x1 x2 x3 y0 y1 y2 y3
          refine ⟨ret_bool ?_, ?_⟩
          · clear hbW
            simp_all [wrP, isPsoB, rdO]
          · first
              | exact hbW
              | exact hbW.trans (hq.mono (by omega))
  · have h1' : nbB p t i = false := by simpa using h1
    have AN := Lib.hid (areNeighbors_any (w := w) t i false HU.out hhi ht hp h1')
    rw [h1']
    clear h1 h1'
    go_enter Try.func30, Try.ntmps30
    go_wp2_with fail
    refine AN.out.mono ?_
    rintro e w1 ⟨rfl, hb1⟩
    go_wp2_with fail
    go_ret
    exact ⟨rfl, hb1⟩
end Go.Proofs.Ytjjkgemgomfmdaa
