/-
  Contract of impl.NumberOfTest. Conditions: the program has at most 1048576 instructions and threads.
-/
import Derived.Test.YtjogdblionfmiaaGE
import Derived.Deep.RegionWith
namespace Go.Proofs.Ytjogdblionfmiaa
open Go.ChangeShapes Go.WideShapes Go.ChangeAt Go.RowKit
set_option maxRecDepth 100000

def numAt : List Ins → Int → Int × Bool
  | [], n => (n, true)
  | x :: r, n => if idxI smalls x < 0 then (0, false) else numAt r (6 * n + idxI smalls x)
def numR (p : List (List Ins)) : Int × Bool := if p.length = 2 ∧ (p.getD 0 []).length = 2 ∧ (p.getD 1 []).length = 2 then numAt p.flatten 0 else (0, false)
theorem smalls_sl {W : World} {g : Nat} {ti : TypeId} (h : Blk W g ti smallCells) : Sl Ins.cells 4 W 0 W.heap.size (.slice (some ⟨g, 0, none⟩) 6 6) smalls :=
  ⟨_, 6, rfl, Nat.le_refl _, by omega, fun _ => ⟨g, 0, rfl, Nat.zero_le _, h.lt, h.lt, fun k hk j u hu => by
    rw [Nat.zero_add, h.cell]
    exact (small_cells k hk).cells j u hu⟩⟩
theorem idx_small (x : Ins) : idxI smalls x = -1 ∨ ∃ d : Nat, idxI smalls x = d ∧ d < 6 := by
  unfold idxI
  split
  · rename_i h
    exact .inr ⟨_, rfl, h⟩
  · exact .inl rfl
theorem numAt_drop (xs : List Ins) (k : Nat) (h : k < xs.length) (n : Int) : numAt (xs.drop k) n = if idxI smalls xs[k] < 0 then (0, false) else numAt (xs.drop (k + 1)) (6 * n + idxI smalls xs[k]) := by
  rw [List.drop_eq_getElem_cons h]
  rfl

/-- two rows, built anew -/
theorem SlSl.two {W : World} {g : Nat} {to : TypeId} {v0 v1 : Value} {p : List (List Ins)} {lo hi : Nat} (hB : Blk W g to #[v0, v1]) (hp : p.length = 2) (hhi : hi ≤ W.heap.size) (h0 : Sl Ins.cells 4 W lo hi v0 (p[0]'(by omega))) (h1 : Sl Ins.cells 4 W lo hi v1 (p[1]'(by omega))) :
    SlSl Ins.cells 4 W 0 W.heap.size (.slice (some ⟨g, 0, none⟩) 2 2) p := by
  refine ⟨[v0, v1], ⟨_, 2, rfl, Nat.le_refl _, by omega, fun _ => ⟨g, 0, rfl, Nat.zero_le _, hB.lt, hB.lt, fun k hk j u hu => ?_⟩⟩, hp.symm, fun k hk hk' => ?_⟩
  · match j, hu with
    | 0, hu =>
      simp only [val1, List.getElem?_cons_zero, Option.some.injEq] at hu
      subst hu
      rw [hB.cell]
      match k, hk with
      | 0, _ => rfl
      | 1, _ => rfl
    | n + 1, hu => simp [val1] at hu
  · match k, hk with
    | 0, _ => exact h0.mono (Nat.zero_le _) hhi
    | 1, _ => exact h1.mono (Nat.zero_le _) hhi

set_option maxHeartbeats 2000000 in
theorem impl_NumberOfTest_any {lo hi : Nat} {u : Value} {p : List (List Ins)} {w : World} (hu : SlSl Ins.cells 4 w lo hi u p) (hhi : hi ≤ w.heap.size) (hpl : p.length ≤ 1048576) (ht : total p ≤ 1048576) :
    Calls Try.prog 12 #[u] w fun e w' => e = .returned (.tuple #[.int .i64 (numR p).1, .bool (numR p).2]) ∧ Below w.heap.size w w' := by
  obtain ⟨xs, hxs, hxl, hxr⟩ := hu
  obtain ⟨A, ca, rfl, hca, hma, hA⟩ := hxs.vals
  clear hxs hma
  have HX := Lib.hid hxl
  have hxle : xs.length ≤ 1048576 := by omega
  clear hxl
  by_cases h2 : p.length = 2
  · have hx2 : xs.length = 2 := by rw [HX.out]; exact h2
    obtain ⟨ba, oa, rfl, _, _, hba, hA⟩ := hA (by omega)
    obtain ⟨A0, c0, hk0, -, -, -⟩ := hxr 0 (by omega) (by omega)
    obtain ⟨A1, c1, hk1, -, -, -⟩ := hxr 1 (by omega) (by omega)
    have S0 := hxr 0 (by omega) (by omega)
    have S1 := hxr 1 (by omega) (by omega)
    have ca0 := hA 0 (by omega)
    have ca1 := hA 1 (by omega)
    rw [hk0] at ca0 S0
    rw [hk1] at ca1 S1
    simp only [Nat.add_zero] at ca0
    clear hA hxr hk0 hk1
    have g0 : p.getD 0 [] = p[0] := by simp [show 0 < p.length by omega]
    have g1 : p.getD 1 [] = p[1] := by simp [show 1 < p.length by omega]
    have r0 := row_le_total p 0 (by omega)
    have r1 := row_le_total p 1 (by omega)
    by_cases h3 : p[0].length = 2
    · by_cases h4 : p[1].length = 2
      · have hr : numR p = numAt p.flatten 0 := by unfold numR; rw [if_pos ⟨h2, by rw [g0]; exact h3, by rw [g1]; exact h4⟩]
        rw [hr]
        have hfl : p.flatten.length = 4 := by
          match p, h2, h3, h4 with
          | [a, b], _, h3, h4 => simp at h3 h4 ⊢; omega
        rw [h3] at ca0 S0
        rw [h4] at ca1 S1
        have CC : Hid (∀ W : World, W.heap = (w.alloc (.cells #[.slice A0 2 c0, .slice A1 2 c1] 78)).heap → Calls Try.prog 61 #[.slice (some ⟨w.heap.size, 0, none⟩) 2 2] W fun e w' => (∃ v, e = .returned v ∧ Ow Ins.cells 4 81 w' W.heap.size w'.heap.size v p.flatten) ∧ Below W.heap.size W w') := by
          intro W hW
          have hB : Blk W w.heap.size 78 #[.slice A0 2 c0, .slice A1 2 c1] := by
            unfold Blk
            rw [hW]
            exact Blk.new _ _ _
          have hsz : W.heap.size = w.heap.size + 1 := by rw [hW]; simp
          have hkeep : ∀ k, k < w.heap.size → lo ≤ k → k < hi → W.heap[k]? = w.heap[k]? := by
            intro k hk _ _
            rw [hW]
            exact Below.heap_alloc _ _ _ hk
          exact Concat_any (SlSl.two hB h2 (by omega) (S0.keep (by omega) hkeep) (S1.keep (by omega) hkeep)) (Nat.le_refl _) hpl ht
        rw [hx2]
        generalize p.flatten = ys at *
        have HFL := Lib.hid hfl
        clear hr g0 g1 h2 h3 h4 HX r0 r1 S0 S1 hfl
        go_enter Try.func12, Try.ntmps12
        go_wp2_with fail
        go_region_with (go_at_call 61; refine Calls.mono (CC.out _ (by rfl)) ?_; rintro e w2 ⟨⟨v, rfl, hO⟩, hb2⟩; obtain ⟨A2, cc2, rfl, hcc, hmm, hx⟩ := hO.sl.inss)
        all_goals
          have s2 := hb2.size
          simp at s2
          have hbw : Below w.heap.size w w2 := (((Below.refl _ _).alloc (Nat.le_refl _) (.cells #[.slice A0 2 c0, .slice A1 2 c1] 78)).drew).trans (hb2.mono (by simp))
          have HXX := Lib.hid hx; clear hx hO
          go_wp2_with fail
          simp only [Act.put, List.getElem_toArray, List.getElem_cons_succ, List.getElem_cons_zero, List.setIfInBounds_toArray, List.set_cons_succ, List.set_cons_zero]
          go_loopw [4, 34] (fun n i wr => ∃ (k m : Nat), k ≤ ys.length ∧ i = .int .i64 k ∧ n = .int .i64 m ∧ numAt (ys.drop k) m = numAt ys 0 ∧ m < 6 ^ k ∧ Below w.heap.size w wr ∧ Below w2.heap.size w2 wr) (fun _ i _ => ys.length - (intOf i).toNat)
          case atStart => exact ⟨0, 0, Nat.zero_le _, rfl, rfl, rfl, by omega, hbw, Below.refl _ _⟩
          case round =>
            obtain ⟨k, m, hk, rfl, rfl, hnum, hm, hb, hb2⟩ := hrel
            by_cases hlt : k < ys.length
            · obtain ⟨b2, o2, rfl, _, _, hb2l, hA⟩ := HXX.out (by omega)
              have hy := (hA k hlt).below hb2 hb2l
              clear hA
              have hstep := numAt_drop ys k hlt m
              rw [hnum] at hstep
              have HN := Lib.hid hnum; clear hnum
              have hpow : 6 ^ k ≤ 6 ^ 3 := Nat.pow_le_pow_right (by omega) (by have := HFL.out; omega)
              rw [show 6 ^ 3 = 216 from rfl] at hpow
              generalize ys[k] = y at *
              obtain ⟨xo, xl, xr, xv⟩ := y
              obtain ⟨y0, y1, y2, y3⟩ := hy
              simp only at y0 y1 y2 y3
              have i1 : (0 : Int) ≤ (k : Int) := by omega
              have i2 : (k : Int) < (ys.length : Int) := by omega
              have bx0 := (Blk.new wr 81 #[.int .i64 xo, .int .i64 xl, .int .i64 xr, .int .i64 xv]).alloc (.cells smallCells 81)
              have x0 := bx0.cell 0
              have x1 := bx0.cell 1
              have x2 := bx0.cell 2
              have x3 := bx0.cell 3
              clear bx0
              rcases idx_small ⟨xo, xl, xr, xv⟩ with hd | ⟨d, hd, hd6⟩
              · rw [hd, if_pos (by omega)] at hstep
                have HS := Lib.hid hstep; clear hstep
                have IX : Hid (∀ (W : World) (g : Nat), Blk W g 81 smallCells → Calls Try.prog 62 #[.slice (some ⟨g, 0, none⟩) 6 6, .agg #[.int .i64 xo, .int .i64 xl, .int .i64 xr, .int .i64 xv]] W fun e w' => e = .returned (.int .i64 (-1)) ∧ Below W.heap.size W w') := by
                  intro W g hB
                  have := Index_any xo xl xr xv (smalls_sl hB) (by decide)
                  rw [hd] at this
                  exact this
                clear hd
                go_wp2_with fail
                go_region_with (first
                  | (go_at_call 63; refine Calls.mono (smallInstrs_any _) ?_; rintro e w5 ⟨rfl, rfl⟩)
                  | (go_at_call 62; refine Calls.mono (IX.out _ _ (by first | exact (Blk.at_ (by simp)).drew | exact Blk.at_ (by simp))) ?_; rintro e w6 ⟨rfl, hq⟩))
                all_goals
                  have hbq := hq.size
                  have hz1 := hb.size
                  have hz2 := hb2.size
                  simp at hbq
                  have hb6 := ((hb.alloc hb.size (.cells #[.int .i64 xo, .int .i64 xl, .int .i64 xr, .int .i64 xv] 81)).alloc (by simp; omega) (.cells smallCells 81)).drew.trans (hq.mono (by simp; omega))
                  have hb7 := ((hb2.alloc hb2.size (.cells #[.int .i64 xo, .int .i64 xl, .int .i64 xr, .int .i64 xv] 81)).alloc (by simp; omega) (.cells smallCells 81)).drew.trans (hq.mono (by simp; omega))
                  go_wp2_with fail
                  go_ret2
                  rw [HS.out]
                  exact ⟨rfl, hb6⟩
              · rw [hd, if_neg (by omega)] at hstep
                have HS := Lib.hid hstep; clear hstep
                have IX : Hid (∀ (W : World) (g : Nat), Blk W g 81 smallCells → Calls Try.prog 62 #[.slice (some ⟨g, 0, none⟩) 6 6, .agg #[.int .i64 xo, .int .i64 xl, .int .i64 xr, .int .i64 xv]] W fun e w' => e = .returned (.int .i64 (d : Int)) ∧ Below W.heap.size W w') := by
                  intro W g hB
                  have := Index_any xo xl xr xv (smalls_sl hB) (by decide)
                  rw [hd] at this
                  exact this
                clear hd
                go_wp2_with fail
                go_region_with (first
                  | (go_at_call 63; refine Calls.mono (smallInstrs_any _) ?_; rintro e w5 ⟨rfl, rfl⟩)
                  | (go_at_call 62; refine Calls.mono (IX.out _ _ (by first | exact (Blk.at_ (by simp)).drew | exact Blk.at_ (by simp))) ?_; rintro e w6 ⟨rfl, hq⟩))
                all_goals
                  have hbq := hq.size
                  have hz1 := hb.size
                  have hz2 := hb2.size
                  simp at hbq
                  have hb6 := ((hb.alloc hb.size (.cells #[.int .i64 xo, .int .i64 xl, .int .i64 xr, .int .i64 xv] 81)).alloc (by simp; omega) (.cells smallCells 81)).drew.trans (hq.mono (by simp; omega))
                  have hb7 := ((hb2.alloc hb2.size (.cells #[.int .i64 xo, .int .i64 xl, .int .i64 xr, .int .i64 xv] 81)).alloc (by simp; omega) (.cells smallCells 81)).drew.trans (hq.mono (by simp; omega))
                  go_wp2_with fail
                  go_roundw
                  case rel =>
                    refine ⟨k + 1, 6 * m + d, by omega, by go_num, congrArg (Value.int .i64) (by omega), ?_, ?_, hb6, hb7⟩
                    · rw [HS.out]
                      congr 1
                    · rw [Nat.pow_succ]
                      omega
                  case measure => simp [intOf]; omega
            · have hkx : k = ys.length := by omega
              go_wp2_with fail
              go_ret2
              have hd0 : ys.drop k = [] := List.drop_eq_nil_of_le (by omega)
              rw [hd0] at hnum
              rw [← hnum]
              exact ⟨rfl, hb⟩
      · have hr : numR p = (0, false) := by unfold numR; rw [if_neg (by rw [g1]; intro h; exact h4 h.2.2)]
        rw [hr]
        rw [h3] at ca0
        have h4' : ¬ (p[1].length : Int) = 2 := by omega
        rw [hx2]
        generalize p[1].length = n1 at *
        clear hr g0 g1 h2 h3 h4 HX r0 r1 S0 S1
        go_enter Try.func12, Try.ntmps12
        go_wp2_with fail
        go_ret2
        exact ⟨rfl, Below.refl _ _⟩
    · have hr : numR p = (0, false) := by unfold numR; rw [if_neg (by rw [g0]; intro h; exact h3 h.2.1)]
      rw [hr]
      have h3' : ¬ (p[0].length : Int) = 2 := by omega
      rw [hx2]
      generalize p[0].length = n0 at *
      generalize p[1].length = n1 at *
      clear hr g0 g1 h2 h3 HX r0 r1 S0 S1
      go_enter Try.func12, Try.ntmps12
      go_wp2_with fail
      go_ret2
      exact ⟨rfl, Below.refl _ _⟩
  · have hr : numR p = (0, false) := by unfold numR; rw [if_neg (by intro h; exact h2 h.1)]
    rw [hr]
    have hx2 : ¬ (xs.length : Int) = 2 := by rw [HX.out]; omega
    clear hr h2 HX hxr hA
    go_enter Try.func12, Try.ntmps12
    go_wp2_with fail
    go_ret2
    exact ⟨rfl, Below.refl _ _⟩
end Go.Proofs.Ytjogdblionfmiaa
