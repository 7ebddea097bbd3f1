/-
  Contract of slices.Index at instructions. Conditions: at most 1048576 elements.
-/
import Derived.Test.YtjjkgemgomfmdaaConcat
import Derived.Test.YtjjkgemgomfmdaaSmall3
import Derived.BigRegion
namespace Go.Proofs.Ytjjkgemgomfmdaa
open Go.ChangeShapes Go.WideShapes Go.ChangeAt Go.RowKit
set_option maxRecDepth 100000

def idxI (xs : List Ins) (x : Ins) : Int := if xs.idxOf x < xs.length then (xs.idxOf x : Int) else -1

theorem idxOf_first {xs : List Ins} {x : Ins} {k : Nat} (hk : k < xs.length) (he : xs[k] = x) (hno : ∀ j (h : j < xs.length), j < k → xs[j] ≠ x) : xs.idxOf x = k := by
  induction xs generalizing k with
  | nil => simp at hk
  | cons y r ih =>
    match k, hk, he, hno with
    | 0, _, he, _ => simp at he; simp [he]
    | k + 1, hk, he, hno =>
      have h0 := hno 0 (by simp) (by omega)
      simp at h0
      have := ih (k := k) (by simpa using hk) (by simpa using he) (fun j hj hjk => hno (j + 1) (by simpa using hj) (by omega))
      have hb : (y == x) = false := by simp [h0]
      simp [List.idxOf_cons, hb, this]
theorem idxOf_none {xs : List Ins} {x : Ins} (hno : ∀ j (h : j < xs.length), xs[j] ≠ x) : ¬ xs.idxOf x < xs.length := by
  intro h
  rw [List.idxOf_lt_length_iff] at h
  obtain ⟨j, hj, he⟩ := List.getElem_of_mem h
  exact hno j hj he

set_option maxHeartbeats 1000000 in
theorem Index_any {lo hi : Nat} {u : Value} {xs : List Ins} {w : World} (xo xl xr xv : Int) (hu : Sl Ins.cells 4 w lo hi u xs) (hx : xs.length ≤ 1048576) :
    Calls Try.prog 58 #[u, .agg #[.int .i64 xo, .int .i64 xl, .int .i64 xr, .int .i64 xv]] w fun e w' => e = .returned (.int .i64 (idxI xs ⟨xo, xl, xr, xv⟩)) ∧ Below w.heap.size w w' := by
  obtain ⟨A, ca, rfl, hca, hma, hA⟩ := hu.inss
  have HAA := Lib.hid hA; clear hA
  have bx0 := Lib.hid (Blk.new w 66 #[.int .i64 xo, .int .i64 xl, .int .i64 xr, .int .i64 xv])
  go_enter Try.func58, Try.ntmps58
  go_wp2_with fail
  go_loopw [8] (fun i wr => ∃ k : Nat, k ≤ xs.length ∧ i = .int .i64 k ∧ (∀ j (h : j < xs.length), j < k → xs[j] ≠ ⟨xo, xl, xr, xv⟩) ∧ Below w.heap.size w wr ∧ Blk wr w.heap.size 66 #[.int .i64 xo, .int .i64 xl, .int .i64 xr, .int .i64 xv]) (fun i _ => xs.length - (intOf i).toNat)
  case atStart => exact ⟨0, Nat.zero_le _, rfl, fun j _ h => absurd h (by omega), (Below.refl _ _).alloc (Nat.le_refl _) _, bx0.out⟩
  case round =>
    obtain ⟨k, hk, rfl, hno, hb, hB⟩ := hrel
    have HNO := Lib.hid hno; clear hno
    by_cases hlt : k < xs.length
    · obtain ⟨ba, oa, rfl, _, _, hba, hA⟩ := HAA.out (by omega)
      have hy := (hA k hlt).below hb hba
      clear hA
      generalize hyy : xs[k] = y at *
      have HYY := Lib.hid hyy; clear hyy
      obtain ⟨yo, yl, yr, yv⟩ := y
      obtain ⟨y0, y1, y2, y3⟩ := hy
      simp only at y0 y1 y2 y3
      have x0 : wr.cell? ⟨w.heap.size, 0, none⟩ = some (.int .i64 xo) := hB.cell 0
      have x1 : wr.cell? ⟨w.heap.size, 1, none⟩ = some (.int .i64 xl) := hB.cell 1
      have x2 : wr.cell? ⟨w.heap.size, 2, none⟩ = some (.int .i64 xr) := hB.cell 2
      have x3 : wr.cell? ⟨w.heap.size, 3, none⟩ = some (.int .i64 xv) := hB.cell 3
      have HB := Lib.hid hB; clear hB
      have i1 : (0 : Int) ≤ (k : Int) := by omega
      have i2 : (k : Int) < (xs.length : Int) := by omega
      by_cases e0 : xo = yo
      · subst e0
        by_cases e1 : xl = yl
        · subst e1
          by_cases e2 : xr = yr
          · subst e2
            by_cases e3 : xv = yv
            · subst e3
              go_wp2_with fail
              go_region
              go_wp2_with fail
              go_ret
              refine ⟨ret_int ?_, hb.drew⟩
              have h0 := idxOf_first hlt HYY.out HNO.out
              unfold idxI
              rw [h0, if_pos hlt]
            · go_wp2_with fail
              go_region
              go_wp2_with fail
              go_roundw
              case rel =>
                refine ⟨k + 1, by omega, by go_num, fun j hj hjk => ?_, hb.drew, HB.out.drew⟩
                by_cases e : j = k
                · subst e
                  rw [HYY.out]
                  intro h
                  injection h
                  omega
                · exact HNO.out j hj (by omega)
              case measure => simp [intOf]; omega
          · go_wp2_with fail
            go_region
            go_wp2_with fail
            go_roundw
            case rel =>
              refine ⟨k + 1, by omega, by go_num, fun j hj hjk => ?_, hb.drew, HB.out.drew⟩
              by_cases e : j = k
              · subst e
                rw [HYY.out]
                intro h
                injection h
                omega
              · exact HNO.out j hj (by omega)
            case measure => simp [intOf]; omega
        · go_wp2_with fail
          go_region
          go_wp2_with fail
          go_roundw
          case rel =>
            refine ⟨k + 1, by omega, by go_num, fun j hj hjk => ?_, hb.drew, HB.out.drew⟩
            by_cases e : j = k
            · subst e
              rw [HYY.out]
              intro h
              injection h
              omega
            · exact HNO.out j hj (by omega)
          case measure => simp [intOf]; omega
      · go_wp2_with fail
        go_region
        go_wp2_with fail
        go_roundw
        case rel =>
          refine ⟨k + 1, by omega, by go_num, fun j hj hjk => ?_, hb.drew, HB.out.drew⟩
          by_cases e : j = k
          · subst e
            rw [HYY.out]
            intro h
            injection h
            omega
          · exact HNO.out j hj (by omega)
        case measure => simp [intOf]; omega
    · have hkx : k = xs.length := by omega
      go_wp2_with fail
      go_ret
      refine ⟨ret_int ?_, hb⟩
      have h0 := idxOf_none (xs := xs) (x := ⟨xo, xl, xr, xv⟩) (fun j hj => HNO.out j hj (by omega))
      unfold idxI
      rw [if_neg (by omega)]
end Go.Proofs.Ytjjkgemgomfmdaa
