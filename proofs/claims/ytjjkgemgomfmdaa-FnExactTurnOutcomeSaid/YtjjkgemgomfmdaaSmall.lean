/-
  Contracts of the small tests: spec.l14Instrs, impl.smallInstrs, impl.smallTest, spec.l14Test, impl.SmallTest, spec.SmallTest. No conditions beyond the number's range.
-/
import Derived.Test.YtjjkgemgomfmdaaMark2
import Derived.BigRegion
import Derived.Outline
namespace Go.Proofs.Ytjjkgemgomfmdaa
open Go.ChangeShapes Go.WideShapes Go.ChangeAt Go.RowKit
set_option maxRecDepth 100000

def smalls : List Ins := [⟨2, 0, 0, 1⟩, ⟨2, 1, 0, 1⟩, ⟨1, 0, 0, 0⟩, ⟨1, 1, 1, 0⟩, ⟨4, 0, 0, 0⟩, ⟨5, 0, 2, 2⟩]
def smallCells : Array Value := #[.int .i64 2, .int .i64 0, .int .i64 0, .int .i64 1, .int .i64 2, .int .i64 1, .int .i64 0, .int .i64 1, .int .i64 1, .int .i64 0, .int .i64 0, .int .i64 0,
  .int .i64 1, .int .i64 1, .int .i64 1, .int .i64 0, .int .i64 4, .int .i64 0, .int .i64 0, .int .i64 0, .int .i64 5, .int .i64 0, .int .i64 2, .int .i64 2]
theorem small_cells (a : Nat) (h : a < 6) : HasIns smallCells (a * 4) (smalls[a]'h) := by
  match a, h with
  | 0, _ => exact ⟨rfl, rfl, rfl, rfl⟩
  | 1, _ => exact ⟨rfl, rfl, rfl, rfl⟩
  | 2, _ => exact ⟨rfl, rfl, rfl, rfl⟩
  | 3, _ => exact ⟨rfl, rfl, rfl, rfl⟩
  | 4, _ => exact ⟨rfl, rfl, rfl, rfl⟩
  | 5, _ => exact ⟨rfl, rfl, rfl, rfl⟩

theorem l14Instrs_any (w : World) :
    Calls Try.prog 48 #[] w fun e w' => e = .returned (.slice (some ⟨w.heap.size, 0, none⟩) 6 6) ∧ w.alloc (.cells smallCells 66) = w' := by
  go_enter Try.func48, Try.ntmps48
  go_wp2
  go_ret
  exact ⟨rfl, rfl⟩
theorem smallInstrs_any (w : World) :
    Calls Try.prog 59 #[] w fun e w' => e = .returned (.slice (some ⟨w.heap.size, 0, none⟩) 6 6) ∧ w.alloc (.cells smallCells 66) = w' := by
  go_enter Try.func59, Try.ntmps59
  go_wp2
  go_ret
  exact ⟨rfl, rfl⟩

theorem Ow.pair {ti : TypeId} {w : World} {lo hi g : Nat} {cs : Array Value} {x y : Ins} (hB : Blk w g ti cs) (hg : lo ≤ g ∧ g < hi) (hs : cs.size = 8) (h1 : HasIns cs 0 x) (h2 : HasIns cs 4 y) : Ow Ins.cells 4 ti w lo hi (.slice (some ⟨g, 0, none⟩) 2 2) [x, y] :=
  ⟨_, 2, rfl, by simp, by omega, fun _ => ⟨g, cs, rfl, hg.1, hg.2, hB, by omega, fun k h j u hu => by
    match k, h, hu with
    | 0, _, hu => exact HasIns.cells (k := 0 * 4) (by simpa using h1) j u hu
    | 1, _, hu => exact HasIns.cells (k := 1 * 4) (by simpa using h2) j u hu⟩⟩
theorem OwOw.pairs {to ti : TypeId} {w : World} {lo hi g g1 g2 : Nat} {c1 c2 : Array Value} {xa xb xc xd : Ins} (h1 : Blk w g1 ti c1) (h2 : Blk w g2 ti c2)
    (h : Blk w g to #[.slice (some ⟨g1, 0, none⟩) 2 2, .slice (some ⟨g2, 0, none⟩) 2 2]) (s1 : c1.size = 8) (s2 : c2.size = 8) (ha : HasIns c1 0 xa) (hb : HasIns c1 4 xb) (hc : HasIns c2 0 xc) (hd : HasIns c2 4 xd)
    (hg : lo ≤ g ∧ g < hi) (hg1 : lo ≤ g1 ∧ g1 < hi) (hg2 : lo ≤ g2 ∧ g2 < hi) (hne : g1 ≠ g2) : OwOw Ins.cells 4 to ti w lo hi (.slice (some ⟨g, 0, none⟩) 2 2) [[xa, xb], [xc, xd]] := by
  refine OwOw.made (p := [[xa, xb], [xc, xd]]) (G := fun j => if j = 0 then g1 else g2) (C := fun _ => 2) h hg rfl (Nat.le_refl _) (by omega) (fun j hj => ?_) (fun i j hi hj hij => ?_)
  · match j, hj with
    | 0, _ => exact ⟨hg1.1, hg1.2, rfl, Ow.pair h1 ⟨Nat.le_refl _, Nat.lt_succ_self _⟩ s1 ha hb⟩
    | 1, _ => exact ⟨hg2.1, hg2.2, rfl, Ow.pair h2 ⟨Nat.le_refl _, Nat.lt_succ_self _⟩ s2 hc hd⟩
  · have hi2 : i < 2 := hi
    have hj2 : j < 2 := hj
    by_cases e : i = 0
    · obtain rfl : j = 1 := by omega
      subst e
      exact hne
    · obtain rfl : i = 1 := by omega
      obtain rfl : j = 0 := by omega
      exact hne.symm

theorem smallTest_any (a b c d : Nat) (ha : a < 6) (hb : b < 6) (hc : c < 6) (hd : d < 6) (n : Int) (hn : n = 216 * a + 36 * b + 6 * c + d) (w : World) :
    Calls Try.prog 51 #[.int .i64 n] w fun e w' => ∃ v, e = .returned v ∧ OwOw Ins.cells 4 57 66 w' w.heap.size w'.heap.size v [[smalls[a], smalls[b]], [smalls[c], smalls[d]]] ∧ Below w.heap.size w w' := by
  have i0 : (0 : Int) ≤ n := by omega
  have i1 : n < 1296 := by omega
  have t1 : IntKind.i64.wrap (n.tdiv 216) = (a : Int) := by rw [IntWalk.i64_in _ (by rw [Int.tdiv_eq_ediv_of_nonneg i0]; omega), Int.tdiv_eq_ediv_of_nonneg i0]; omega
  have t2 : IntKind.i64.wrap (n.tdiv 36) = (6 * a + b : Int) := by rw [IntWalk.i64_in _ (by rw [Int.tdiv_eq_ediv_of_nonneg i0]; omega), Int.tdiv_eq_ediv_of_nonneg i0]; omega
  have t3 : (6 * a + b : Int).tmod 6 = (b : Int) := by rw [Int.tmod_eq_emod_of_nonneg (by omega)]; omega
  have t4 : IntKind.i64.wrap (n.tdiv 6) = (36 * a + 6 * b + c : Int) := by rw [IntWalk.i64_in _ (by rw [Int.tdiv_eq_ediv_of_nonneg i0]; omega), Int.tdiv_eq_ediv_of_nonneg i0]; omega
  have t5 : (36 * a + 6 * b + c : Int).tmod 6 = (c : Int) := by rw [Int.tmod_eq_emod_of_nonneg (by omega)]; omega
  have t6 : n.tmod 6 = (d : Int) := by rw [Int.tmod_eq_emod_of_nonneg (by omega)]; omega
  have a0 : (0 : Int) ≤ (a : Int) := by omega
  have b0 : (0 : Int) ≤ (b : Int) := by omega
  have c0 : (0 : Int) ≤ (c : Int) := by omega
  have d0 : (0 : Int) ≤ (d : Int) := by omega
  have a1 : (a : Int) < 6 := by omega
  have b1 : (b : Int) < 6 := by omega
  have c1 : (c : Int) < 6 := by omega
  have d1 : (d : Int) < 6 := by omega
  clear hn i0 i1
  have ka := small_cells a ha
  have kb := small_cells b hb
  have kc := small_cells c hc
  have kd := small_cells d hd
  generalize smalls[a] = xa at *
  generalize smalls[b] = xb at *
  generalize smalls[c] = xc at *
  generalize smalls[d] = xd at *
  have KEY : Hid (∀ W : World, Blk W w.heap.size 66 smallCells → W.cell? ⟨w.heap.size, a * 4, none⟩ = some (.int .i64 xa.op) ∧ W.cell? ⟨w.heap.size, a * 4 + 1, none⟩ = some (.int .i64 xa.loc) ∧ W.cell? ⟨w.heap.size, a * 4 + 2, none⟩ = some (.int .i64 xa.reg) ∧ W.cell? ⟨w.heap.size, a * 4 + 3, none⟩ = some (.int .i64 xa.val) ∧ W.cell? ⟨w.heap.size, b * 4, none⟩ = some (.int .i64 xb.op) ∧ W.cell? ⟨w.heap.size, b * 4 + 1, none⟩ = some (.int .i64 xb.loc) ∧ W.cell? ⟨w.heap.size, b * 4 + 2, none⟩ = some (.int .i64 xb.reg) ∧ W.cell? ⟨w.heap.size, b * 4 + 3, none⟩ = some (.int .i64 xb.val) ∧ W.cell? ⟨w.heap.size, c * 4, none⟩ = some (.int .i64 xc.op) ∧ W.cell? ⟨w.heap.size, c * 4 + 1, none⟩ = some (.int .i64 xc.loc) ∧ W.cell? ⟨w.heap.size, c * 4 + 2, none⟩ = some (.int .i64 xc.reg) ∧ W.cell? ⟨w.heap.size, c * 4 + 3, none⟩ = some (.int .i64 xc.val) ∧ W.cell? ⟨w.heap.size, d * 4, none⟩ = some (.int .i64 xd.op) ∧ W.cell? ⟨w.heap.size, d * 4 + 1, none⟩ = some (.int .i64 xd.loc) ∧ W.cell? ⟨w.heap.size, d * 4 + 2, none⟩ = some (.int .i64 xd.reg) ∧ W.cell? ⟨w.heap.size, d * 4 + 3, none⟩ = some (.int .i64 xd.val)) := by
    intro W h
    have A := h.ins ka
    have B := h.ins kb
    have C := h.ins kc
    have D := h.ins kd
    exact ⟨A.1, A.2.1, A.2.2.1, A.2.2.2, B.1, B.2.1, B.2.2.1, B.2.2.2, C.1, C.2.1, C.2.2.1, C.2.2.2, D⟩
  clear ka kb kc kd
  go_enter Try.func51, Try.ntmps51
  go_wp2_with fail
  refine (smallInstrs_any _).mono ?_
  rintro e w1 ⟨rfl, rfl⟩
  go_wp2_with fail
  have BL : Blk (w.alloc (.cells smallCells 66)) w.heap.size 66 smallCells := Blk.new _ _ _
  generalize hW : w.alloc (.cells smallCells 66) = W at *
  have HW := Lib.hid hW; clear hW
  have HBL := Lib.hid BL; clear BL
  have hlt : w.heap.size < W.heap.size := HBL.out.lt
  go_region_held3 (fun w' => w'.cell? ⟨w.heap.size, a * 4, none⟩ = some (.int .i64 xa.op) ∧ w'.cell? ⟨w.heap.size, a * 4 + 1, none⟩ = some (.int .i64 xa.loc) ∧ w'.cell? ⟨w.heap.size, a * 4 + 2, none⟩ = some (.int .i64 xa.reg) ∧ w'.cell? ⟨w.heap.size, a * 4 + 3, none⟩ = some (.int .i64 xa.val) ∧ w'.cell? ⟨w.heap.size, b * 4, none⟩ = some (.int .i64 xb.op) ∧ w'.cell? ⟨w.heap.size, b * 4 + 1, none⟩ = some (.int .i64 xb.loc) ∧ w'.cell? ⟨w.heap.size, b * 4 + 2, none⟩ = some (.int .i64 xb.reg) ∧ w'.cell? ⟨w.heap.size, b * 4 + 3, none⟩ = some (.int .i64 xb.val) ∧ w'.cell? ⟨w.heap.size, c * 4, none⟩ = some (.int .i64 xc.op) ∧ w'.cell? ⟨w.heap.size, c * 4 + 1, none⟩ = some (.int .i64 xc.loc) ∧ w'.cell? ⟨w.heap.size, c * 4 + 2, none⟩ = some (.int .i64 xc.reg) ∧ w'.cell? ⟨w.heap.size, c * 4 + 3, none⟩ = some (.int .i64 xc.val) ∧ w'.cell? ⟨w.heap.size, d * 4, none⟩ = some (.int .i64 xd.op) ∧ w'.cell? ⟨w.heap.size, d * 4 + 1, none⟩ = some (.int .i64 xd.loc) ∧ w'.cell? ⟨w.heap.size, d * 4 + 2, none⟩ = some (.int .i64 xd.reg) ∧ w'.cell? ⟨w.heap.size, d * 4 + 3, none⟩ = some (.int .i64 xd.val))
    (first | exact KEY.out _ HBL.out | exact KEY.out _ (HBL.out.alloc _) | exact KEY.out _ ((HBL.out.alloc _).alloc _) | exact KEY.out _ (((HBL.out.alloc _).alloc _).alloc _))
    (fail)
  · go_wp2
    go_ret
    have hB : Below w.heap.size w W := by rw [← HW.out]; exact (Below.refl _ _).alloc (Nat.le_refl _) _
    refine ⟨_, rfl, ?_, (((hB.alloc hB.size _).alloc (by simp; omega) _).alloc (by simp; omega) _).drew⟩
    exact OwOw.pairs (g1 := W.heap.size) (g2 := W.heap.size + 1) (((Blk.new W _ _).alloc _).alloc _) (Blk.alloc (g := W.heap.size + 1) (Blk.at_ (by simp)) _) (Blk.at_ (by simp)).drew rfl rfl ⟨rfl, rfl, rfl, rfl⟩ ⟨rfl, rfl, rfl, rfl⟩ ⟨rfl, rfl, rfl, rfl⟩ ⟨rfl, rfl, rfl, rfl⟩ (by simp; omega) (by simp; omega) (by simp; omega) (by omega)
  · go_wp2
    go_ret
    have hB : Below w.heap.size w W := by rw [← HW.out]; exact (Below.refl _ _).alloc (Nat.le_refl _) _
    refine ⟨_, rfl, ?_, (((hB.alloc hB.size _).alloc (by simp; omega) _).alloc (by simp; omega) _).drew⟩
    exact OwOw.pairs (g1 := W.heap.size + 1) (g2 := W.heap.size) (Blk.alloc (g := W.heap.size + 1) (Blk.at_ (by simp)) _) (((Blk.new W _ _).alloc _).alloc _) (Blk.at_ (by simp)).drew rfl rfl ⟨rfl, rfl, rfl, rfl⟩ ⟨rfl, rfl, rfl, rfl⟩ ⟨rfl, rfl, rfl, rfl⟩ ⟨rfl, rfl, rfl, rfl⟩ (by simp; omega) (by simp; omega) (by simp; omega) (by omega)
end Go.Proofs.Ytjjkgemgomfmdaa
