/-
  Contract of impl.ReorderInstr. Conditions: the program has at most 1048576 instructions and threads.
-/
import Derived.Test.YtjogdblionfmiaaReorder
namespace Go.Proofs.Ytjogdblionfmiaa
open Go.ChangeShapes Go.WideShapes Go.ChangeAt Go.RowKit
set_option maxRecDepth 100000

def swapRow (xs : List Ins) (i : Nat) : List Ins := (xs.set i (xs.getD (i + 1) default)).set (i + 1) (xs.getD i default)
def swapP (p : List (List Ins)) (t i : Nat) : List (List Ins) := p.set t (swapRow (p.getD t []) i)
def reordR (p : List (List Ins)) (t i : Int) : List (List Ins) × Bool := if nbB p t i = true then (swapP p t.toNat i.toNat, true) else ([], false)
theorem swapRow_length (xs : List Ins) (i : Nat) : (swapRow xs i).length = xs.length := by simp [swapRow]
theorem swapRow_fst (xs : List Ins) (b : Nat) (hb : b + 1 < xs.length) (h : b < (swapRow xs b).length) : (swapRow xs b)[b] = xs[b + 1] := by simp [swapRow, hb]
theorem swapRow_snd (xs : List Ins) (b : Nat) (hb : b + 1 < xs.length) (h : b + 1 < (swapRow xs b).length) : (swapRow xs b)[b + 1] = xs[b] := by simp [swapRow, show b < xs.length by omega]
theorem swapRow_far (xs : List Ins) (b k : Nat) (h : k < (swapRow xs b).length) (h' : k < xs.length) (h1 : k ≠ b) (h2 : k ≠ b + 1) : (swapRow xs b)[k] = xs[k] := by simp [swapRow, Ne.symm h1, Ne.symm h2]
theorem nbB_open {p : List (List Ins)} {t i : Int} (h : nbB p t i = true) : ∃ (a b : Nat) (ha : a < p.length), t = a ∧ i = b ∧ b + 1 < p[a].length := by
  simp only [nbB, thrB, inB, Bool.and_eq_true, decide_eq_true_eq] at h
  obtain ⟨⟨_, h1, h2⟩, h3, h4⟩ := h
  obtain ⟨a, rfl⟩ := Int.eq_ofNat_of_zero_le h1
  obtain ⟨b, rfl⟩ := Int.eq_ofNat_of_zero_le h3
  have ha : a < p.length := by omega
  simp only [Int.toNat_natCast] at h4
  rw [row_getD p a ha] at h4
  exact ⟨a, b, ha, rfl, rfl, by omega⟩

set_option maxHeartbeats 1000000 in
theorem impl_ReorderInstr_any {lo hi : Nat} {u : Value} {p : List (List Ins)} {w : World} (t i : Int) (hu : SlSl Ins.cells 4 w lo hi u p) (hhi : hi ≤ w.heap.size) (ht : total p ≤ 1048576) (hp : p.length ≤ 1048576) :
    Calls Try.prog 17 #[u, .int .i64 t, .int .i64 i] w fun e w' => (∃ v, e = .returned (.tuple #[v, .bool (reordR p t i).2]) ∧ OwOw Ins.cells 4 78 81 w' w.heap.size w'.heap.size v (reordR p t i).1) ∧ Below w.heap.size w w' := by
  have HU := Lib.hid hu; clear hu
  by_cases h1 : nbB p t i = true
  · obtain ⟨a, b, ha, rfl, rfl, hab⟩ := nbB_open h1
    have hr : reordR p a b = (swapP p a b, true) := by unfold reordR; rw [h1]; rfl
    rw [hr]
    have AN := Lib.hid (areNeighbors_any (w := w) a b true HU.out hhi ht hp h1)
    clear h1 hr
    have hrl : p[a].length ≤ 1048576 := Nat.le_trans (row_le_total p a ha) ht
    go_enter Try.func17, Try.ntmps17
    go_wp2_with fail
    refine AN.out.mono ?_
    rintro e w1 ⟨rfl, hb1⟩
    have s1 := hb1.size
    go_wp2_with fail
    refine (cloneProgram_any (HU.out.below hb1 hhi) (by omega) hp ht).mono ?_
    rintro e w3 ⟨⟨g, cs, V, rfl, hB, hg, hcs, hrow, hsep⟩, hb3⟩
    have hM := OwOw.made2 (f := Ins.cells) (s := 4) (ti := 81) (p := p) (c := p.length) hB (lo := w1.heap.size) (hi := w3.heap.size) ⟨hg, hB.lt⟩ hcs (Nat.le_refl _) (by omega) hrow hsep
    obtain ⟨go, co, gt, ct, cur, he, hl1, hl2, hl3, hgg, hg1, hg2, hcell, hBt, hsz, hct, hhas, hset⟩ := hM.openRow (by decide) a ha (by omega)
    injection he with he1 he2 he3
    injection he1 with he1
    injection he1 with he1
    subst he1 he3
    have HSET := Lib.hid hset; clear hset
    have HROW := Lib.hid hrow; clear hrow
    have HSEP := Lib.hid hsep; clear hsep
    have HM := Lib.hid hM; clear hM
    have hx := hhas b (by omega)
    have hy := hhas (b + 1) hab
    generalize hxx : p[a][b] = x at *
    generalize hyy : p[a][b + 1] = y at *
    have HXX := Lib.hid hxx; clear hxx
    have HYY := Lib.hid hyy; clear hyy
    have IX := hBt.ins hx
    have IY := hBt.ins hy
    obtain ⟨x0, x1, x2, x3⟩ := IX
    obtain ⟨y0, y1, y2, y3⟩ := IY
    have HHAS := Lib.hid hhas; clear hhas
    have HX := Lib.hid hx; clear hx
    have HY := Lib.hid hy; clear hy
    have FZ := fun k => hBt.frozen k
    have HBT := Lib.hid hBt; clear hBt
    have HB := Lib.hid hB; clear hB
    have HCS := Lib.hid hcs; clear hcs
    have HSZ := Lib.hid hsz; clear hsz
    have i1 : (0 : Int) ≤ (a : Int) := by omega
    have i2 : (a : Int) < (p.length : Int) := by omega
    have i3 : (0 : Int) ≤ (b : Int) := by omega
    have i4 : (b : Int) < (p[a].length : Int) := by omega
    have i5 : (0 : Int) ≤ (b : Int) + 1 := by omega
    have i6 : (b : Int) + 1 < (p[a].length : Int) := by omega
    go_wp2_with fail
    go_region
    go_wp2_with fail
    go_ret2
    have g2 : Below w.heap.size w w3 := hb1.trans (hb3.mono s1)
    have hF : OwOw Ins.cells 4 78 81 (setInsW2 w3 gt (b * 4) ((b + 1) * 4) y x) w1.heap.size w3.heap.size (.slice (some ⟨g, 0, none⟩) p.length p.length) (p.set a (swapRow p[a] b)) := by
      refine HSET.out _ (setIns (setIns cur (b * 4) y) ((b + 1) * 4) x) _ (fun k hk => heap_setInsW2 _ _ _ _ _ _ k hk) (HBT.out.setInsW2 y x) (by rw [size_setIns, size_setIns]) (swapRow_length _ _) ?_
      rw [← HXX.out, ← HYY.out]
      exact swapRow_at hab (by rw [HSZ.out]; omega) HHAS.out _ (swapRow_length _ _) (fun h => swapRow_fst _ _ hab h) (fun h => swapRow_snd _ _ hab h) (fun k h h' h1 h2 => swapRow_far _ _ _ h h' h1 h2)
    have hfin := hF.mono s1 (Nat.le_of_eq (size_setInsW2 w3 gt (b * 4) ((b + 1) * 4) y x).symm)
    have hbel := below_setInsW2 (o1 := b * 4) (o2 := (b + 1) * 4) g2 (show w.heap.size ≤ gt by omega) y x
    unfold swapP
    rw [row_getD p a ha]
    unfold setInsW2 setInsW at hfin hbel
    exact ⟨⟨_, rfl, hfin⟩, hbel⟩
  · have hr : reordR p t i = ([], false) := by unfold reordR; simp [h1]
    rw [hr]
    have h1' : nbB p t i = false := by simpa using h1
    have AN := Lib.hid (areNeighbors_any (w := w) t i false HU.out hhi ht hp h1')
    clear h1 h1' hr
    go_enter Try.func17, Try.ntmps17
    go_wp2_with fail
    refine AN.out.mono ?_
    rintro e w1 ⟨rfl, hb1⟩
    go_wp2_with fail
    go_ret2
    exact ⟨⟨_, rfl, OwOw.nil_ _ _ (by omega)⟩, hb1⟩
end Go.Proofs.Ytjogdblionfmiaa
