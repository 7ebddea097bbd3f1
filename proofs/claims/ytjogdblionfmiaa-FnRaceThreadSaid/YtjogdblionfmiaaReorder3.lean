/-
  Contract of spec.ReorderInstr. Conditions: the program has at most 1048576 instructions and threads.
-/
import Derived.Test.YtjogdblionfmiaaReorder2
namespace Go.Proofs.Ytjogdblionfmiaa
open Go.ChangeShapes Go.WideShapes Go.ChangeAt Go.RowKit
set_option maxRecDepth 100000

theorem thr_cases (p : List (List Ins)) (t : Int) : (validB p = false ∧ thrB p t = false) ∨ (validB p = true ∧ inB t ((p.length : Int) - 1) = false ∧ thrB p t = false) ∨ (validB p = true ∧ inB t ((p.length : Int) - 1) = true ∧ thrB p t = true ∧ ∃ a : Nat, t = a ∧ a < p.length) := by
  unfold thrB
  cases h : validB p with
  | false => exact .inl ⟨rfl, rfl⟩
  | true =>
    cases h2 : inB t ((p.length : Int) - 1) with
    | false => exact .inr (.inl ⟨rfl, rfl, rfl⟩)
    | true =>
      refine .inr (.inr ⟨rfl, rfl, rfl, ?_⟩)
      simp only [inB, Bool.and_eq_true, decide_eq_true_eq] at h2
      obtain ⟨a, rfl⟩ := Int.eq_ofNat_of_zero_le h2.1
      exact ⟨a, rfl, by omega⟩

set_option maxHeartbeats 2000000 in
theorem spec_ReorderInstr_any {lo hi : Nat} {u : Value} {p : List (List Ins)} {w : World} (t i : Int) (hu : SlSl Ins.cells 4 w lo hi u p) (hhi : hi ≤ w.heap.size) (ht : total p ≤ 1048576) (hp : p.length ≤ 1048576) :
    Calls Try.prog 18 #[u, .int .i64 t, .int .i64 i] w fun e w' => (∃ v, e = .returned (.tuple #[v, .bool (reordR p t i).2]) ∧ OwOw Ins.cells 4 78 81 w' w.heap.size w'.heap.size v (reordR p t i).1) ∧ Below w.heap.size w w' := by
  have HU := Lib.hid hu
  obtain ⟨xs, hxs, hxl, hxr⟩ := hu
  obtain ⟨A, ca, rfl, hca, hma, hA⟩ := hxs.vals
  clear hxs hma
  have HX := Lib.hid hxl
  have hxle : xs.length ≤ 1048576 := by omega
  clear hxl
  have HXR := Lib.hid hxr; clear hxr
  have HAA := Lib.hid hA; clear hA
  have PV := Lib.hid (spec_ProgramValid_any (w := w) HU.out hhi ht)
  have hl1 : (decide (0 ≤ t) && decide (t ≤ (xs.length : Int) - 1)) = inB t ((p.length : Int) - 1) := by rw [HX.out]; rfl
  rcases thr_cases p t with ⟨hv, h1⟩ | ⟨hv, h2, h1⟩ | ⟨hv, h2, h1, a, rfl, ha⟩
  · have hr : reordR p t i = ([], false) := by unfold reordR nbB; rw [h1]; rfl
    rw [hr]
    rw [hv] at PV
    clear hv hr h1 hl1
    go_enter Try.func18, Try.ntmps18
    go_wp2_with fail
    refine PV.out.mono ?_
    rintro e w1 ⟨rfl, hb1⟩
    go_wp2_with fail
    go_ret2
    exact ⟨⟨_, rfl, OwOw.nil_ _ _ (by omega)⟩, hb1.alloc hb1.size _⟩
  · have hr : reordR p t i = ([], false) := by unfold reordR nbB; rw [h1]; rfl
    rw [hr]
    rw [hv] at PV
    rw [h2] at hl1
    have L1 := Lib.hid hl1
    clear hv hr h1 h2 hl1
    go_enter Try.func18, Try.ntmps18
    go_wp2_with fail
    refine PV.out.mono ?_
    rintro e w1 ⟨rfl, hb1⟩
    go_wp2_with fail
    refine (l1In_any _ _ false L1.out _).mono ?_
    rintro e w2 ⟨rfl, rfl⟩
    go_wp2_with fail
    go_ret2
    exact ⟨⟨_, rfl, OwOw.nil_ _ _ (by omega)⟩, hb1.alloc hb1.size _⟩
  · rw [hv] at PV
    rw [h2] at hl1
    have L1 := Lib.hid hl1
    have H1 := Lib.hid h1
    clear hv h1 h2 hl1
    have hax : a < xs.length := by rw [HX.out]; exact ha
    obtain ⟨ba, oa, rfl, _, _, hba, hA⟩ := HAA.out (by omega)
    have ca1 := hA a hax
    obtain ⟨Ak, ck, hk1, hck, hmk, hAk⟩ := (HXR.out a hax ha).inss
    rw [hk1] at ca1
    clear hA hk1
    have HAK := Lib.hid hAk; clear hAk
    have hr : p[a].length ≤ 1048576 := Nat.le_trans (row_le_total p a ha) ht
    have a0 : (0 : Int) ≤ (a : Int) := by omega
    have a1 : (a : Int) < (xs.length : Int) := by omega
    have a2 : (a : Int) < (p.length : Int) := by omega
    by_cases c1 : i < 0
    · have hr : reordR p a i = ([], false) := by
        unfold reordR nbB
        rw [H1.out, if_neg (by simp [inB]; omega)]
      rw [hr]
      clear hr
      go_enter Try.func18, Try.ntmps18
      go_wp2_with fail
      refine PV.out.mono ?_
      rintro e w1 ⟨rfl, hb1⟩
      go_wp2_with fail
      refine (l1In_any _ _ true L1.out _).mono ?_
      rintro e w2 ⟨rfl, rfl⟩
      have cb1 := (hb1.cell (p := ⟨ba, oa + a, none⟩) hba).trans ca1
      have s1 := hb1.size
      go_wp2_with fail
      go_ret2
      exact ⟨⟨_, rfl, OwOw.nil_ _ _ (by omega)⟩, hb1.alloc hb1.size _⟩
    · obtain ⟨b, rfl⟩ := Int.eq_ofNat_of_zero_le (show 0 ≤ i by omega)
      by_cases c2 : (b : Int) ≥ (p[a].length : Int) - 1
      · have hr : reordR p a b = ([], false) := by
          unfold reordR nbB
          simp only [Int.toNat_natCast]
          rw [H1.out, row_getD p a ha, if_neg (by simp [inB]; omega)]
        rw [hr]
        clear hr
        go_enter Try.func18, Try.ntmps18
        go_wp2_with fail
        refine PV.out.mono ?_
        rintro e w1 ⟨rfl, hb1⟩
        go_wp2_with fail
        refine (l1In_any _ _ true L1.out _).mono ?_
        rintro e w2 ⟨rfl, rfl⟩
        have cb1 := (hb1.cell (p := ⟨ba, oa + a, none⟩) hba).trans ca1
        have s1 := hb1.size
        go_wp2_with fail
        go_ret2
        exact ⟨⟨_, rfl, OwOw.nil_ _ _ (by omega)⟩, hb1.alloc hb1.size _⟩
      · have hnb : nbB p a b = true := by
          unfold nbB
          simp only [Int.toNat_natCast]
          rw [H1.out, row_getD p a ha]
          simp [inB]
          omega
        have hr : reordR p a b = (swapP p a b, true) := by unfold reordR; rw [hnb]; rfl
        rw [hr]
        clear hr hnb
        go_enter Try.func18, Try.ntmps18
        go_wp2_with fail
        refine PV.out.mono ?_
        rintro e w1 ⟨rfl, hb1⟩
        go_wp2_with fail
        refine (l1In_any _ _ true L1.out _).mono ?_
        rintro e w2 ⟨rfl, rfl⟩
        have cb1 := (hb1.cell (p := ⟨ba, oa + a, none⟩) hba).trans ca1
        have s1 := hb1.size
        have hab : b + 1 < p[a].length := by omega
        go_wp2_with fail
        refine (l1Copy_any (HU.out.below hb1 hhi) (by omega) hp ht).mono ?_
        rintro e w3 ⟨⟨A0, c0, rfl, hM⟩, hb3⟩
        obtain ⟨go, co, gt, ct, cur, he, hl1, hl2, hl3, hgg, hg1, hg2, hcell, hBt, hsz, hct, hhas, hset⟩ := hM.openRow (by decide) a ha (by omega)
        injection he with he1 he2 he3
        subst he1 he3
        have HSET := Lib.hid hset; clear hset
        have HM := Lib.hid hM; clear hM
        have s3 := hb3.size
        obtain ⟨bp, op, rfl, _, _, hbp, hAp⟩ := HAK.out (by omega)
        have hx := hAp b (by omega)
        have hy := hAp (b + 1) hab
        clear hAp
        generalize hxx : p[a][b] = x at *
        generalize hyy : p[a][b + 1] = y at *
        have HXX := Lib.hid hxx; clear hxx
        have HYY := Lib.hid hyy; clear hyy
        have hb13 := hb1.trans (hb3.mono s1)
        have hx3 := hx.below hb13 hbp
        have hy3 := hy.below hb13 hbp
        have IX := Lib.hid hx; clear hx
        have HX3 := Lib.hid hx3; clear hx3
        obtain ⟨y0, y1, y2, y3⟩ := hy3
        clear hy
        have cc1 := (hb3.cell (p := ⟨ba, oa + a, none⟩) (by simp; omega)).trans cb1
        clear cb1 ca1
        have T1 := hBt.ins (hhas b (by omega))
        rw [HXX.out] at T1
        obtain ⟨z0, z1, z2, z3⟩ := T1
        have hHY : HasIns cur ((b + 1) * 4) y := by rw [← HYY.out]; exact hhas (b + 1) hab
        have HHAS := Lib.hid hhas; clear hhas
        have FZ := fun k => hBt.frozen k
        have HBT := Lib.hid hBt; clear hBt
        have HSZ := Lib.hid hsz; clear hsz
        have d1 : bp ≠ gt := by omega
        have d2 : ba ≠ gt := by omega
        have i3 : (0 : Int) ≤ (b : Int) := by omega
        have i4 : (b : Int) < (p[a].length : Int) := by omega
        have i5 : (0 : Int) ≤ (b : Int) + 1 := by omega
        have i6 : (b : Int) + 1 < (p[a].length : Int) := by omega
        go_wp2_with fail
        go_region
        obtain ⟨w4, hw4⟩ : ∃ w4, w4 = (setInsW w3 gt (b * 4) y).drew := ⟨_, rfl⟩
        have B4 : Blk w4 gt 81 (setIns cur (b * 4) y) := by rw [hw4]; exact (HBT.out.setInsW y).drew
        have L4 : Below w1.heap.size w3 w4 := by rw [hw4]; exact (below_setInsW ((Below.refl _ _).mono s3) hg1 y).drew
        have cd1 := (L4.cell (p := ⟨ba, oa + a, none⟩) (by simp; omega)).trans cc1
        have X4 := HX3.out.below L4 (by omega)
        have hcell4 : w4.cell? ⟨go, a, none⟩ = some (.slice (some ⟨gt, 0, none⟩) p[a].length ct) := by
          rw [← hcell]
          refine World.cell?_of_block ?_
          rw [hw4, heap_drew]
          exact heap_setInsW _ _ _ _ _ hgg
        have T2' : InsAt w4 gt ((b + 1) * 4) y := B4.ins ((hHY).far (by omega))
        have FZ4 := fun k => B4.frozen k
        have HB4 := Lib.hid B4; clear B4
        have HL4 := Lib.hid L4; clear L4
        have HW4 := Lib.hid hw4
        unfold setInsW at hw4
        rw [← hw4]
        clear hw4 FZ cc1 hcell y0 y1 y2 y3 z0 z1 z2 z3
        obtain ⟨v0, v1, v2, v3⟩ := X4
        obtain ⟨z0, z1, z2, z3⟩ := T2'
        go_wp2_with fail
        go_region
        go_wp2_with fail
        go_ret2
        have hB5 : Blk (setInsW w4 gt ((b + 1) * 4) x).drew gt 81 (setIns (setIns cur (b * 4) y) ((b + 1) * 4) x) := (HB4.out.setInsW x).drew
        have hfr : ∀ k, k ≠ gt → (setInsW w4 gt ((b + 1) * 4) x).drew.heap[k]? = w3.heap[k]? := by
          intro k hk
          rw [heap_drew, heap_setInsW _ _ _ _ _ hk, HW4.out, heap_drew, heap_setInsW _ _ _ _ _ hk]
        have hsz : (setInsW w4 gt ((b + 1) * 4) x).drew.heap.size = w3.heap.size := by rw [heap_drew, size_setInsW, HW4.out, heap_drew, size_setInsW]
        have hF := HSET.out _ _ (swapRow p[a] b) hfr hB5 (by rw [size_setIns, size_setIns]) (swapRow_length _ _) (by
          rw [← HXX.out, ← HYY.out]
          exact swapRow_at hab (by rw [HSZ.out]; omega) HHAS.out _ (swapRow_length _ _) (fun h => swapRow_fst _ _ hab h) (fun h => swapRow_snd _ _ hab h) (fun k h h' h1 h2 => swapRow_far _ _ _ h h' h1 h2))
        have hfin := hF.mono s1 (Nat.le_of_eq hsz.symm)
        have hbel := (below_setInsW (o := (b + 1) * 4) (hb13.trans (HL4.out.mono s1)) (show w.heap.size ≤ gt by omega) x).drew
        unfold swapP
        rw [row_getD p a ha]
        unfold setInsW at hfin hbel
        exact ⟨⟨_, rfl, hfin⟩, hbel⟩
end Go.Proofs.Ytjogdblionfmiaa
