/-
  Contract of spec.TurnLocs. Conditions: the program has at most 1048576 instructions and threads.
-/
import Derived.Test.YtjogdblionfmiaaLocs2
import Derived.Deep.RegionWith
namespace Go.Proofs.Ytjogdblionfmiaa
open Go.ChangeShapes Go.WideShapes Go.ChangeAt Go.RowKit
set_option maxRecDepth 100000

set_option maxHeartbeats 4000000 in
theorem spec_TurnLocs_any {lo hi : Nat} {u : Value} {p : List (List Ins)} {w : World} (i k : Int) (hu : SlSl Ins.cells 4 w lo hi u p) (hhi : hi ≤ w.heap.size) (ht : total p ≤ 1048576) (hp : p.length ≤ 1048576) :
    Calls Try.prog 22 #[u, .int .i64 i, .int .i64 k] w fun e w' => (∃ v, e = .returned (.tuple #[v, .bool (locR p i k).2]) ∧ OwOw Ins.cells 4 78 81 w' w.heap.size w'.heap.size v (locR p i k).1) ∧ Below w.heap.size w w' := by
  have HU := Lib.hid hu; clear hu
  have PV := Lib.hid (spec_ProgramValid_any (w := w) HU.out hhi ht)
  by_cases hv : validB p = true
  · rw [hv] at PV
    by_cases h1 : inB i 2 = true
    · have L1 : Hid ((decide ((0 : Int) ≤ i) && decide (i ≤ 2)) = true) := h1
      by_cases h2 : inB k 2 = true
      · have L2 : Hid ((decide ((0 : Int) ≤ k) && decide (k ≤ 2)) = true) := h2
        have hr : locR p i k = (p.map (List.map (tlocF i k)), true) := by unfold locR; rw [hv, h1, h2]; rfl
        rw [hr]
        clear hr hv h1 h2
        go_enter Try.func22, Try.ntmps22
        go_wp2_with fail
        refine PV.out.mono ?_
        rintro e w1 ⟨rfl, hb1⟩
        go_wp2_with fail
        refine (l1In_any _ _ true L1.out _).mono ?_
        rintro e w2 ⟨rfl, rfl⟩
        go_wp2_with fail
        refine (l1In_any _ _ true L2.out _).mono ?_
        rintro e w2 ⟨rfl, rfl⟩
        have s1 := hb1.size
        go_wp2_with fail
        refine (l1Copy_any (HU.out.below hb1 hhi) (by omega) hp ht).mono ?_
        rintro e w3 ⟨⟨A0, c0, rfl, hM⟩, hb3⟩
        have HM := Lib.hid hM; clear hM
        have s3 := hb3.size
        have TN := Lib.hid (fun x W => l12Turn_any x i k W)
        have HF1 : Hid (∀ x : Ins, x.op = 4 → tlocF i k x = x) := fun x hx => by unfold tlocF; rw [if_pos hx]
        have HF2 : Hid (∀ x : Ins, ¬ x.op = 4 → tlocF i k x = ⟨x.op, turnI x.loc i k, x.reg, x.val⟩) := fun x hx => by unfold tlocF; rw [if_neg hx]
        obtain ⟨f, hf⟩ : ∃ f, tlocF i k = f := ⟨_, rfl⟩
        have HFE := Lib.hid hf
        rw [hf] at HF1 HF2
        clear hf
        go_wp2_with fail
        go_loopw [9] (fun iv wr => ∃ k : Nat, k ≤ p.length ∧ iv = .int .i64 k ∧ Below w.heap.size w wr ∧ w3.heap.size ≤ wr.heap.size ∧
            OwOw Ins.cells 4 78 81 wr w1.heap.size w3.heap.size (.slice A0 p.length c0) (rowsMap f k p)) (fun iv _ => p.length - (intOf iv).toNat)
        case atStart => exact ⟨0, Nat.zero_le _, rfl, hb1.trans (hb3.mono s1), Nat.le_refl _, by rw [rowsMap_zero]; exact HM.out⟩
        case round =>
          obtain ⟨q, hq, rfl, hb, hs, hO⟩ := hrel
          by_cases hlt : q < p.length
          · have HO := Lib.hid hO; clear hO
            have i1 : (0 : Int) ≤ (q : Int) := by omega
            have i2 : (q : Int) < (p.length : Int) := by omega
            have hrl : p[q].length ≤ 1048576 := Nat.le_trans (row_le_total p q hlt) ht
            obtain ⟨wo, rfl⟩ : ∃ wo : World, wo = wr := ⟨_, rfl⟩
            go_wp2_with fail
            go_loopw [10] (fun iv w2 => ∃ n : Nat, n ≤ p[q].length ∧ iv = .int .i64 n ∧ Below w.heap.size w w2 ∧ w3.heap.size ≤ w2.heap.size ∧
                OwOw Ins.cells 4 78 81 w2 w1.heap.size w3.heap.size (.slice A0 p.length c0) ((rowsMap f q p).set q (preMap f n p[q]))) (fun iv _ => p[q].length - (intOf iv).toNat)
            case atStart => exact ⟨0, Nat.zero_le _, rfl, hb, hs, by rw [preMap_zero, set_same _ _ _ (rowsMap_at q p hlt)]; exact HO.out⟩
            case round =>
              obtain ⟨n, hn, rfl, hb2, hs2, hO2⟩ := hrel
              have hget : ((rowsMap f q p).set q (preMap f n p[q]))[q]? = some (preMap f n p[q]) := by
                rw [List.getElem?_set_self (by rw [rowsMap_length]; exact hlt)]
              by_cases hln : n < p[q].length
              · obtain ⟨go', co', gt, ct', cur, he, _, _, _, hgg, hg1, hg2, hcl, hBt, hsz, hct, hhas, hset⟩ := hO2.openRow2 (by decide) q _ hget (by rw [preMap_length]; omega)
                rw [preMap_length] at hcl hct
                injection he with he1 he2 he3
                subst he1 he3
                clear he2
                have hx := hhas n (by rw [preMap_length]; exact hln)
                rw [preMap_get _ _ _ _ hln, if_neg (by omega)] at hx
                obtain ⟨d1, d2, d3, d4⟩ := hBt.ins hx
                have hgt := hBt.lt
                have FZ := hBt.frozen (n * 4 + 1)
                have HBT := Lib.hid hBt; clear hBt
                have HSET := Lib.hid hset; clear hset
                have HHAS := Lib.hid hhas; clear hhas
                have HX := Lib.hid hx; clear hx
                have HSZ := Lib.hid hsz; clear hsz
                have HO2 := Lib.hid hO2; clear hO2
                clear hget
                have j1 : (0 : Int) ≤ (n : Int) := by omega
                have j2 : (n : Int) < (p[q].length : Int) := by omega
                go_wp2_with fail
                · have hne : ¬ p[q][n].op = 4 := by simpa using ‹(p[q][n].op != 4) = true›
                  go_region_with (go_at_call 79; refine (TN.out _ _).mono ?_; rintro e w5 ⟨rfl, rfl⟩)
                  all_goals
                    go_wp2_with fail
                    go_roundw
                    case rel =>
                      have hfr : ∀ b, b < wr.heap.size → b ≠ gt → (wr.setCell ⟨gt, n * 4 + 1, none⟩ (.int .i64 (turnI p[q][n].loc i k))).drew.heap[b]? = wr.heap[b]? := by
                        intro b hb hbn
                        rw [heap_drew, Below.heap_setCell _ _ _ _ (by exact hbn)]
                      have hO3 := HSET.out _ _ (preMap f (n + 1) p[q]) hfr ((HBT.out.set_ (n * 4 + 1) _).drew) (by simp) (by rw [preMap_length, preMap_length]) (loc_step HHAS.out hln (by have := HSZ.out; omega) (HF2.out _ hne))
                      rw [List.set_set] at hO3
                      exact ⟨n + 1, by omega, by go_num, (hb2.setCell (by simp; omega) _).drew, by rw [heap_drew]; simp [World.setCell]; omega, hO3⟩
                    case measure => simp [intOf]; omega
                · have hne : p[q][n].op = 4 := by simpa using ‹(p[q][n].op != 4) = false›
                  go_roundw
                  case rel =>
                    have hO3 := HO2.out
                    rw [← loc_keep hln (HF1.out _ hne)] at hO3
                    exact ⟨n + 1, by omega, by go_num, hb2, hs2, hO3⟩
                  case measure => simp [intOf]; omega
              · have hnx : n = p[q].length := by omega
                obtain ⟨go', co', ct', At, he, _, _, _, hcl⟩ := hO2.hdr q _ hget
                rw [preMap_length] at hcl
                injection he with he1 he2 he3
                subst he1 he3
                clear he2
                go_wp2_with fail
                go_roundw
                case rel =>
                  refine ⟨q + 1, by omega, by go_num, hb2, hs2, ?_⟩
                  rw [← rowsMap_succ q p hlt, ← preMap_all (n := n) p[q] (by omega)]
                  exact hO2
                case measure => simp [intOf]; omega
          · have hqx : q = p.length := by omega
            go_wp2_with fail
            go_ret2
            rw [rowsMap_all p (by omega), ← HFE.out] at hO
            exact ⟨⟨_, rfl, hO.mono s1 hs⟩, hb⟩
      · have h2' : inB k 2 = false := by simpa using h2
        have L2 : Hid ((decide ((0 : Int) ≤ k) && decide (k ≤ 2)) = false) := h2'
        have hr : locR p i k = ([], false) := by unfold locR; rw [h2']; simp
        rw [hr]
        clear hr hv h1 h2 h2'
        go_enter Try.func22, Try.ntmps22
        go_wp2_with fail
        refine PV.out.mono ?_
        rintro e w1 ⟨rfl, hb1⟩
        go_wp2_with fail
        refine (l1In_any _ _ true L1.out _).mono ?_
        rintro e w2 ⟨rfl, rfl⟩
        go_wp2_with fail
        refine (l1In_any _ _ false L2.out _).mono ?_
        rintro e w2 ⟨rfl, rfl⟩
        go_wp2_with fail
        go_ret2
        exact ⟨⟨_, rfl, OwOw.nil_ _ _ (by omega)⟩, hb1.alloc hb1.size _⟩
    · have h1' : inB i 2 = false := by simpa using h1
      have L1 : Hid ((decide ((0 : Int) ≤ i) && decide (i ≤ 2)) = false) := h1'
      have hr : locR p i k = ([], false) := by unfold locR; rw [h1']; simp
      rw [hr]
      clear hr hv h1 h1'
      go_enter Try.func22, Try.ntmps22
      go_wp2_with fail
      refine PV.out.mono ?_
      rintro e w1 ⟨rfl, hb1⟩
      go_wp2_with fail
      refine (l1In_any _ _ false L1.out _).mono ?_
      rintro e w2 ⟨rfl, rfl⟩
      go_wp2_with fail
      go_ret2
      exact ⟨⟨_, rfl, OwOw.nil_ _ _ (by omega)⟩, hb1.alloc hb1.size _⟩
  · have hv' : validB p = false := by simpa using hv
    rw [hv'] at PV
    have hr : locR p i k = ([], false) := by unfold locR; rw [hv']; rfl
    rw [hr]
    clear hr hv hv'
    go_enter Try.func22, Try.ntmps22
    go_wp2_with fail
    refine PV.out.mono ?_
    rintro e w1 ⟨rfl, hb1⟩
    go_wp2_with fail
    go_ret2
    exact ⟨⟨_, rfl, OwOw.nil_ _ _ (by omega)⟩, hb1.alloc hb1.size _⟩
end Go.Proofs.Ytjogdblionfmiaa
