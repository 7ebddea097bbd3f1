/-
  Contract of impl.ProgramValid: it reports 'validB'. Conditions: the program has at most 1048576 instructions.
-/
import Derived.Test.YtjjkgemgomfmdaaPValid
namespace Go.Proofs.Ytjjkgemgomfmdaa
open Go.ChangeShapes Go.WideShapes Go.ChangeAt Go.RowKit
set_option maxRecDepth 100000

theorem validB_bad {p : List (List Ins)} (k : Nat) (h : k < p.length) (hb : rowOk p[k] = false) : validB p = false := by
  simp [validB, shapeB_bad k h hb]
set_option maxHeartbeats 1000000 in
theorem impl_ProgramValid_any {lo hi : Nat} {u : Value} {p : List (List Ins)} {w : World} (hu : SlSl Ins.cells 4 w lo hi u p) (hhi : hi ≤ w.heap.size) (ht : total p ≤ 1048576) :
    Calls Try.prog 28 #[u] w fun e w' => e = .returned (.bool (validB p)) ∧ Below w.heap.size w w' := by
  have HU := Lib.hid hu
  obtain ⟨xs, hxs, hxl, hxr⟩ := hu
  obtain ⟨A, ca, rfl, hca, hma, hA⟩ := hxs.vals
  clear hxs
  have HX := Lib.hid hxl; clear hxl
  have HXR := Lib.hid hxr; clear hxr
  have HAA := Lib.hid hA; clear hA
  by_cases h3 : 1 ≤ xs.length ∧ xs.length ≤ 3
  · obtain ⟨h1, h3⟩ := h3
    go_enter Try.func28, Try.ntmps28
    go_wp2_with (go_at_call 50; refine (within_any _ _ _ true (by simp; omega) _).mono ?_; rintro e w1 ⟨rfl, rfl⟩)
    go_loopw [3, 14] (fun n i wr => ∃ k : Nat, k ≤ xs.length ∧ i = .int .i64 k ∧ n = .int .i64 (cntP notF (p.take k)) ∧ (∀ q (h : q < p.length), q < k → rowOk p[q] = true) ∧ Below w.heap.size w wr) (fun _ i _ => xs.length - (intOf i).toNat)
    case atStart => exact ⟨0, Nat.zero_le _, rfl, rfl, fun q _ h => absurd h (by omega), Below.refl _ _⟩
    case round =>
      obtain ⟨k, hk, rfl, rfl, hgood, hb⟩ := hrel
      have HG := Lib.hid hgood; clear hgood
      by_cases hlt : k < xs.length
      · obtain ⟨ba, oa, rfl, _, _, hba, hA⟩ := HAA.out (by omega)
        have hp : k < p.length := HX.out ▸ hlt
        obtain ⟨Ak, ck, hk1, hk2, hk3, hrow⟩ := (HXR.out k hlt hp).inss
        have HROW := Lib.hid hrow; clear hrow
        have ca0 := hA k hlt
        rw [hk1] at ca0
        have c00 := (hb.cell (p := ⟨ba, oa + k, none⟩) hba).trans ca0
        clear hA hk1 ca0
        have i1 : (0 : Int) ≤ (k : Int) := by omega
        have i2 : (k : Int) < (xs.length : Int) := by omega
        have HT := Lib.hid (cntP_take_succ notF p k hp)
        have HPL := Lib.hid (fun j => cntP_part_le notF p k j hp)
        obtain ⟨wo, rfl⟩ : ∃ wo : World, wo = wr := ⟨_, rfl⟩
        go_wp2_with fail
        clear c00
        go_loopw [3, 20] (fun n i w2 => ∃ j : Nat, j ≤ p[k].length ∧ i = .int .i64 j ∧ n = .int .i64 (cntP notF (p.take k) + (p[k].take j).countP notF : Nat) ∧ (∀ q (h : q < p[k].length), q < j → insOk p[k][q] = true) ∧ Below w.heap.size w w2) (fun _ i _ => p[k].length - (intOf i).toNat)
        case atStart => exact ⟨0, Nat.zero_le _, rfl, by simp, fun q _ h => absurd h (by omega), hb⟩
        case round =>
          obtain ⟨j, hj, rfl, rfl, hgj, hb2⟩ := hrel
          have HGJ := Lib.hid hgj; clear hgj
          have hsm : cntP notF (p.take k) + (p[k].take j).countP notF ≤ 1048576 := Nat.le_trans (HPL.out j) ht
          by_cases hlj : j < p[k].length
          · obtain ⟨bb, ob, rfl, _, _, hbb, hB⟩ := HROW.out (by omega)
            obtain ⟨d1, d2, d3, d4⟩ := (hB j hlj).below hb2 hbb
            have HS := Lib.hid (countP_take_succ notF p[k] j hlj)
            have j1 : (0 : Int) ≤ (j : Int) := by omega
            have j2 : (j : Int) < (p[k].length : Int) := by omega
            clear hB
            go_wp2_with fail
            refine (impl_InstrValid_any p[k][j] _).mono ?_
            rintro e w3 ⟨rfl, hq⟩
            have z0 := hq.cell (p := ⟨wr.heap.size, 0, none⟩) (by simp)
            have hb3 := (hb2.alloc hb2.size (.cells #[.int .i64 p[k][j].op, .int .i64 p[k][j].loc, .int .i64 p[k][j].reg, .int .i64 p[k][j].val] 66)).trans (hq.mono (by simp; have := hb2.size; omega))
            by_cases hok : insOk p[k][j] = true
            · go_wp2_with fail
              all_goals
                have h := HS.out
                first
                  | (have ef : notF p[k][j] = true := by simpa [notF] using ‹(p[k][j].op != 4) = true›
                     rw [if_pos ef] at h)
                  | (have ef : ¬ notF p[k][j] = true := by simpa [notF] using ‹(p[k][j].op != 4) = false›
                     rw [if_neg ef] at h)
                go_roundw
                case rel =>
                  refine ⟨j + 1, by omega, by go_num, congrArg (Value.int .i64) (by omega), fun q hq hqj => ?_, hb3⟩
                  by_cases e : q = j
                  · subst e; exact hok
                  · exact HGJ.out q hq (by omega)
                case measure => simp [intOf]; omega
            · have hok' : insOk p[k][j] = false := by simpa using hok
              have hbad := validB_bad k hp (rowOk_bad j hlj hok')
              have HBAD := Lib.hid hbad
              clear hok hbad
              go_wp2_with fail
              go_ret
              exact ⟨ret_bool (by rw [HBAD.out]), hb3⟩
          · have hjx : p[k].take j = p[k] := List.take_of_length_le (by omega)
            have HJ := Lib.hid hjx; clear hjx
            by_cases h7 : p[k].length ≤ 7
            · have h7' : ¬ (7 : Int) < (p[k].length : Int) := by omega
              have hrk : rowOk p[k] = true := rowOk_good h7 (fun q hq => HGJ.out q hq (by omega))
              have HRK := Lib.hid hrk; clear hrk
              go_wp2_with fail
              go_roundw
              case rel =>
                refine ⟨k + 1, by omega, by go_num, congrArg (Value.int .i64) (by rw [HJ.out, HT.out]), fun q hq hqk => ?_, hb2⟩
                by_cases e : q = k
                · subst e; exact HRK.out
                · exact HG.out q hq (by omega)
              case measure => simp [intOf]; omega
            · have h7' : (7 : Int) < (p[k].length : Int) := by omega
              have HBAD := Lib.hid (validB_bad k hp (rowOk_long (by omega)))
              clear h7
              go_wp2_with fail
              go_ret
              exact ⟨ret_bool (by rw [HBAD.out]), hb2⟩
      · have hkx : p.take k = p := List.take_of_length_le (by rw [← HX.out]; omega)
        have hsh := shapeB_good (p := p) (by rw [← HX.out]; exact h3) (fun q hq => HG.out q hq (by rw [← HX.out] at hq; omega))
        have hv : validB p = (decide (cntP notF p ≤ 12) && decide (execsT p ≤ 3000)) := by
          have : 0 < p.length := by rw [← HX.out]; omega
          simp [validB, hsh, this]
        rw [hkx]
        have HV := Lib.hid hv; clear hv hsh hkx
        have HCC := Lib.hid (cap3_le3000 (execsT p))
        by_cases h12 : cntP notF p ≤ 12
        · have h12' : (cntP notF p : Int) ≤ 12 := by omega
          go_wp2_with (go_at_call 67; refine (execs_any (HU.out.below hb hhi) ht).mono ?_; rintro e w2 ⟨rfl, hb2⟩)
          go_ret
          exact ⟨ret_bool (by rw [HV.out, decide_eq_true h12, Bool.true_and]; exact HCC.out), hb.trans (hb2.mono hb.size)⟩
        · have h12' : ¬ (cntP notF p : Int) ≤ 12 := by omega
          have hf : validB p = false := by rw [HV.out]; simp [h12]
          have HF := Lib.hid hf; clear hf h12
          go_wp2_with fail
          go_ret
          exact ⟨ret_bool (by rw [HF.out]), hb⟩
  · have hv : validB p = false := by
      have := HX.out
      by_cases h : p.length ≤ 3
      · have : p.length = 0 := by omega
        simp [validB, this]
      · simp [validB, shapeB, h]
    have HV := Lib.hid hv; clear hv
    have HN := Lib.hid h3; clear h3
    go_enter Try.func28, Try.ntmps28
    go_wp2_with (go_at_call 50; refine (within_any _ _ _ false (by have := HN.out; simp; omega) _).mono ?_; rintro e w1 ⟨rfl, rfl⟩)
    go_ret
    exact ⟨ret_bool (by rw [HV.out]), Below.refl _ _⟩
end Go.Proofs.Ytjjkgemgomfmdaa
