/-
  Contracts of spec.l1Shape, spec.ProgramValid, impl.ProgramValid: both report 'validB'. Conditions: the program has at most 1048576 instructions.
-/
import Derived.Test.YtjjkgemgomfmdaaExecs2
namespace Go.Proofs.Ytjjkgemgomfmdaa
open Go.ChangeShapes Go.WideShapes Go.ChangeAt Go.RowKit
set_option maxRecDepth 100000

def notF (x : Ins) : Bool := x.op != 4
def rowOk (r : List Ins) : Bool := decide (r.length ≤ 7) && r.all insOk
def shapeB (p : List (List Ins)) : Bool := decide (p.length ≤ 3) && p.all rowOk && decide (cntP notF p ≤ 12)
/-- what both functions report of a program -/
def validB (p : List (List Ins)) : Bool := shapeB p && decide (0 < p.length) && decide (execsT p ≤ 3000)
theorem shapeB_bad {p : List (List Ins)} (k : Nat) (h : k < p.length) (hb : rowOk p[k] = false) : shapeB p = false := by
  have : p.all rowOk = false := by
    rw [List.all_eq_false]
    exact ⟨p[k], List.getElem_mem h, by rw [hb]; simp⟩
  simp [shapeB, this]
theorem rowOk_long {r : List Ins} (h : 7 < r.length) : rowOk r = false := by
  simp [rowOk]; omega
theorem rowOk_bad {r : List Ins} (j : Nat) (h : j < r.length) (hb : insOk r[j] = false) : rowOk r = false := by
  have : r.all insOk = false := by
    rw [List.all_eq_false]
    exact ⟨r[j], List.getElem_mem h, by rw [hb]; simp⟩
  simp [rowOk, this]
theorem rowOk_good {r : List Ins} (h : r.length ≤ 7) (hg : ∀ j (h : j < r.length), insOk r[j] = true) : rowOk r = true := by
  simp only [rowOk, Bool.and_eq_true, decide_eq_true_eq, List.all_eq_true]
  refine ⟨h, fun x hx => ?_⟩
  obtain ⟨j, hj, rfl⟩ := List.getElem_of_mem hx
  exact hg j hj
theorem shapeB_good {p : List (List Ins)} (h : p.length ≤ 3) (hg : ∀ j (h : j < p.length), rowOk p[j] = true) : shapeB p = decide (cntP notF p ≤ 12) := by
  have : p.all rowOk = true := by
    rw [List.all_eq_true]
    intro x hx
    obtain ⟨j, hj, rfl⟩ := List.getElem_of_mem hx
    exact hg j hj
  simp [shapeB, this, h]

set_option maxHeartbeats 1000000 in
theorem l1Shape_any {lo hi : Nat} {u : Value} {p : List (List Ins)} {w : World} (hu : SlSl Ins.cells 4 w lo hi u p) (ht : total p ≤ 1048576) :
    Calls Try.prog 94 #[u] w fun e w' => e = .returned (.bool (shapeB p)) ∧ Below w.heap.size w w' := by
  obtain ⟨xs, hxs, hxl, hxr⟩ := hu
  obtain ⟨A, ca, rfl, hca, hma, hA⟩ := hxs.vals
  clear hxs
  have HX := Lib.hid hxl; clear hxl
  have HXR := Lib.hid hxr; clear hxr
  have HAA := Lib.hid hA; clear hA
  by_cases h3 : xs.length ≤ 3
  · have h3' : ¬ (3 : Int) < (xs.length : Int) := by omega
    go_enter Try.func94, Try.ntmps94
    go_wp2_with fail
    go_loopw [3, 4] (fun n i wr => ∃ k : Nat, k ≤ xs.length ∧ i = .int .i64 k ∧ n = .int .i64 (cntP notF (p.take k)) ∧ (∀ q (h : q < p.length), q < k → rowOk p[q] = true) ∧ Below w.heap.size w wr) (fun _ i _ => xs.length - (intOf i).toNat)
    case atStart => exact ⟨0, Nat.zero_le _, rfl, rfl, fun q _ h => absurd h (by omega), Below.refl _ _⟩
    case round =>
      obtain ⟨k, hk, rfl, rfl, hgood, hb⟩ := hrel
      have HG := Lib.hid hgood; clear hgood
      by_cases hlt : k < xs.length
      · obtain ⟨ba, oa, rfl, _, _, hba, hA⟩ := HAA.out (by omega)
        have hp : k < p.length := HX.out ▸ hlt
        obtain ⟨Ak, ck, hk1, hk2, hk3, hrow⟩ := (HXR.out k hlt hp).inss
        have HROW := Lib.hid hrow; clear hrow
        have ca0 := hA k hlt
        rw [hk1] at ca0
        have CA := Lib.hid ca0
        have c00 := (hb.cell (p := ⟨ba, oa + k, none⟩) hba).trans ca0
        clear hA hk1 ca0
        have i1 : (0 : Int) ≤ (k : Int) := by omega
        have i2 : (k : Int) < (xs.length : Int) := by omega
        have HT := Lib.hid (cntP_take_succ notF p k hp)
        have HPL := Lib.hid (fun j => cntP_part_le notF p k j hp)
        obtain ⟨wo, rfl⟩ : ∃ wo : World, wo = wr := ⟨_, rfl⟩
        by_cases h7 : p[k].length ≤ 7
        · have h7' : ¬ (7 : Int) < (p[k].length : Int) := by omega
          go_wp2_with fail
          go_loopw [3, 5] (fun n i w2 => ∃ j : Nat, j ≤ p[k].length ∧ i = .int .i64 j ∧ n = .int .i64 (cntP notF (p.take k) + (p[k].take j).countP notF : Nat) ∧ (∀ q (h : q < p[k].length), q < j → insOk p[k][q] = true) ∧ Below w.heap.size w w2) (fun _ i _ => p[k].length - (intOf i).toNat)
          case atStart => exact ⟨0, Nat.zero_le _, rfl, by simp, fun q _ h => absurd h (by omega), hb⟩
          case round =>
            obtain ⟨j, hj, rfl, rfl, hgj, hb2⟩ := hrel
            have HGJ := Lib.hid hgj; clear hgj
            have c0 := (hb2.cell (p := ⟨ba, oa + k, none⟩) hba).trans CA.out
            have hsm : cntP notF (p.take k) + (p[k].take j).countP notF ≤ 1048576 := Nat.le_trans (HPL.out j) ht
            by_cases hlj : j < p[k].length
            · obtain ⟨bb, ob, rfl, _, _, hbb, hB⟩ := HROW.out (by omega)
              obtain ⟨d1, d2, d3, d4⟩ := (hB j hlj).below hb2 hbb
              have HS := Lib.hid (countP_take_succ notF p[k] j hlj)
              have j1 : (0 : Int) ≤ (j : Int) := by omega
              have j2 : (j : Int) < (p[k].length : Int) := by omega
              clear hB c00
              go_wp2_with fail
              refine (spec_InstrValid_any p[k][j] _).mono ?_
              rintro e w3 ⟨rfl, hq⟩
              have e0 := (hq.cell (p := ⟨ba, oa + k, none⟩) (Nat.lt_of_lt_of_le hba hb2.size)).trans c0
              have e1 := (hq.cell (p := ⟨bb, ob + j * 4, none⟩) (Nat.lt_of_lt_of_le hbb hb2.size)).trans d1
              have hb3 := hb2.trans (hq.mono hb2.size)
              by_cases hok : insOk p[k][j] = true
              · go_wp2_with fail
                all_goals
                  have h := HS.out
                  first
                    | (have ef : notF p[k][j] = true := by simpa [notF] using ‹(p[k][j].op != 4) = true›
                       rw [if_pos ef] at h)
                    | (have ef : ¬ notF p[k][j] = true := by simpa [notF] using ‹(p[k][j].op != 4) = false›
                       rw [if_neg ef] at h)
                  go_roundw
                  case rel =>
                    refine ⟨j + 1, by omega, by go_num, congrArg (Value.int .i64) (by omega), fun q hq hqj => ?_, hb3⟩
                    by_cases e : q = j
                    · subst e; exact hok
                    · exact HGJ.out q hq (by omega)
                  case measure => simp [intOf]; omega
              · have hok' : insOk p[k][j] = false := by simpa using hok
                have hbad := shapeB_bad k hp (rowOk_bad j hlj hok')
                have HBAD := Lib.hid hbad
                clear hok hbad
                go_wp2_with fail
                go_ret
                exact ⟨ret_bool (by rw [HBAD.out]), hb3⟩
            · have hjx : p[k].take j = p[k] := List.take_of_length_le (by omega)
              have HJ := Lib.hid hjx; clear hjx
              have hrk : rowOk p[k] = true := rowOk_good h7 (fun q hq => HGJ.out q hq (by omega))
              have HRK := Lib.hid hrk; clear hrk
              go_wp2_with fail
              go_roundw
              case rel =>
                refine ⟨k + 1, by omega, by go_num, congrArg (Value.int .i64) (by rw [HJ.out, HT.out]), fun q hq hqk => ?_, hb2⟩
                by_cases e : q = k
                · subst e; exact HRK.out
                · exact HG.out q hq (by omega)
              case measure => simp [intOf]; omega
        · have h7' : (7 : Int) < (p[k].length : Int) := by omega
          have HBAD := Lib.hid (shapeB_bad k hp (rowOk_long (by omega)))
          clear h7
          go_wp2_with fail
          go_ret
          exact ⟨ret_bool (by rw [HBAD.out]), hb⟩
      · have hkx : p.take k = p := List.take_of_length_le (by rw [← HX.out]; omega)
        have hsh := shapeB_good (p := p) (by rw [← HX.out]; exact h3) (fun q hq => HG.out q hq (by rw [← HX.out] at hq; omega))
        have HK := Lib.hid hkx; clear hkx
        have HS := Lib.hid hsh; clear hsh
        go_wp2_with fail
        go_ret
        exact ⟨ret_bool (by rw [HS.out, HK.out]; exact decide_eq_decide.2 (by omega)), hb⟩
  · have h3' : (3 : Int) < (xs.length : Int) := by omega
    have hsh : shapeB p = false := by
      have := HX.out
      simp [shapeB]
      omega
    have HS := Lib.hid hsh
    clear h3 hsh
    go_enter Try.func94, Try.ntmps94
    go_wp2_with fail
    go_ret
    exact ⟨ret_bool (by rw [HS.out]), Below.refl _ _⟩

theorem cap3_le3000 (n : Nat) : decide (((cap3 n : Nat) : Int) ≤ 3000) = decide (n ≤ 3000) := by
  unfold cap3
  simp only [decide_eq_decide]
  omega
theorem spec_ProgramValid_any {lo hi : Nat} {u : Value} {p : List (List Ins)} {w : World} (hu : SlSl Ins.cells 4 w lo hi u p) (hhi : hi ≤ w.heap.size) (ht : total p ≤ 1048576) :
    Calls Try.prog 68 #[u] w fun e w' => e = .returned (.bool (validB p)) ∧ Below w.heap.size w w' := by
  have HU := Lib.hid hu
  obtain ⟨xs, hxs, hxl, hxr⟩ := hu
  obtain ⟨A, ca, rfl, hca, hma, hA⟩ := hxs.vals
  clear hxs hxr hA
  have HX := Lib.hid hxl; clear hxl
  have hv : validB p = (shapeB p && decide (0 < xs.length) && decide (execsT p ≤ 3000)) := by rw [HX.out]; rfl
  have HV := Lib.hid hv; clear hv
  have hc := cap3_le3000 (execsT p)
  have HCC := Lib.hid hc; clear hc
  cases hs : shapeB p with
  | false =>
    have SH := Lib.hid (l1Shape_any (w := w) HU.out ht)
    rw [hs] at SH
    have HS := Lib.hid hs; clear hs
    go_enter Try.func68, Try.ntmps68
    go_wp2_with (first | (go_at_call 94; refine SH.out.mono ?_; rintro e w1 ⟨rfl, hb⟩))
    go_ret
    exact ⟨ret_bool (by rw [HV.out, HS.out]; rfl), hb⟩
  | true =>
    have SH := Lib.hid (l1Shape_any (w := w) HU.out ht)
    rw [hs] at SH
    have HS := Lib.hid hs; clear hs
    by_cases h0 : (0 : Int) < (xs.length : Int)
    · go_enter Try.func68, Try.ntmps68
      go_wp2_with (first | (go_at_call 94; refine SH.out.mono ?_; rintro e w1 ⟨rfl, hb⟩) | (go_at_call 95; refine (l1Execs_any (HU.out.below hb hhi) (Nat.le_trans hhi hb.size) ht).mono ?_; rintro e w2 ⟨rfl, hb2⟩))
      all_goals
        go_ret
        refine ⟨ret_bool ?_, hb.trans (hb2.mono hb.size)⟩
        rw [HV.out, HS.out]
        have := HCC.out
        simp_all
    · go_enter Try.func68, Try.ntmps68
      go_wp2_with (first | (go_at_call 94; refine SH.out.mono ?_; rintro e w1 ⟨rfl, hb⟩))
      go_ret
      refine ⟨ret_bool ?_, hb⟩
      rw [HV.out, HS.out]
      simp
      omega
end Go.Proofs.Ytjjkgemgomfmdaa
