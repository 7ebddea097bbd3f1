/-
  Contracts of impl.OutcomeValid, spec.OutcomeValid and what they call. Conditions: the program has at most 1048576 instructions and threads, the outcome at most 1048576 numbers.
-/
import Derived.Test.YtjjkgemgomfmdaaIntS
namespace Go.Proofs.Ytjjkgemgomfmdaa
open Go.ChangeShapes Go.WideShapes Go.ChangeAt Go.RowKit
set_option maxRecDepth 100000

def outB (p : List (List Ins)) (o : List Int) : Bool := validB p && (decide (o.length = 3 * p.length + 3) && o.all (fun x => inB x 3))
theorem badInt_any (x : Int) (w : World) : Calls Try.prog 100 #[.int .i64 x] w fun e w' => e = .returned (.bool (!inB x 3)) ∧ w = w' := by
  have HW : Hid ((decide ((0 : Int) ≤ x) && decide (x ≤ 3)) = inB x 3) := rfl
  go_enter Try.func100, Try.ntmps100
  go_wp2_with (go_at_call 50; refine (within_any _ _ _ _ HW.out _).mono ?_; rintro e w2 ⟨rfl, rfl⟩)
  go_ret
  exact ⟨rfl, rfl⟩

theorem all_take {o : List Int} {k : Nat} (h : k < o.length) (h1 : (o.take k).all (fun x => inB x 3) = true) (h2 : inB o[k] 3 = true) : (o.take (k + 1)).all (fun x => inB x 3) = true := by
  rw [List.take_succ_eq_append_getElem h, List.all_append, h1]
  simp [h2]
theorem all_bad {o : List Int} {k : Nat} (h : k < o.length) (h2 : inB o[k] 3 = false) : o.all (fun x => inB x 3) = false := by
  rw [List.all_eq_false]
  exact ⟨o[k], List.getElem_mem h, by simp [h2]⟩

theorem IndexBad_any {lo hi : Nat} {v : Value} {o : List Int} {w : World} (hv : Sl int1 1 w lo hi v o) (ho : o.length ≤ 1048576) :
    Calls Try.prog 107 #[v, .func (Fn.func 100) #[] #[]] w fun e w' => (∃ r : Int, e = .returned (.int .i64 r) ∧ decide (r ≥ 0) = !(o.all (fun x => inB x 3)) ∧ -1 ≤ r ∧ r ≤ 1048576) ∧ w = w' := by
  obtain ⟨A, ca, rfl, hca, hma, hA⟩ := hv.ints
  have HAA := Lib.hid hA; clear hA
  go_enter Try.func107, Try.ntmps107
  go_wp2_with fail
  go_loopw [8] (fun i wr => ∃ k : Nat, k ≤ o.length ∧ i = .int .i64 k ∧ (o.take k).all (fun x => inB x 3) = true ∧ w = wr) (fun i _ => o.length - (intOf i).toNat)
  case atStart => exact ⟨0, Nat.zero_le _, rfl, rfl, rfl⟩
  case round =>
    obtain ⟨k, hk, rfl, hall, rfl⟩ := hrel
    have HALL := Lib.hid hall; clear hall
    by_cases hlt : k < o.length
    · obtain ⟨ba, oa, rfl, _, _, hba, hA⟩ := HAA.out (by omega)
      have ca1 := hA k hlt
      clear hA
      have i1 : (0 : Int) ≤ (k : Int) := by omega
      have i2 : (k : Int) < (o.length : Int) := by omega
      cases hin : inB o[k] 3 with
      | true =>
        have BI := Lib.hid (fun W => badInt_any o[k] W)
        rw [hin] at BI
        have HIN := Lib.hid hin; clear hin
        go_wp2_with (go_at_call 100; refine (BI.out _).mono ?_; rintro e w2 ⟨rfl, rfl⟩)
        go_roundw
        case rel => exact ⟨k + 1, by omega, by go_num, all_take hlt HALL.out HIN.out, trivial⟩
        case measure => simp [intOf]; omega
      | false =>
        have BI := Lib.hid (fun W => badInt_any o[k] W)
        rw [hin] at BI
        have HIN := Lib.hid (all_bad hlt hin); clear hin
        go_wp2_with (go_at_call 100; refine (BI.out _).mono ?_; rintro e w2 ⟨rfl, rfl⟩)
        go_ret
        exact ⟨⟨k, rfl, by rw [HIN.out]; simp, by omega, by omega⟩, rfl⟩
    · have hkx : k = o.length := by omega
      go_wp2_with fail
      go_ret
      have := HALL.out
      rw [List.take_of_length_le (by omega)] at this
      exact ⟨⟨-1, rfl, by rw [this]; rfl, by omega, by omega⟩, rfl⟩
theorem ContainsBad_any {lo hi : Nat} {v : Value} {o : List Int} {w : World} (hv : Sl int1 1 w lo hi v o) (ho : o.length ≤ 1048576) :
    Calls Try.prog 99 #[v, .func (Fn.func 100) #[] #[]] w fun e w' => e = .returned (.bool (!(o.all (fun x => inB x 3)))) ∧ w = w' := by
  have IB := Lib.hid (IndexBad_any hv ho)
  obtain ⟨A, ca, rfl, -, -, -⟩ := hv
  go_enter Try.func99, Try.ntmps99
  go_wp2_with fail
  refine IB.out.mono ?_
  rintro e w2 ⟨⟨r, rfl, hr, hr1, hr2⟩, rfl⟩
  have HR := Lib.hid hr; clear hr
  go_wp2_with fail
  go_ret
  exact ⟨ret_bool (by rw [← HR.out]), rfl⟩

theorem impl_OutcomeValid_any {lo hi lo' hi' : Nat} {u v : Value} {p : List (List Ins)} {o : List Int} {w : World} (hu : SlSl Ins.cells 4 w lo hi u p) (hhi : hi ≤ w.heap.size) (ht : total p ≤ 1048576) (hp : p.length ≤ 1048576)
    (hv : Sl int1 1 w lo' hi' v o) (hhi' : hi' ≤ w.heap.size) (ho : o.length ≤ 1048576) :
    Calls Try.prog 84 #[u, v] w fun e w' => e = .returned (.bool (outB p o)) ∧ Below w.heap.size w w' := by
  have HU := Lib.hid hu
  have HV := Lib.hid hv
  obtain ⟨xs, hxs, hxl, hxr⟩ := hu
  obtain ⟨A, ca, rfl, hca, hma, hA⟩ := hxs.vals
  clear hxs hma hxr hA
  obtain ⟨B, cb, rfl, hcb, hmb, hB⟩ := hv.ints
  clear hmb hB hv
  have HX := Lib.hid hxl
  have hxle : xs.length ≤ 1048576 := by omega
  clear hxl
  have PV := Lib.hid (impl_ProgramValid_any (w := w) HU.out hhi ht)
  unfold outB
  cases hvb : validB p with
  | false =>
    rw [hvb] at PV
    go_enter Try.func84, Try.ntmps84
    go_wp2_with (go_at_call 28; refine PV.out.mono ?_; rintro e w1 ⟨rfl, hb⟩)
    go_ret
    exact ⟨rfl, hb⟩
  | true =>
    rw [hvb] at PV
    by_cases hl : o.length = 3 * p.length + 3
    · have hl2 : (o.length : Int) = 3 * (xs.length : Int) + 2 + 1 := by rw [HX.out]; omega
      have HL := Lib.hid hl; clear hl
      go_enter Try.func84, Try.ntmps84
      go_wp2_with (go_at_call 28; refine PV.out.mono ?_; rintro e w1 ⟨rfl, hb⟩)
      refine (ContainsBad_any (HV.out.below hb hhi') ho).mono ?_
      rintro e w2 ⟨rfl, rfl⟩
      go_wp2_with fail
      go_ret
      exact ⟨ret_bool (by simp [HL.out]), hb⟩
    · have hl2 : ¬ (o.length : Int) = 3 * (xs.length : Int) + 2 + 1 := by rw [HX.out]; omega
      have HL := Lib.hid hl; clear hl
      go_enter Try.func84, Try.ntmps84
      go_wp2_with (go_at_call 28; refine PV.out.mono ?_; rintro e w1 ⟨rfl, hb⟩)
      go_ret
      exact ⟨ret_bool (by simp [HL.out]), hb⟩

theorem l3Size_any {u : Value} {A : Option Addr} {n c : Nat} (hu : u = .slice A n c) (hn : n ≤ 1048576) (w : World) : Calls Try.prog 98 #[u] w fun e w' => e = .returned (.int .i64 (3 * n + 3 : Nat)) ∧ w = w' := by
  subst hu
  go_enter Try.func98, Try.ntmps98
  go_wp2_with fail
  go_ret
  exact ⟨ret_int (by omega), rfl⟩

theorem spec_OutcomeValid_any {lo hi lo' hi' : Nat} {u v : Value} {p : List (List Ins)} {o : List Int} {w : World} (hu : SlSl Ins.cells 4 w lo hi u p) (hhi : hi ≤ w.heap.size) (ht : total p ≤ 1048576) (hp : p.length ≤ 1048576)
    (hv : Sl int1 1 w lo' hi' v o) (_ : hi' ≤ w.heap.size) (ho : o.length ≤ 1048576) :
    Calls Try.prog 82 #[u, v] w fun e w' => e = .returned (.bool (outB p o)) ∧ Below w.heap.size w w' := by
  have HU := Lib.hid hu
  obtain ⟨xs, hxs, hxl, hxr⟩ := hu
  obtain ⟨A, ca, rfl, hca, hma, hA⟩ := hxs.vals
  clear hxs hma hxr hA
  obtain ⟨B, cb, rfl, hcb, hmb, hB⟩ := hv.ints
  have HBB := Lib.hid hB
  clear hmb hB hv
  have HX := Lib.hid hxl
  have hxle : xs.length ≤ 1048576 := by omega
  clear hxl
  have PV := Lib.hid (spec_ProgramValid_any (w := w) HU.out hhi ht)
  unfold outB
  cases hvb : validB p with
  | false =>
    rw [hvb] at PV
    go_enter Try.func82, Try.ntmps82
    go_wp2_with fail
    refine PV.out.mono ?_
    rintro e w1 ⟨rfl, hb⟩
    go_wp2_with fail
    go_ret
    exact ⟨rfl, hb⟩
  | true =>
    rw [hvb] at PV
    have SZ := Lib.hid (fun W => l3Size_any (u := .slice A xs.length ca) rfl hxle W)
    by_cases hl : o.length = 3 * p.length + 3
    · have hl2 : (o.length : Int) = ((3 * xs.length + 3 : Nat) : Int) := by rw [HX.out]; omega
      have HL := Lib.hid hl; clear hl
      have HL2 := Lib.hid hl2; clear hl2
      go_enter Try.func82, Try.ntmps82
      go_wp2_with fail
      refine PV.out.mono ?_
      rintro e w1 ⟨rfl, hb1⟩
      go_wp2_with fail
      refine (SZ.out _).mono ?_
      rintro e w2 ⟨rfl, rfl⟩
      rw [← HL2.out]
      go_wp2_with fail
      go_loopw [5] (fun i wr => ∃ k : Nat, k ≤ o.length ∧ i = .int .i64 k ∧ (o.take k).all (fun x => inB x 3) = true ∧ w1 = wr) (fun i _ => o.length - (intOf i).toNat)
      case atStart => exact ⟨0, Nat.zero_le _, rfl, rfl, rfl⟩
      case round =>
        obtain ⟨k, hk, rfl, hall, rfl⟩ := hrel
        have HALL := Lib.hid hall; clear hall
        by_cases hlt : k < o.length
        · obtain ⟨ba, oa, rfl, _, _, hba, hA⟩ := HBB.out (by omega)
          have ca1 := (hb1.cell (p := ⟨ba, oa + k, none⟩) (by simp; omega)).trans (hA k hlt)
          clear hA
          have i1 : (0 : Int) ≤ (k : Int) := by omega
          have i2 : (k : Int) < (o.length : Int) := by omega
          cases hin : inB o[k] 3 with
          | true =>
            have BI : Hid ((decide ((0 : Int) ≤ o[k]) && decide (o[k] ≤ 3)) = true) := hin
            have HIN := Lib.hid hin; clear hin
            go_wp2_with fail
            refine (l1In_any _ _ true BI.out _).mono ?_
            rintro e w2 ⟨rfl, rfl⟩
            go_wp2_with fail
            go_roundw
            case rel => exact ⟨k + 1, by omega, by go_num, all_take hlt HALL.out HIN.out, trivial⟩
            case measure => simp [intOf]; omega
          | false =>
            have BI : Hid ((decide ((0 : Int) ≤ o[k]) && decide (o[k] ≤ 3)) = false) := hin
            have HIN := Lib.hid (all_bad hlt hin); clear hin
            go_wp2_with fail
            refine (l1In_any _ _ false BI.out _).mono ?_
            rintro e w2 ⟨rfl, rfl⟩
            go_wp2_with fail
            go_ret
            exact ⟨ret_bool (by simp [HIN.out]), hb1⟩
        · have hkx : k = o.length := by omega
          go_wp2_with fail
          go_ret
          have := HALL.out
          rw [List.take_of_length_le (by omega)] at this
          exact ⟨ret_bool (by rw [this]; simp [HL.out]), hb1⟩
    · have hl2 : ¬ (o.length : Int) = ((3 * xs.length + 3 : Nat) : Int) := by rw [HX.out]; omega
      have HL := Lib.hid hl; clear hl
      have HL2 := Lib.hid hl2; clear hl2
      go_enter Try.func82, Try.ntmps82
      go_wp2_with fail
      refine PV.out.mono ?_
      rintro e w1 ⟨rfl, hb1⟩
      go_wp2_with fail
      refine (SZ.out _).mono ?_
      rintro e w2 ⟨rfl, rfl⟩
      have hl2 := HL2.out
      go_wp2_with fail
      go_ret
      exact ⟨ret_bool (by simp [HL.out]), hb1⟩
end Go.Proofs.Ytjjkgemgomfmdaa
