/-
  Contracts of reads, writes, l1Reads, l1Writes, execs$1, l1Count. Conditions: the program reads as lists within 1048576 instructions.
-/
import Derived.Test.YtjjkgemgomfmdaaValid
namespace Go.Proofs.Ytjjkgemgomfmdaa
open Go.ChangeShapes Go.WideShapes Go.ChangeAt Go.RowKit
set_option maxRecDepth 100000

def rdO (o : Int) : Bool := o == 1 || o == 5
def wrO (o : Int) : Bool := o == 2 || o == 3 || o == 5
def rdB (x : Ins) : Bool := rdO x.op
def wrB (x : Ins) : Bool := wrO x.op

theorem reads_any (op a b c : Int) (w : World) : Calls Try.prog 73 #[.agg #[.int .i64 op, .int .i64 a, .int .i64 b, .int .i64 c]] w fun e w' => e = .returned (.bool (rdO op)) ∧ Below w.heap.size w w' := by
  unfold rdO
  go_enter Try.func73, Try.ntmps73
  go_wp2_with fail
  all_goals (go_ret; exact ⟨ret_bool (by simp_all), (Below.refl _ _).alloc (Nat.le_refl _) _⟩)
theorem l1Reads_any (op a b c : Int) (w : World) : Calls Try.prog 96 #[.agg #[.int .i64 op, .int .i64 a, .int .i64 b, .int .i64 c]] w fun e w' => e = .returned (.bool (rdO op)) ∧ Below w.heap.size w w' := by
  unfold rdO
  go_enter Try.func96, Try.ntmps96
  go_wp2_with fail
  all_goals (go_ret; exact ⟨ret_bool (by simp_all), (Below.refl _ _).alloc (Nat.le_refl _) _⟩)
theorem writes_any (op a b c : Int) (w : World) : Calls Try.prog 93 #[.agg #[.int .i64 op, .int .i64 a, .int .i64 b, .int .i64 c]] w fun e w' => e = .returned (.bool (wrO op)) ∧ Below w.heap.size w w' := by
  unfold wrO
  go_enter Try.func93, Try.ntmps93
  go_wp2_with fail
  all_goals (go_ret; exact ⟨ret_bool (by simp_all), (Below.refl _ _).alloc (Nat.le_refl _) _⟩)
theorem l1Writes_any (op a b c : Int) (w : World) : Calls Try.prog 111 #[.agg #[.int .i64 op, .int .i64 a, .int .i64 b, .int .i64 c]] w fun e w' => e = .returned (.bool (wrO op)) ∧ Below w.heap.size w w' := by
  unfold wrO
  go_enter Try.func111, Try.ntmps111
  go_wp2_with fail
  all_goals (go_ret; exact ⟨ret_bool (by simp_all), (Below.refl _ _).alloc (Nat.le_refl _) _⟩)

/-- how many instructions of a program meet a test -/
def cntP (f : Ins → Bool) (p : List (List Ins)) : Nat := (p.map (List.countP f)).sum
theorem cntP_take_succ (f : Ins → Bool) (p : List (List Ins)) (k : Nat) (h : k < p.length) : cntP f (p.take (k + 1)) = cntP f (p.take k) + p[k].countP f := by
  unfold cntP
  rw [take_succ_get _ _ h, List.map_append, List.sum_append]
  simp
theorem countP_take_succ (f : Ins → Bool) (l : List Ins) (k : Nat) (h : k < l.length) : (l.take (k + 1)).countP f = (l.take k).countP f + if f l[k] then 1 else 0 := by
  rw [take_succ_get _ _ h, List.countP_append]
  simp [List.countP_cons]
theorem cntP_le (f : Ins → Bool) (p : List (List Ins)) : cntP f p ≤ total p := by
  unfold cntP total
  induction p with
  | nil => simp
  | cons r p ih =>
    simp only [List.map_cons, List.sum_cons]
    have := List.countP_le_length (p := f) (l := r)
    omega
theorem cntP_part_le (f : Ins → Bool) (p : List (List Ins)) (k j : Nat) (h : k < p.length) : cntP f (p.take k) + (p[k].take j).countP f ≤ total p := by
  have h1 := cntP_le f (p.take k)
  have h2 := List.countP_le_length (p := f) (l := p[k].take j)
  have h3 := List.length_take_le' j p[k]
  have h4 := total_take_succ p k h
  have h5 := total_take_le p (k + 1)
  omega

def atLoc (loc : Int) (f : Ins → Bool) (x : Ins) : Bool := x.loc == loc && f x

theorem l1Count_w {lo hi : Nat} {u : Value} {p : List (List Ins)} {w : World} {loc : Int} (hu : SlSl Ins.cells 4 w lo hi u p) (ht : total p ≤ 1048576) :
    Calls Try.prog 106 #[u, .int .i64 loc, .bool true] w fun e w' => e = .returned (.int .i64 (cntP (atLoc loc wrB) p)) ∧ Below w.heap.size w w' := by
  obtain ⟨xs, hxs, hxl, hxr⟩ := hu
  obtain ⟨A, ca, rfl, hca, hma, hA⟩ := hxs.vals
  clear hxs
  have HX := Lib.hid hxl; clear hxl
  have HXR := Lib.hid hxr; clear hxr
  have HAA := Lib.hid hA; clear hA
  go_enter Try.func106, Try.ntmps106
  go_wp2_with fail
  go_loopw [7, 8] (fun n i wr => ∃ k : Nat, k ≤ xs.length ∧ i = .int .i64 k ∧ n = .int .i64 (cntP (atLoc loc wrB) (p.take k)) ∧ Below w.heap.size w wr) (fun _ i _ => xs.length - (intOf i).toNat)
  case atStart => exact ⟨0, Nat.zero_le _, rfl, rfl, Below.refl _ _⟩
  case round =>
    obtain ⟨k, hk, rfl, rfl, hb⟩ := hrel
    by_cases hlt : k < xs.length
    · obtain ⟨ba, oa, rfl, _, _, hba, hA⟩ := HAA.out (by omega)
      have hp : k < p.length := HX.out ▸ hlt
      obtain ⟨Ak, ck, hk1, hk2, hk3, hrow⟩ := (HXR.out k hlt hp).inss
      have HROW := Lib.hid hrow; clear hrow
      have ca0 := hA k hlt
      rw [hk1] at ca0
      have CA := Lib.hid ca0
      clear hA hk1 ca0
      have i1 : (0 : Int) ≤ (k : Int) := by omega
      have i2 : (k : Int) < (xs.length : Int) := by omega
      have HT := Lib.hid (cntP_take_succ (atLoc loc wrB) p k hp)
      have HPL := Lib.hid (fun j => cntP_part_le (atLoc loc wrB) p k j hp)
      obtain ⟨wo, rfl⟩ : ∃ wo : World, wo = wr := ⟨_, rfl⟩
      go_wp2_with fail
      go_loopw [7, 9] (fun n i w2 => ∃ j : Nat, j ≤ p[k].length ∧ i = .int .i64 j ∧ n = .int .i64 (cntP (atLoc loc wrB) (p.take k) + (p[k].take j).countP (atLoc loc wrB) : Nat) ∧ Below w.heap.size w w2) (fun _ i _ => p[k].length - (intOf i).toNat)
      case atStart => exact ⟨0, Nat.zero_le _, rfl, by simp, hb⟩
      case round =>
        obtain ⟨j, hj, rfl, rfl, hb2⟩ := hrel
        have c0 := (hb2.cell (p := ⟨ba, oa + k, none⟩) hba).trans CA.out
        have hsm : cntP (atLoc loc wrB) (p.take k) + (p[k].take j).countP (atLoc loc wrB) ≤ 1048576 := Nat.le_trans (HPL.out j) ht
        by_cases hlj : j < p[k].length
        · obtain ⟨bb, ob, rfl, _, _, hbb, hB⟩ := HROW.out (by omega)
          obtain ⟨d1, d2, d3, d4⟩ := (hB j hlj).below hb2 hbb
          have HS := Lib.hid (countP_take_succ (atLoc loc wrB) p[k] j hlj)
          have j1 : (0 : Int) ≤ (j : Int) := by omega
          have j2 : (j : Int) < (p[k].length : Int) := by omega
          clear hB
          go_wp2_with (go_at_call 111; refine (l1Writes_any _ _ _ _ _).mono ?_; rintro e w3 ⟨rfl, hq⟩)
          · have ef : atLoc loc wrB p[k][j] = true := by simp [atLoc, wrB, *]
            go_roundw
            case rel =>
              have h := HS.out
              rw [if_pos ef] at h
              exact ⟨j + 1, by omega, by go_num, congrArg (Value.int .i64) (by omega), (hb2.alloc hb2.size _).trans (hq.mono (by simp; have := hb2.size; omega))⟩
            case measure => simp [intOf]; omega
          · have ef : ¬ atLoc loc wrB p[k][j] = true := by simp [atLoc, wrB, *]
            go_roundw
            case rel =>
              have h := HS.out
              rw [if_neg ef] at h
              exact ⟨j + 1, by omega, by go_num, congrArg (Value.int .i64) (by omega), (hb2.alloc hb2.size _).trans (hq.mono (by simp; have := hb2.size; omega))⟩
            case measure => simp [intOf]; omega
          · have ef : ¬ atLoc loc wrB p[k][j] = true := by simp [atLoc, *]
            go_roundw
            case rel =>
              have h := HS.out
              rw [if_neg ef] at h
              exact ⟨j + 1, by omega, by go_num, congrArg (Value.int .i64) (by omega), hb2.alloc hb2.size _⟩
            case measure => simp [intOf]; omega
        · have hjx : p[k].take j = p[k] := List.take_of_length_le (by omega)
          have HJ := Lib.hid hjx; clear hjx
          go_wp2_with fail
          go_roundw
          case rel => exact ⟨k + 1, by omega, by go_num, congrArg (Value.int .i64) (by rw [HJ.out, HT.out]), hb2⟩
          case measure => simp [intOf]; omega
    · have hkx : p.take k = p := List.take_of_length_le (by rw [← HX.out]; omega)
      have HK := Lib.hid hkx; clear hkx
      go_wp2_with fail
      go_ret
      exact ⟨ret_int (by rw [HK.out]), hb⟩

theorem l1Count_r {lo hi : Nat} {u : Value} {p : List (List Ins)} {w : World} {loc : Int} (hu : SlSl Ins.cells 4 w lo hi u p) (ht : total p ≤ 1048576) :
    Calls Try.prog 106 #[u, .int .i64 loc, .bool false] w fun e w' => e = .returned (.int .i64 (cntP (atLoc loc rdB) p)) ∧ Below w.heap.size w w' := by
  obtain ⟨xs, hxs, hxl, hxr⟩ := hu
  obtain ⟨A, ca, rfl, hca, hma, hA⟩ := hxs.vals
  clear hxs
  have HX := Lib.hid hxl; clear hxl
  have HXR := Lib.hid hxr; clear hxr
  have HAA := Lib.hid hA; clear hA
  go_enter Try.func106, Try.ntmps106
  go_wp2_with fail
  go_loopw [7, 8] (fun n i wr => ∃ k : Nat, k ≤ xs.length ∧ i = .int .i64 k ∧ n = .int .i64 (cntP (atLoc loc rdB) (p.take k)) ∧ Below w.heap.size w wr) (fun _ i _ => xs.length - (intOf i).toNat)
  case atStart => exact ⟨0, Nat.zero_le _, rfl, rfl, Below.refl _ _⟩
  case round =>
    obtain ⟨k, hk, rfl, rfl, hb⟩ := hrel
    by_cases hlt : k < xs.length
    · obtain ⟨ba, oa, rfl, _, _, hba, hA⟩ := HAA.out (by omega)
      have hp : k < p.length := HX.out ▸ hlt
      obtain ⟨Ak, ck, hk1, hk2, hk3, hrow⟩ := (HXR.out k hlt hp).inss
      have HROW := Lib.hid hrow; clear hrow
      have ca0 := hA k hlt
      rw [hk1] at ca0
      have CA := Lib.hid ca0
      clear hA hk1 ca0
      have i1 : (0 : Int) ≤ (k : Int) := by omega
      have i2 : (k : Int) < (xs.length : Int) := by omega
      have HT := Lib.hid (cntP_take_succ (atLoc loc rdB) p k hp)
      have HPL := Lib.hid (fun j => cntP_part_le (atLoc loc rdB) p k j hp)
      obtain ⟨wo, rfl⟩ : ∃ wo : World, wo = wr := ⟨_, rfl⟩
      go_wp2_with fail
      go_loopw [7, 9] (fun n i w2 => ∃ j : Nat, j ≤ p[k].length ∧ i = .int .i64 j ∧ n = .int .i64 (cntP (atLoc loc rdB) (p.take k) + (p[k].take j).countP (atLoc loc rdB) : Nat) ∧ Below w.heap.size w w2) (fun _ i _ => p[k].length - (intOf i).toNat)
      case atStart => exact ⟨0, Nat.zero_le _, rfl, by simp, hb⟩
      case round =>
        obtain ⟨j, hj, rfl, rfl, hb2⟩ := hrel
        have c0 := (hb2.cell (p := ⟨ba, oa + k, none⟩) hba).trans CA.out
        have hsm : cntP (atLoc loc rdB) (p.take k) + (p[k].take j).countP (atLoc loc rdB) ≤ 1048576 := Nat.le_trans (HPL.out j) ht
        by_cases hlj : j < p[k].length
        · obtain ⟨bb, ob, rfl, _, _, hbb, hB⟩ := HROW.out (by omega)
          obtain ⟨d1, d2, d3, d4⟩ := (hB j hlj).below hb2 hbb
          have HS := Lib.hid (countP_take_succ (atLoc loc rdB) p[k] j hlj)
          have j1 : (0 : Int) ≤ (j : Int) := by omega
          have j2 : (j : Int) < (p[k].length : Int) := by omega
          clear hB
          go_wp2_with (go_at_call 96; refine (l1Reads_any _ _ _ _ _).mono ?_; rintro e w3 ⟨rfl, hq⟩)
          · have ef : atLoc loc rdB p[k][j] = true := by simp [atLoc, rdB, *]
            go_roundw
            case rel =>
              have h := HS.out
              rw [if_pos ef] at h
              exact ⟨j + 1, by omega, by go_num, congrArg (Value.int .i64) (by omega), (hb2.alloc hb2.size _).trans (hq.mono (by simp; have := hb2.size; omega))⟩
            case measure => simp [intOf]; omega
          · have ef : ¬ atLoc loc rdB p[k][j] = true := by simp [atLoc, rdB, *]
            go_roundw
            case rel =>
              have h := HS.out
              rw [if_neg ef] at h
              exact ⟨j + 1, by omega, by go_num, congrArg (Value.int .i64) (by omega), (hb2.alloc hb2.size _).trans (hq.mono (by simp; have := hb2.size; omega))⟩
            case measure => simp [intOf]; omega
          · have ef : ¬ atLoc loc rdB p[k][j] = true := by simp [atLoc, *]
            go_roundw
            case rel =>
              have h := HS.out
              rw [if_neg ef] at h
              exact ⟨j + 1, by omega, by go_num, congrArg (Value.int .i64) (by omega), hb2.alloc hb2.size _⟩
            case measure => simp [intOf]; omega
        · have hjx : p[k].take j = p[k] := List.take_of_length_le (by omega)
          have HJ := Lib.hid hjx; clear hjx
          go_wp2_with fail
          go_roundw
          case rel => exact ⟨k + 1, by omega, by go_num, congrArg (Value.int .i64) (by rw [HJ.out, HT.out]), hb2⟩
          case measure => simp [intOf]; omega
    · have hkx : p.take k = p := List.take_of_length_le (by rw [← HX.out]; omega)
      have HK := Lib.hid hkx; clear hkx
      go_wp2_with fail
      go_ret
      exact ⟨ret_int (by rw [HK.out]), hb⟩

end Go.Proofs.Ytjjkgemgomfmdaa
