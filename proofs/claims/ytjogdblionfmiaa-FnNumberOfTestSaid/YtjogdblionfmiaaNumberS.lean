/-
  Contract of spec.NumberOfTest. Conditions: the program has at most 1048576 instructions and threads.
-/
import Derived.Test.YtjogdblionfmiaaNumber
namespace Go.Proofs.Ytjogdblionfmiaa
open Go.ChangeShapes Go.WideShapes Go.ChangeAt Go.RowKit
set_option maxRecDepth 100000

/-- the last place of an instruction among the first k -/
def lastAt (x : Ins) : Nat → Int
  | 0 => -1
  | k + 1 => if smalls[k]? = some x then (k : Int) else lastAt x k
theorem lastAt_succ (x : Ins) (k : Nat) : lastAt x (k + 1) = if smalls[k]? = some x then (k : Int) else lastAt x k := rfl
theorem lastAt_idx (x : Ins) : lastAt x 6 = idxI smalls x := by
  by_cases h : x ∈ smalls
  · simp only [smalls, List.mem_cons, List.not_mem_nil, or_false] at h
    rcases h with rfl | rfl | rfl | rfl | rfl | rfl <;> rfl
  · have h1 : idxI smalls x = -1 := by
      unfold idxI
      rw [if_neg]
      rw [List.idxOf_lt_length_iff]
      exact h
    rw [h1]
    have h2 : ∀ j, smalls[j]? ≠ some x := fun j hj => h (List.mem_of_getElem? hj)
    have : ∀ k, lastAt x k = -1 := by
      intro k
      induction k with
      | zero => rfl
      | succ k ih => rw [lastAt_succ, if_neg (h2 k), ih]
    exact this 6

theorem at_flat (p : List (List Ins)) (h2 : p.length = 2) (h3 : (p[0]'(by omega)).length = 2) (h4 : (p[1]'(by omega)).length = 2) (i : Nat) (hi : i < p.flatten.length) (hi4 : i < 4) (q : Nat) (hq : q = i / 2) (hqp : q < p.length) (hr : i % 2 < p[q].length) :
    p.flatten[i] = p[q][i % 2] := by
  subst hq
  match p, h2, h3, h4 with
  | [[a, b], [c, d]], _, _, _ =>
    match i, hi4 with
    | 0, _ => rfl
    | 1, _ => rfl
    | 2, _ => rfl
    | 3, _ => rfl
theorem neg_one_or (x : Ins) (k : Nat) : lastAt x k = -1 ∨ ∃ d : Nat, lastAt x k = d ∧ d < k := by
  induction k with
  | zero => exact .inl rfl
  | succ k ih =>
    rw [lastAt_succ]
    split
    · exact .inr ⟨k, rfl, by omega⟩
    · rcases ih with h | ⟨d, h, hd⟩
      · exact .inl h
      · exact .inr ⟨d, h, by omega⟩

set_option maxHeartbeats 2000000 in
theorem spec_NumberOfTest_any {lo hi : Nat} {u : Value} {p : List (List Ins)} {w : World} (hu : SlSl Ins.cells 4 w lo hi u p) :
    Calls Try.prog 13 #[u] w fun e w' => e = .returned (.tuple #[.int .i64 (numR p).1, .bool (numR p).2]) ∧ Below w.heap.size w w' := by
  obtain ⟨xs, hxs, hxl, hxr⟩ := hu
  obtain ⟨A, ca, rfl, hca, hma, hA⟩ := hxs.vals
  clear hxs hma
  have HX := Lib.hid hxl
  by_cases h2 : p.length = 2
  · have hx2 : xs.length = 2 := by rw [HX.out]; exact h2
    obtain ⟨ba, oa, rfl, _, _, hba, hA⟩ := hA (by omega)
    obtain ⟨A0, c0, hk0, -, -, -⟩ := hxr 0 (by omega) (by omega)
    obtain ⟨A1, c1, hk1, -, -, -⟩ := hxr 1 (by omega) (by omega)
    have ca0 := hA 0 (by omega)
    have ca1 := hA 1 (by omega)
    rw [hk0] at ca0
    rw [hk1] at ca1
    simp only [Nat.add_zero] at ca0
    have HAA := Lib.hid hA
    have HXR := Lib.hid hxr
    have n0 : (w.alloc (.cells smallCells 81)).cell? ⟨ba, oa, none⟩ = w.cell? ⟨ba, oa, none⟩ := World.cell?_alloc_lt _ _ _ (by exact hba)
    have n1 : (w.alloc (.cells smallCells 81)).cell? ⟨ba, oa + 1, none⟩ = w.cell? ⟨ba, oa + 1, none⟩ := World.cell?_alloc_lt _ _ _ (by exact hba)
    rw [ca0] at n0
    rw [ca1] at n1
    clear hA hxr hk0 hk1
    have g0 : p.getD 0 [] = p[0] := by simp [show 0 < p.length by omega]
    have g1 : p.getD 1 [] = p[1] := by simp [show 1 < p.length by omega]
    by_cases h3 : p[0].length = 2
    · by_cases h4 : p[1].length = 2
      · have hr : numR p = numAt p.flatten 0 := by unfold numR; rw [if_pos ⟨h2, by rw [g0]; exact h3, by rw [g1]; exact h4⟩]
        rw [hr]
        have hfl : p.flatten.length = 4 := by
          match p, h2, h3, h4 with
          | [a, b], _, h3, h4 => simp at h3 h4 ⊢; omega
        rw [h3] at ca0 n0
        rw [h4] at ca1 n1
        rw [hx2]
        have HFL := Lib.hid hfl; clear hfl
        have H2 := Lib.hid h2
        have H3 := Lib.hid h3
        have H4 := Lib.hid h4
        have BS := Lib.hid (Blk.new w 81 smallCells)
        have HX2 := Lib.hid hx2
        have hrow2 : ∀ q (h : q < p.length), p[q].length = 2 := by
          intro q h
          have : q = 0 ∨ q = 1 := by omega
          rcases this with rfl | rfl
          · exact h3
          · exact h4
        have HR2 := Lib.hid hrow2
        clear hr g0 g1 h3 h4 hxl hrow2 hx2
        go_enter Try.func13, Try.ntmps13
        go_wp2_with fail
        refine (l14Instrs_any _).mono ?_
        rintro e w1 ⟨rfl, rfl⟩
        go_wp2_with fail
        go_loopw [5, 6] (fun n i wr => ∃ (k m : Nat), k ≤ 4 ∧ i = .int .i64 k ∧ n = .int .i64 m ∧ numAt (p.flatten.drop k) m = numAt p.flatten 0 ∧ m < 6 ^ k ∧ Below w.heap.size w wr ∧ Blk wr w.heap.size 81 smallCells) (fun _ i _ => 4 - (intOf i).toNat)
        case atStart => exact ⟨0, 0, Nat.zero_le _, rfl, rfl, rfl, by omega, (Below.refl _ _).alloc (Nat.le_refl _) _, BS.out⟩
        case round =>
          obtain ⟨k, m, hk, rfl, rfl, hnum, hm, hb, hB⟩ := hrel
          by_cases hlt : k < 4
          · have hkf : k < p.flatten.length := by rw [HFL.out]; exact hlt
            have hstep := numAt_drop p.flatten k hkf m
            rw [hnum] at hstep
            clear hnum
            have hpow : 6 ^ k ≤ 6 ^ 3 := Nat.pow_le_pow_right (by omega) (by omega)
            rw [show 6 ^ 3 = 216 from rfl] at hpow
            obtain ⟨q, hq⟩ : ∃ q, q = k / 2 := ⟨_, rfl⟩
            have hqp : q < p.length := by have := H2.out; omega
            have hqx : q < xs.length := by rw [HX.out]; exact hqp
            obtain ⟨Aq, cq, hkq, -, -, hAq⟩ := (HXR.out q hqx hqp).inss
            have caq := HAA.out q hqx
            rw [hkq, HR2.out q hqp] at caq
            have hrq : k % 2 < p[q].length := by rw [HR2.out q hqp]; omega
            obtain ⟨bq, oq, rfl, _, _, hbq, hIq⟩ := hAq (by omega)
            have hy := (hIq (k % 2) hrq).below hb hbq
            rw [← at_flat p H2.out H3.out H4.out k hkf hlt q hq hqp hrq] at hy
            clear hIq hAq hkq
            generalize p.flatten[k] = y at *
            have caw := (hb.cell (p := ⟨ba, oa + q, none⟩) hba).trans caq
            have t1 : IntKind.i64.wrap ((k : Int).tdiv 2) = (q : Int) := by rw [IntWalk.i64_in _ (by rw [Int.tdiv_eq_ediv_of_nonneg (by omega)]; omega), Int.tdiv_eq_ediv_of_nonneg (by omega)]; omega
            have t2 : (k : Int).tmod 2 = ((k % 2 : Nat) : Int) := by rw [Int.tmod_eq_emod_of_nonneg (by omega)]; omega
            have t3 : (0 : Int) ≤ (q : Int) := by omega
            have t4 : (q : Int) < 2 := by have := H2.out; omega
            have t5 : (0 : Int) ≤ ((k % 2 : Nat) : Int) := by omega
            have t6 : ((k % 2 : Nat) : Int) < 2 := by omega
            have t7 : ((k / 2 : Nat) : Int) < 2 := by omega
            have t8 : (k : Int) / 2 < 2 := by omega
            have t9 : (0 : Int) ≤ (k : Int) / 2 := by omega
            rw [hq] at caw
            have hbaw : ba < wr.heap.size := Nat.lt_of_lt_of_le hba hb.size
            clear hq caq n0 n1 ca0 ca1 t1 t2 t3 t4
            have HST := Lib.hid hstep; clear hstep
            have HY := Lib.hid hy; clear hy
            have HB := Lib.hid hB; clear hB
            have hltI : (k : Int) < 4 := by omega
            obtain ⟨wo, rfl⟩ : ∃ wo : World, wo = wr := ⟨_, rfl⟩
            go_wp2_with fail
            go_loopw [7, 8] (fun a j w2 => ∃ (n : Nat), n ≤ 6 ∧ j = .int .i64 n ∧ a = .int .i64 (lastAt y n) ∧ Below wo.heap.size wo w2) (fun _ j _ => 6 - (intOf j).toNat)
            case atStart => exact ⟨0, Nat.zero_le _, rfl, rfl, Below.refl _ _⟩
            case round =>
              obtain ⟨n, hn, rfl, rfl, hb2⟩ := hrel
              have hlo := HB.out.lt
              by_cases hln : n < 6
              · have hs := small_cells n hln
                have hget : smalls[n]? = some (smalls[n]'hln) := List.getElem?_eq_getElem hln
                have HLS := Lib.hid (lastAt_succ y n)
                have hsI := ((HB.out.ins hs)).below hb2 hlo
                have hyI := HY.out.below hb2 (by omega)
                rw [hget] at HLS
                clear hget hs
                generalize smalls[n]'hln = s at *
                obtain ⟨so, sl, sr, sv⟩ := s
                obtain ⟨yo, yl, yr, yv⟩ := y
                obtain ⟨s0, s1, s2, s3⟩ := hsI
                obtain ⟨y0, y1, y2, y3⟩ := hyI
                simp only at s0 s1 s2 s3 y0 y1 y2 y3
                have cw2 := (hb2.cell (p := ⟨ba, oa + k / 2, none⟩) (by simp; omega)).trans caw
                have j1 : (0 : Int) ≤ (n : Int) := by omega
                have j2 : (n : Int) < 6 := by omega
                generalize lastAt ⟨yo, yl, yr, yv⟩ n = z at *
                by_cases e0 : so = yo
                · subst e0
                  by_cases e1 : sl = yl
                  · subst e1
                    by_cases e2 : sr = yr
                    · subst e2
                      by_cases e3 : sv = yv
                      · subst e3
                        go_wp2_with fail
                        go_region
                        go_wp2_with fail
                        go_roundw
                        case rel => exact ⟨n + 1, by omega, by go_num, congrArg (Value.int .i64) (by rw [HLS.out]; simp), hb2.drew⟩
                        case measure => simp [intOf]; omega
                      · go_wp2_with fail
                        go_region
                        go_wp2_with fail
                        go_roundw
                        case rel => exact ⟨n + 1, by omega, by go_num, congrArg (Value.int .i64) (by rw [HLS.out, if_neg (by intro h; injection h with h; injection h; omega)]), hb2.drew⟩
                        case measure => simp [intOf]; omega
                    · go_wp2_with fail
                      go_region
                      go_wp2_with fail
                      go_roundw
                      case rel => exact ⟨n + 1, by omega, by go_num, congrArg (Value.int .i64) (by rw [HLS.out, if_neg (by intro h; injection h with h; injection h; omega)]), hb2.drew⟩
                      case measure => simp [intOf]; omega
                  · go_wp2_with fail
                    go_region
                    go_wp2_with fail
                    go_roundw
                    case rel => exact ⟨n + 1, by omega, by go_num, congrArg (Value.int .i64) (by rw [HLS.out, if_neg (by intro h; injection h with h; injection h; omega)]), hb2.drew⟩
                    case measure => simp [intOf]; omega
                · go_wp2_with fail
                  go_region
                  go_wp2_with fail
                  go_roundw
                  case rel => exact ⟨n + 1, by omega, by go_num, congrArg (Value.int .i64) (by rw [HLS.out, if_neg (by intro h; injection h with h; injection h; omega)]), hb2.drew⟩
                  case measure => simp [intOf]; omega
              · obtain rfl : n = 6 := by omega
                rw [lastAt_idx y]
                rcases idx_small y with hd | ⟨d, hd, hd6⟩
                · have hst := HST.out
                  rw [hd, if_pos (by omega)] at hst
                  have HS := Lib.hid hst; clear hst
                  rw [hd]
                  clear hd
                  go_wp2_with fail
                  go_ret2
                  rw [HS.out]
                  exact ⟨rfl, hb.trans (hb2.mono hb.size)⟩
                · have hst := HST.out
                  rw [hd, if_neg (by omega)] at hst
                  have HS := Lib.hid hst; clear hst
                  rw [hd]
                  clear hd
                  go_wp2_with fail
                  go_roundw
                  case rel =>
                    refine ⟨k + 1, 6 * m + d, by omega, by go_num, congrArg (Value.int .i64) (by omega), ?_, ?_, hb.trans (hb2.mono hb.size), HB.out.below hb2 hlo⟩
                    · rw [HS.out]
                      congr 1
                    · rw [Nat.pow_succ]
                      omega
                  case measure => simp [intOf]; omega
          · have hkx : k = 4 := by omega
            go_wp2_with fail
            go_ret2
            have hd0 : p.flatten.drop k = [] := List.drop_eq_nil_of_le (by rw [HFL.out]; omega)
            rw [hd0] at hnum
            rw [← hnum]
            exact ⟨rfl, hb⟩
      · have hr : numR p = (0, false) := by unfold numR; rw [if_neg (by rw [g1]; intro h; exact h4 h.2.2)]
        rw [hr]
        rw [h3] at ca0 n0
        have h4' : ¬ (p[1].length : Int) = 2 := by omega
        rw [hx2]
        generalize p[1].length = n1 at *
        clear hr h4
        go_enter Try.func13, Try.ntmps13
        go_wp2_with fail
        refine (l14Instrs_any _).mono ?_
        rintro e w1 ⟨rfl, rfl⟩
        go_wp2_with fail
        go_ret2
        exact ⟨rfl, (Below.refl _ _).alloc (Nat.le_refl _) _⟩
    · have hr : numR p = (0, false) := by unfold numR; rw [if_neg (by rw [g0]; intro h; exact h3 h.2.1)]
      rw [hr]
      have h3' : ¬ (p[0].length : Int) = 2 := by omega
      rw [hx2]
      generalize p[0].length = n0 at *
      generalize p[1].length = n1 at *
      clear hr h3
      go_enter Try.func13, Try.ntmps13
      go_wp2_with fail
      refine (l14Instrs_any _).mono ?_
      rintro e w1 ⟨rfl, rfl⟩
      go_wp2_with fail
      go_ret2
      exact ⟨rfl, (Below.refl _ _).alloc (Nat.le_refl _) _⟩
  · have hr : numR p = (0, false) := by unfold numR; rw [if_neg (by intro h; exact h2 h.1)]
    rw [hr]
    have hx2 : ¬ (xs.length : Int) = 2 := by rw [HX.out]; omega
    clear hr h2 hA hxr
    go_enter Try.func13, Try.ntmps13
    go_wp2_with fail
    refine (l14Instrs_any _).mono ?_
    rintro e w1 ⟨rfl, rfl⟩
    go_wp2_with fail
    go_ret2
    exact ⟨rfl, (Below.refl _ _).alloc (Nat.le_refl _) _⟩
end Go.Proofs.Ytjogdblionfmiaa
