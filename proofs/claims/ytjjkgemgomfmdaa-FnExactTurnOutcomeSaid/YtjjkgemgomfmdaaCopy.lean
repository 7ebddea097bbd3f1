/-
  Contracts of the laws' helpers that copy, measure, mark and look at instructions: toInstrS, toInstrSS, szInstrS, szInstrSS, markInstrS, markInstrSS, heldInstrS, heldInstrSS. Conditions: the slices read as lists of at most 1048576 elements; what is marked lies in blocks of its own.
-/
import Derived.Test.YtjjkgemgomfmdaaInstr
namespace Go.Proofs.Ytjjkgemgomfmdaa
open Go.ChangeShapes Go.WideShapes Go.ChangeAt Go.RowKit
set_option maxRecDepth 100000

theorem toInstrS_any {lo hi : Nat} {u : Value} {xs : List Ins} {w : World} (hu : Sl Ins.cells 4 w lo hi u xs) (hx : xs.length ≤ 1048576) :
    Calls Try.prog 56 #[u] w fun e w' => (∃ v, e = .returned v ∧ v = .slice (some ⟨w.heap.size, 0, none⟩) xs.length xs.length ∧ Ow Ins.cells 4 66 w' w.heap.size (w.heap.size + 1) v xs ∧ w.heap.size < w'.heap.size) ∧ Below w.heap.size w w' := by
  obtain ⟨A, ca, rfl, hca, hma, hA⟩ := hu.inss
  clear hma
  obtain ⟨i0, hi0, hz0, hz1, hz2⟩ := info_parts Try.infoIns
  have hmk := fun W => run_make_rowN (P := Try.prog) 57 66 i0 _ Try.underlying57 hi0 hz0 .i64 .i64 xs.length xs.length (Nat.le_refl _) (by rw [hz2]; omega) (by omega) W
  rw [hz1] at hmk
  go_enter Try.func56, Try.ntmps56
  go_wp2_with fail
  clear hmk
  go_loopw [4] (fun i wr => ∃ (k : Nat) (cs : Array Value), k ≤ xs.length ∧ i = .int .i64 k ∧ Below w.heap.size w wr ∧ Blk wr w.heap.size 66 cs ∧ cs.size = xs.length * 4 ∧ ∀ j (h : j < xs.length), j < k → HasIns cs (j * 4) xs[j]) (fun i _ => xs.length - (intOf i).toNat)
  case atStart =>
    exact ⟨0, _, Nat.zero_le _, rfl, (Below.refl _ _).alloc (Nat.le_refl _) _, Blk.new _ _ _, size_madeCells _ _, fun j _ h => absurd h (by omega)⟩
  case round =>
    obtain ⟨k, cs, hk, rfl, hb, hB, hcs, hin⟩ := hrel
    have HI := Lib.hid hin; clear hin
    have HB := Lib.hid hB; have HCS := Lib.hid hcs
    have hgl := hB.lt
    clear hB hcs
    by_cases hlt : k < xs.length
    · obtain ⟨ba, oa, rfl, _, _, hba, hA⟩ := hA (by omega)
      have ca1 := (hA k hlt).below hb hba
      clear hA
      have i1 : (0 : Int) ≤ (k : Int) := by omega
      have i2 : (k : Int) < (xs.length : Int) := by omega
      obtain ⟨c1, c2, c3, c4⟩ := ca1
      go_wp2_with fail
      refine (toInstr_any xs[k] _).mono ?_
      rintro e w1 ⟨rfl, hq1⟩
      have B1 := HB.out.below hq1 hgl
      have hz : k * 4 + 4 ≤ cs.size := by rw [HCS.out]; omega
      have f0 := B1.frozen (k * 4)
      have f1 := B1.frozen (k * 4 + 1)
      have f2 := B1.frozen (k * 4 + 2)
      have f3 := B1.frozen (k * 4 + 3)
      have e0 := B1.cell (k * 4)
      have e1 := B1.cell (k * 4 + 1)
      have e2 := B1.cell (k * 4 + 2)
      have e3 := B1.cell (k * 4 + 3)
      rw [Array.getElem?_eq_getElem (by omega)] at e0 e1 e2 e3
      have HB1 := Lib.hid B1; clear B1
      unfold Ins.v
      go_wp2_with fail
      go_roundw
      case rel =>
        refine ⟨k + 1, setIns cs (k * 4) xs[k], by omega, by go_num, ?_, ?_, ?_, ?_⟩
        · exact ((((hb.trans (hq1.mono hb.size)).setCell (by simp) _).setCell (by simp) _).setCell (by simp) _).setCell (by simp) _
        · exact (((HB1.out.set_ _ _).set_ _ _).set_ _ _).set_ _ _
        · rw [size_setIns]; exact HCS.out
        · intro j h hj
          by_cases e : j = k
          · subst e; exact HasIns.same hz
          · exact (HI.out j h (by omega)).far (by omega)
      case measure => simp [intOf]; omega
    · go_wp2
      go_ret
      refine ⟨⟨_, rfl, rfl, ⟨_, _, rfl, Nat.le_refl _, by omega, fun _ => ⟨w.heap.size, cs, rfl, Nat.le_refl _, by omega, HB.out, HCS.out, fun j hj i u hu => ?_⟩⟩, hgl⟩, hb⟩
      exact (HI.out j hj (by omega)).cells i u hu

theorem szInstrS_any {u : Value} {n : Nat} {A : Option Addr} {c : Nat} {m : Int} {w : World} (hu : u = .slice A n c) (hn : n ≤ 9223372036854775807) (hm0 : 0 ≤ m) (hm1 : m ≤ 1048576) :
    Calls Try.prog 55 #[u, .int .i64 m] w fun e w' => e = .returned (.int .i64 (if m < n then -1 else m - n)) ∧ w = w' := by
  subst hu
  by_cases hl : m < n
  · rw [if_pos hl]
    go_enter Try.func55, Try.ntmps55
    go_wp2
    go_ret
    exact ⟨rfl, rfl⟩
  · rw [if_neg hl]
    go_enter Try.func55, Try.ntmps55
    go_wp2
    go_ret
    exact ⟨rfl, rfl⟩

/-- how many elements all rows have -/
def total {α : Type} (p : List (List α)) : Nat := (p.map List.length).sum
theorem total_take_succ {α : Type} (p : List (List α)) (k : Nat) (h : k < p.length) : total (p.take (k + 1)) = total (p.take k) + p[k].length := by
  unfold total
  rw [take_succ_get _ _ h, List.map_append, List.sum_append]
  simp
theorem total_take_le {α : Type} (p : List (List α)) (k : Nat) : total (p.take k) ≤ total p := by
  unfold total
  conv => rhs; rw [← List.take_append_drop k p, List.map_append, List.sum_append]
  omega
theorem row_le_total {α : Type} (p : List (List α)) (k : Nat) (h : k < p.length) : p[k].length ≤ total p := by
  have h1 := total_take_succ p k h
  have h2 := total_take_le p (k + 1)
  omega

theorem szInstrSS_any {lo hi : Nat} {u : Value} {p : List (List Ins)} {w : World} (hu : SlSl Ins.cells 4 w lo hi u p) :
    Calls Try.prog 22 #[u, .int .i64 1048576] w fun e w' => (∃ r : Int, e = .returned (.int .i64 r) ∧ (r < 0 ∨ (0 ≤ r ∧ p.length + total p ≤ 1048576))) ∧ Below w.heap.size w w' := by
  obtain ⟨xs, hxs, hxl, hxr⟩ := hu
  obtain ⟨A, ca, rfl, hca, hma, hA⟩ := hxs.vals
  clear hxs
  by_cases hl : (1048576 : Int) < (xs.length : Int)
  · go_enter Try.func22, Try.ntmps22
    go_wp2
    go_ret
    exact ⟨⟨-1, rfl, .inl (by omega)⟩, Below.refl _ _⟩
  · have HX := Lib.hid hxl; clear hxl
    have HXR := Lib.hid hxr; clear hxr
    go_enter Try.func22, Try.ntmps22
    go_wp2
    go_loopw [5, 1] (fun i m wr => ∃ k : Nat, k ≤ xs.length ∧ i = .int .i64 k ∧ m = .int .i64 (1048576 - (xs.length : Int) - (total (p.take k) : Int)) ∧ 0 ≤ (1048576 - (xs.length : Int) - (total (p.take k) : Int)) ∧ Below w.heap.size w wr) (fun i _ _ => xs.length - (intOf i).toNat)
    case atStart => exact ⟨0, Nat.zero_le _, rfl, by simp [total], by simp [total]; omega, Below.refl _ _⟩
    case round =>
      obtain ⟨k, hk, rfl, rfl, hm, hb⟩ := hrel
      by_cases hlt : k < xs.length
      · obtain ⟨ba, oa, rfl, _, _, hba, hA⟩ := hA (by omega)
        have hp : k < p.length := HX.out ▸ hlt
        have ca1 := (hb.cell (p := ⟨ba, oa + k, none⟩) hba).trans (hA k hlt)
        have rx := (HXR.out k hlt hp)
        obtain ⟨Ak, ck, hk1, hk2, hk3, _⟩ := rx
        have HT := Lib.hid (total_take_succ p k hp)
        have HK1 := Lib.hid hk1; clear hk1
        clear hA
        have i1 : (0 : Int) ≤ (k : Int) := by omega
        have i2 : (k : Int) < (xs.length : Int) := by omega
        have m1 : (1048576 - (xs.length : Int) - (total (p.take k) : Int)) ≤ 1048576 := by omega
        go_wp2_with (go_at_call 55; refine (szInstrS_any HK1.out (by omega) hm m1).mono ?_; rintro e w1 ⟨rfl, rfl⟩)
        · have h2 := HT.out
          by_cases hq : (1048576 - (xs.length : Int) - (total (p.take k) : Int)) < p[k].length
          · rename_i hh
            go_ret
            exact ⟨⟨_, rfl, .inl (by omega)⟩, hb⟩
          · rename_i hh
            simp only [hq, if_false] at hh
            omega
        · have h2 := HT.out
          have hq : ¬ (1048576 - (xs.length : Int) - (total (p.take k) : Int)) < p[k].length := by
            intro hq
            rename_i hh
            simp [hq] at hh
          go_roundw
          case rel => exact ⟨k + 1, by omega, by go_num, by rw [if_neg hq, h2]; congr 1; omega, by omega, hb⟩
          case measure => simp [intOf]; omega
      · have : k = xs.length := by omega
        have hh : total (p.take k) = total p := by rw [this, HX.out, List.take_length]
        have HH := Lib.hid hh
        clear hh this
        go_wp2
        go_ret
        have := HH.out
        have := HX.out
        exact ⟨⟨_, rfl, .inr ⟨by omega, by omega⟩⟩, hb⟩
end Go.Proofs.Ytjjkgemgomfmdaa
