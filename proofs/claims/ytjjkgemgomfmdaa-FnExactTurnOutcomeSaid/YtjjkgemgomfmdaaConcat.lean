/-
  Contracts of slices.Grow at nil, slices.Concat at threads. Conditions: at most 1048576 elements.
-/
import Derived.Test.YtjjkgemgomfmdaaClone
import Derived.Test.YtjjkgemgomfmdaaApp2
import Derived.Lib.AppendZeros
namespace Go.Proofs.Ytjjkgemgomfmdaa
open Go.ChangeShapes Go.WideShapes Go.ChangeAt Go.RowKit
set_option maxRecDepth 100000

theorem Grow_any (n : Nat) (hn : n ≤ 1048576) (w : World) :
    Calls Try.prog 91 #[.slice none 0 0, .int .i64 n] w fun e w' => (∃ v, e = .returned v ∧ w'.ownsRow w.heap.size 66 4 v 0 []) ∧ Below w.heap.size w w' := by
  obtain ⟨i0, hi0, hz0, hz1, hz2⟩ := info_parts Try.infoIns
  by_cases h0 : 0 < n
  · have hrun := fun W => Lib.run_append_nil_zeros (P := Try.prog) W 57 3 57 66 i0 _ .i64 .i64 Try.underlying57 Try.underlying3 hi0 hz0 n h0 (by rw [hz1]; omega) (by omega) (by rw [hz2]; omega)
    have hge := fun W => grownCap_ge W n 0 66
    have hle := fun W => grownCap_le_maxLen W n 0 66 (by simp only [maxLen]; omega)
    have HG := Lib.hid hge; have HL := Lib.hid hle
    clear hge hle
    have HRUN := Lib.hid hrun; clear hrun
    have i1 : ¬ (n : Int) < 0 := by omega
    have i2 : (n : Int) > 0 := by omega
    go_enter Try.func91, Try.ntmps91
    go_wp2_with (at_builtin; refine Lib.wpList_append_run _ rfl _ _ _ _ rfl _ _ rfl rfl _ _ (HRUN.out _) ?_)
    go_ret
    refine ⟨⟨_, rfl, rfl, .inr ⟨w.heap.size, _, _, rfl, Nat.le_refl _, (Blk.new w _ _).drew, Nat.zero_le _, HL.out w, ?_, by simp⟩⟩, ((Below.refl _ _).alloc (Nat.le_refl _) _).drew⟩
    have := HG.out w
    rw [Array.size_append, size_zeroCells, size_zeroCells]
    simp
    omega
  · obtain rfl : n = 0 := by omega
    go_enter Try.func91, Try.ntmps91
    go_wp2_with fail
    go_ret
    exact ⟨⟨_, rfl, rfl, .inl ⟨rfl, rfl⟩⟩, Below.refl _ _⟩

set_option maxHeartbeats 1000000 in
theorem Concat_any {lo hi : Nat} {u : Value} {p : List (List Ins)} {w : World} (hu : SlSl Ins.cells 4 w lo hi u p) (hhi : hi ≤ w.heap.size) (hl : p.length ≤ 1048576) (ht : total p ≤ 1048576) :
    Calls Try.prog 57 #[u] w fun e w' => (∃ v, e = .returned v ∧ Ow Ins.cells 4 66 w' w.heap.size w'.heap.size v p.flatten) ∧ Below w.heap.size w w' := by
  obtain ⟨xs, hxs, hxl, hxr⟩ := hu
  obtain ⟨A, ca, rfl, hca, hma, hA⟩ := hxs.vals
  clear hxs hma
  obtain ⟨i0, hi0, hz0, hz1, hz2⟩ := info_parts Try.infoIns
  have HX := Lib.hid hxl
  have hxle : xs.length ≤ 1048576 := by omega
  clear hxl
  have HXR := Lib.hid hxr; clear hxr
  have HAA := Lib.hid hA; clear hA
  go_enter Try.func57, Try.ntmps57
  go_wp2_with fail
  go_loopw [3, 11] (fun s i wr => ∃ k : Nat, k ≤ xs.length ∧ i = .int .i64 k ∧ s = .int .i64 (total (p.take k)) ∧ w = wr) (fun _ i _ => xs.length - (intOf i).toNat)
  case atStart => exact ⟨0, Nat.zero_le _, rfl, rfl, rfl⟩
  case round =>
    obtain ⟨k, hk, rfl, rfl, rfl⟩ := hrel
    by_cases hlt : k < xs.length
    · obtain ⟨ba, oa, rfl, _, _, hba, hA⟩ := HAA.out (by omega)
      have hkp : k < p.length := HX.out ▸ hlt
      have ca0 := hA k hlt
      obtain ⟨Ak, ck, hk1, -, -, -⟩ := HXR.out k hlt hkp
      rw [hk1] at ca0
      clear hA hk1
      have HT := Lib.hid (total_take_succ p k hkp)
      have hle := total_take_le p (k + 1)
      have hsum : total (p.take k) + p[k].length ≤ 1048576 := by have := HT.out; omega
      clear hle
      have i1 : (0 : Int) ≤ (k : Int) := by omega
      have i2 : (k : Int) < (xs.length : Int) := by omega
      have i3 : ¬ ((total (p.take k) : Int) + (p[k].length : Int)) < 0 := by omega
      go_wp2_with fail
      go_roundw
      case rel => exact ⟨k + 1, by omega, by go_num, congrArg (Value.int .i64) (by rw [HT.out]; omega), trivial⟩
      case measure => simp [intOf]; omega
    · have hkx : k = xs.length := by omega
      have htk : total (p.take k) = total p := by rw [List.take_of_length_le (by rw [← HX.out]; omega)]
      rw [htk]
      clear htk
      go_wp2_with fail
      refine (Grow_any (total p) ht _).mono ?_
      rintro e w1 ⟨⟨v0, rfl, hO0⟩, hb1⟩
      have HO0 := Lib.hid hO0; clear hO0
      have s1 := hb1.size
      go_wp2_with fail
      go_loopw [6, 27] (fun s i wr => ∃ k : Nat, k ≤ xs.length ∧ i = .int .i64 k ∧ wr.ownsRow w.heap.size 66 4 s (total (p.take k)) ((p.take k).flatten.flatMap Ins.cells) ∧ Below w.heap.size w wr) (fun _ i _ => xs.length - (intOf i).toNat)
      case atStart => exact ⟨0, Nat.zero_le _, rfl, HO0.out, hb1⟩
      case round =>
        obtain ⟨q, hq, rfl, hO, hb⟩ := hrel
        have HO := Lib.hid hO; clear hO
        by_cases hlt2 : q < xs.length
        · obtain ⟨ba, oa, rfl, _, _, hba, hA⟩ := HAA.out (by omega)
          have hqp : q < p.length := HX.out ▸ hlt2
          have ca0 := (hb.cell (p := ⟨ba, oa + q, none⟩) hba).trans (hA q hlt2)
          obtain ⟨Ak, ck, hk1, hsrc⟩ := ((HXR.out q hlt2 hqp).below hb hhi).src ins_len (by omega)
          rw [hk1] at ca0
          clear hA hk1
          have SRC := Lib.hid hsrc; clear hsrc
          have HT := Lib.hid (total_take_succ p q hqp)
          have hle := total_take_le p (q + 1)
          have hsum : total (p.take q) + p[q].length ≤ 1048576 := by have := HT.out; omega
          clear hle
          have hbs := hb.size
          have i1 : (0 : Int) ≤ (q : Int) := by omega
          have i2 : (q : Int) < (xs.length : Int) := by omega
          go_wp2_with (at_builtin; refine wpList_append_src _ rfl (.tmp 31) (.tmp 32) 57 rfl w.heap.size 66 i0 _ 4 32 Try.underlying57 hi0 hz0 hz1 hz2 rfl (by omega) _ (total (p.take q)) ((p.take q).flatten.flatMap Ins.cells) rfl HO.out Ak p[q].length ck (p[q].flatMap Ins.cells) rfl (flat_len ins_len _) SRC.out (ins_one _) (by simp only [maxLen]; omega) (by omega) (by omega) ?_; intro v' w2 hown hgrow hat)
          go_roundw
          case rel =>
            refine ⟨q + 1, by omega, by go_num, ?_, hb.grown hgrow (by omega) (fun g hg => (HO.out.lt g hg).1)⟩
            rw [HT.out, List.take_succ_eq_append_getElem hqp, List.flatten_append, List.flatMap_append]
            simpa using hown
          case measure => simp [intOf]; omega
        · have hqx : q = xs.length := by omega
          have htq : p.take q = p := List.take_of_length_le (by rw [← HX.out]; omega)
          have HQ := Lib.hid htq; clear htq
          go_wp2_with fail
          go_ret
          have hO := HO.out
          rw [HQ.out] at hO
          exact ⟨⟨_, rfl, Ow.of_row ins_len hO (by simp [total]) rfl⟩, hb⟩
end Go.Proofs.Ytjjkgemgomfmdaa
