/-
  Contract of spec.TurnThreads. Conditions: the program has at most 1048576 instructions and threads.
-/
import Derived.Test.YtjjkgemgomfmdaaTurn
import Derived.Deep.RegionWith
namespace Go.Proofs.Ytjjkgemgomfmdaa
open Go.ChangeShapes Go.WideShapes Go.ChangeAt Go.RowKit
set_option maxRecDepth 100000

theorem turnI_cast (t i k : Nat) : turnI (t : Int) (i : Int) (k : Int) = ((turnN t i k : Nat) : Int) := by
  unfold turnI turnN
  simp only [Int.natCast_inj]
  split
  · rfl
  · split <;> rfl
theorem l12TurnN_any (t i k : Nat) (w : World) : Calls Try.prog 75 #[.int .i64 (t : Int), .int .i64 (i : Int), .int .i64 (k : Int)] w fun e w' => e = .returned (.int .i64 ((turnN t i k : Nat) : Int)) ∧ w = w' := by
  rw [← turnI_cast]
  exact l12Turn_any _ _ _ w

set_option maxHeartbeats 2000000 in
theorem spec_TurnThreads_any {lo hi : Nat} {u : Value} {p : List (List Ins)} {w : World} (i k : Int) (hu : SlSl Ins.cells 4 w lo hi u p) (hhi : hi ≤ w.heap.size) (ht : total p ≤ 1048576) (hp : p.length ≤ 1048576) :
    Calls Try.prog 31 #[u, .int .i64 i, .int .i64 k] w fun e w' => (∃ v, e = .returned (.tuple #[v, .bool (turnR p i k).2]) ∧ OwOw Ins.cells 4 57 66 w' w.heap.size w'.heap.size v (turnR p i k).1) ∧ Below w.heap.size w w' := by
  have HU := Lib.hid hu
  obtain ⟨xs, hxs, hxl, hxr⟩ := hu
  obtain ⟨A, ca, rfl, hca, hma, hA⟩ := hxs.vals
  clear hxs hma
  have HX := Lib.hid hxl
  have hxle : xs.length ≤ 1048576 := by omega
  clear hxl
  have HXR := Lib.hid hxr; clear hxr
  have HAA := Lib.hid hA; clear hA
  have PV := Lib.hid (spec_ProgramValid_any (w := w) HU.out hhi ht)
  have hl1 : ∀ t : Int, (decide (0 ≤ t) && decide (t ≤ (xs.length : Int) - 1)) = inB t ((p.length : Int) - 1) := fun t => by rw [HX.out]; rfl
  have HL1 := Lib.hid hl1; clear hl1
  by_cases hv : validB p = true
  · rw [hv] at PV
    by_cases h1 : inB i ((p.length : Int) - 1) = true
    · by_cases h2 : inB k ((p.length : Int) - 1) = true
      · have hr : turnR p i k = (turnP p i.toNat k.toNat, true) := by unfold turnR thrB; rw [hv, h1, h2]; rfl
        rw [hr]
        have hi := h1
        have hk := h2
        simp only [inB, Bool.and_eq_true, decide_eq_true_eq] at hi hk
        obtain ⟨hi0, hi1⟩ := hi
        obtain ⟨hk0, hk1⟩ := hk
        have L1 := Lib.hid ((HL1.out i).trans h1)
        have L2 := Lib.hid ((HL1.out k).trans h2)
        clear hr hv h1 h2
        obtain ⟨a, rfl⟩ := Int.eq_ofNat_of_zero_le hi0
        obtain ⟨b, rfl⟩ := Int.eq_ofNat_of_zero_le hk0
        simp only [Int.toNat_natCast]
        have ha : a < p.length := by omega
        have hb' : b < p.length := by omega
        obtain ⟨i0, hi0, hz0, hz1, hz2⟩ := info_parts Try.infoIns
        obtain ⟨j0, hj0, hy0, hy1, hy2⟩ := info_parts Try.infoInsS
        have hlen : (turnP p a b).length = p.length := turnP_length p a b
        have HLEN := Lib.hid hlen; clear hlen
        go_enter Try.func31, Try.ntmps31
        go_wp2_with fail
        refine PV.out.mono ?_
        rintro e w1 ⟨rfl, hb1⟩
        go_wp2_with fail
        refine (l1In_any _ _ true L1.out _).mono ?_
        rintro e w2 ⟨rfl, rfl⟩
        go_wp2_with fail
        refine (l1In_any _ _ true L2.out _).mono ?_
        rintro e w2 ⟨rfl, rfl⟩
        have s1 := hb1.size
        go_wp2_with fail
        go_loopw [8, 9] (fun sv i wr => ∃ (k : Nat) (V : Nat → Value) (A : Option Addr) (c : Nat), k ≤ xs.length ∧ i = .int .i64 k ∧ sv = .slice A k c ∧ Below w1.heap.size w1 wr ∧
            wr.ownsRow w1.heap.size 57 1 (.slice A k c) k ((List.range k).map V) ∧
            (∀ j (h : j < (turnP p a b).length), j < k → Ow Ins.cells 4 66 wr w1.heap.size wr.heap.size (V j) (turnP p a b)[j]) ∧
            (∀ i j (hi : i < (turnP p a b).length) (hj : j < (turnP p a b).length), i < k → j < k → i ≠ j → 0 < (turnP p a b)[i].length → 0 < (turnP p a b)[j].length → (V i).ownBlock ≠ (V j).ownBlock)) (fun _ i _ => xs.length - (intOf i).toNat)
        case atStart =>
          exact ⟨0, fun _ => .slice none 0 0, _, _, Nat.zero_le _, rfl, rfl, (Below.refl _ _).alloc (Nat.le_refl _) _, World.ownsRow_made w1 #[] 0 (Nat.le_refl _) (by simp [maxLen]) rfl, fun j _ h => absurd h (by omega), fun i j _ _ h => absurd h (by omega)⟩
        case round =>
          obtain ⟨k, V, A', c', hk, rfl, rfl, hb, hown, hin, hdj⟩ := hrel
          have HI := Lib.hid hin; clear hin
          have HD := Lib.hid hdj; clear hdj
          have HOUT := Lib.hid hown; clear hown
          have hws := hb.size
          by_cases hlt : k < xs.length
          · obtain ⟨ba, oa, rfl, _, _, hba, hA⟩ := HAA.out (by omega)
            have hkp : k < p.length := HX.out ▸ hlt
            have hmp : turnN k a b < p.length := turnN_lt hkp ha hb'
            have hmx : turnN k a b < xs.length := by rw [HX.out]; exact hmp
            have hkq : k < (turnP p a b).length := by rw [HLEN.out]; exact hkp
            have hget := turnP_get p a b k hkq hmp
            have hbb : Below w.heap.size w wr := hb1.trans (hb.mono s1)
            have ca1 := (hbb.cell (p := ⟨ba, oa + turnN k a b, none⟩) hba).trans (hA _ hmx)
            obtain ⟨Ak, ck, hk1, hsrc⟩ := ((HXR.out _ hmx hmp).below hbb hhi).src ins_len (by omega)
            rw [hk1] at ca1
            rw [← hget] at ca1 hsrc
            have hr : (turnP p a b)[k].length ≤ 1048576 := by rw [hget]; exact Nat.le_trans (row_le_total p _ hmp) ht
            clear hA hk1 hget
            have TN := Lib.hid (fun W => l12TurnN_any k a b W)
            generalize turnN k a b = m at *
            generalize hrow : (turnP p a b)[k] = row at *
            have HROW := Lib.hid hrow; clear hrow
            have i1 : (0 : Int) ≤ (m : Int) := by omega
            have i2 : (m : Int) < (xs.length : Int) := by omega
            have i3 : (k : Int) < (xs.length : Int) := by omega
            have NEW : Hid ((wr.alloc (.cells #[] 66)).ownsRow wr.heap.size 66 4 (.slice (some ⟨wr.heap.size, 0, none⟩) 0 0) 0 []) := World.ownsRow_made wr #[] 0 (Nat.le_refl _) (by simp [maxLen]) rfl
            have SRC : Hid (Src (wr.alloc (.cells #[] 66)) Ak row.length (row.flatMap Ins.cells)) := hsrc.below ((Below.refl wr.heap.size wr).alloc (Nat.le_refl _) _) (Nat.le_refl _)
            clear hsrc
            have ca2 : (wr.alloc (.cells #[] 66)).cell? ⟨ba, oa + m, none⟩ = some (.slice Ak row.length ck) := by
              rw [World.cell?_alloc_lt _ _ _ (World.block_lt_of_cell? wr _ ca1)]
              exact ca1
            clear ca1
            have OUT2 : Hid (∀ w1' : World, (wr.alloc (.cells #[] 66)).grownBy w1' (some wr.heap.size) → ∀ o, (w1'.alloc o).ownsRow w1.heap.size 57 1 (.slice A' k c') k ((List.range k).map V)) := by
              intro w1' hg o
              refine ((HOUT.out.alloc _).kept hg ?_).alloc o
              by_cases h : (Value.slice A' k c').ownBlock = some wr.heap.size
              · have := (HOUT.out.lt _ h).2
                omega
              · exact .inr h
            go_wp2_with (first
              | (go_at_call 75; refine (TN.out _).mono ?_; rintro e w5 ⟨rfl, rfl⟩)
              | (at_builtin; refine wpList_append_new _ rfl (.tmp 38) (.tmp 45) 57 rfl wr.heap.size 66 i0 _ 4 32 Try.underlying57 hi0 hz0 hz1 hz2 rfl (by omega) (.slice (some ⟨wr.heap.size, 0, none⟩) 0 0) rfl NEW.out Ak ck row ins_len rfl SRC.out (ins_one row) (by simp only [maxLen]; omega) (by omega) (by simp) ?_; intro A1 c1 w6 hown1 hg1; have s6 := hg1.size; have HO1 := Lib.hid hown1; clear hown1; have HG1 := Lib.hid hg1; clear hg1)
              | (at_builtin; refine wpList_append_srcx _ rfl (.tmp 37) (.tmp 47) 24 rfl w1.heap.size 57 j0 _ 1 24 Try.underlying24 hj0 hy0 hy1 hy2 rfl (by omega) (.slice A' k c') k ((List.range k).map V) rfl (OUT2.out w6 HG1.out _) (some ⟨w6.heap.size, 0, none⟩) 1 1 [.slice A1 row.length c1] rfl rfl (Src.one (Blk.new w6 _ _)) (by simp [Value.oneCell']) (by simp only [maxLen]; omega) (by omega) (by simp at s6 ⊢; omega) (by omega) ?_; intro gg cap w7 hown2 hg2 hat2 hlt2))
            go_roundw
            case rel =>
              have HO2 : Ow Ins.cells 4 66 w6 wr.heap.size w6.heap.size (.slice A1 row.length c1) (turnP p a b)[k] := by rw [HROW.out]; exact HO1.out
              have CS := copy_step (by decide) hb.size HI.out HD.out hkq HO2 HG1.out (OUT2.out w6 HG1.out _) hg2
              refine ⟨k + 1, upd V k (.slice A1 row.length c1), some ⟨gg, 0, none⟩, cap, by omega, by go_num, rfl, ?_, ?_, CS.1, CS.2⟩
              · have g1 := ((Below.refl w1.heap.size wr).alloc hb.size (.cells #[] 66)).grown HG1.out (by simp; omega) (fun q hq => by simp [Value.ownBlock] at hq; omega)
                exact ((hb.trans g1).alloc (by simp at s6; omega) (.cells #[.slice A1 row.length c1] 57)).grown hg2 (by simp at s6 ⊢; omega) (fun q hq => (HOUT.out.lt q hq).1)
              · rw [map_range_succ]
                exact hown2
            case measure => simp [intOf]; omega
          · have hkx : k = xs.length := by omega
            go_wp2_with fail
            go_ret2
            have hX := HX.out
            have hL := HLEN.out
            refine ⟨⟨_, rfl, ?_⟩, hb1.trans (hb.mono s1)⟩
            exact (OwOw.of_row HOUT.out (by omega) (fun j h => HI.out j h (by omega)) (fun i j hi hj => HD.out i j hi hj (by omega) (by omega))).mono s1 (Nat.le_refl _)
      · have hr : turnR p i k = ([], false) := by unfold turnR thrB; simp [h2]
        rw [hr]
        have h2' : inB k ((p.length : Int) - 1) = false := by simpa using h2
        have L1 := Lib.hid ((HL1.out i).trans h1)
        have L2 := Lib.hid ((HL1.out k).trans h2')
        clear h1 h2 h2' hr hv
        go_enter Try.func31, Try.ntmps31
        go_wp2_with fail
        refine PV.out.mono ?_
        rintro e w1 ⟨rfl, hb1⟩
        go_wp2_with fail
        refine (l1In_any _ _ true L1.out _).mono ?_
        rintro e w2 ⟨rfl, rfl⟩
        go_wp2_with fail
        refine (l1In_any _ _ false L2.out _).mono ?_
        rintro e w2 ⟨rfl, rfl⟩
        go_wp2_with fail
        go_ret2
        exact ⟨⟨_, rfl, OwOw.nil_ _ _ (by omega)⟩, hb1.alloc hb1.size _⟩
    · have hr : turnR p i k = ([], false) := by unfold turnR thrB; simp [h1]
      rw [hr]
      have h1' : inB i ((p.length : Int) - 1) = false := by simpa using h1
      have L1 := Lib.hid ((HL1.out i).trans h1')
      clear h1 h1' hr hv
      go_enter Try.func31, Try.ntmps31
      go_wp2_with fail
      refine PV.out.mono ?_
      rintro e w1 ⟨rfl, hb1⟩
      go_wp2_with fail
      refine (l1In_any _ _ false L1.out _).mono ?_
      rintro e w2 ⟨rfl, rfl⟩
      go_wp2_with fail
      go_ret2
      exact ⟨⟨_, rfl, OwOw.nil_ _ _ (by omega)⟩, hb1.alloc hb1.size _⟩
  · have hr : turnR p i k = ([], false) := by unfold turnR thrB; simp [hv]
    rw [hr]
    have hv' : validB p = false := by simpa using hv
    rw [hv'] at PV
    clear hv hv' hr
    go_enter Try.func31, Try.ntmps31
    go_wp2_with fail
    refine PV.out.mono ?_
    rintro e w1 ⟨rfl, hb1⟩
    go_wp2_with fail
    go_ret2
    exact ⟨⟨_, rfl, OwOw.nil_ _ _ (by omega)⟩, hb1.alloc hb1.size _⟩
end Go.Proofs.Ytjjkgemgomfmdaa
