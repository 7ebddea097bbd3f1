/-
  Contract of spec.l1Copy. Conditions: the program reads as lists of at most 1048576 elements.
-/
import Derived.Test.YtjogdblionfmiaaGE
namespace Go.Proofs.Ytjogdblionfmiaa
open Go.ChangeShapes Go.WideShapes Go.ChangeAt Go.RowKit
set_option maxRecDepth 100000

theorem OwOw.of_row {α : Type} {f : α → List Value} {s : Nat} {to ti : TypeId} {w : World} {base n : Nat} {v : Value} {p : List (List α)} {V : Nat → Value}
    (ho : w.ownsRow base to 1 v n ((List.range n).map V)) (hn : n = p.length)
    (hrow : ∀ j (h : j < p.length), Ow f s ti w base w.heap.size (V j) p[j])
    (hsep : ∀ i j (hi : i < p.length) (hj : j < p.length), i ≠ j → 0 < p[i].length → 0 < p[j].length → (V i).ownBlock ≠ (V j).ownBlock) : OwOw f s to ti w base w.heap.size v p := by
  subst hn
  have hlen : ((List.range p.length).map V).length = p.length := by simp
  refine ⟨(List.range p.length).map V, Ow.of_row val_len ho hlen.symm (flat_vals _).symm, hlen, fun k h h' => ?_, fun i j hi hj hi' hj' hne h1 h2 => ?_⟩
  · have : ((List.range p.length).map V)[k] = V k := by simp
    rw [this]
    exact hrow k h'
  · have e1 : ((List.range p.length).map V)[i] = V i := by simp
    have e2 : ((List.range p.length).map V)[j] = V j := by simp
    rw [e1, e2]
    exact hsep i j hi' hj' hne h1 h2

theorem map_range_succ {V : Nat → Value} (k : Nat) (x : Value) : (List.range (k + 1)).map (upd V k x) = (List.range k).map V ++ [x] := by
  rw [List.range_succ, List.map_append]
  congr 1
  · apply List.map_congr_left
    intro a ha
    rw [List.mem_range] at ha
    exact upd_ne _ _ (by omega)
  · simp [upd_same]

/-- one row more, copied into a block of its own, then laid behind the others -/
theorem copy_step {to ti : TypeId} (hne : ti ≠ to) {B k n : Nat} {wr w1 w2 : World} {o1 o2 : Obj} {u v1 : Value} {cells : List Value} {q : List (List Ins)} {V : Nat → Value} (hB : B ≤ wr.heap.size)
    (hI : ∀ j (h : j < q.length), j < k → Ow Ins.cells 4 ti wr B wr.heap.size (V j) q[j])
    (hD : ∀ i j (hi : i < q.length) (hj : j < q.length), i < k → j < k → i ≠ j → 0 < q[i].length → 0 < q[j].length → (V i).ownBlock ≠ (V j).ownBlock)
    (hk : k < q.length) (hO : Ow Ins.cells 4 ti w1 wr.heap.size w1.heap.size v1 q[k]) (hg1 : (wr.alloc o1).grownBy w1 (some wr.heap.size))
    (hout : (w1.alloc o2).ownsRow B to 1 u n cells) (hg2 : (w1.alloc o2).grownBy w2 u.ownBlock) :
    (∀ j (h : j < q.length), j < k + 1 → Ow Ins.cells 4 ti w2 B w2.heap.size (upd V k v1 j) q[j]) ∧
    (∀ i j (hi : i < q.length) (hj : j < q.length), i < k + 1 → j < k + 1 → i ≠ j → 0 < q[i].length → 0 < q[j].length → (upd V k v1 i).ownBlock ≠ (upd V k v1 j).ownBlock) := by
  have s1 := hg1.size
  have s2 := hg2.size
  simp only [World.size_alloc] at s1 s2
  refine ⟨fun j h hj => ?_, fun i j hi hj hik hjk hij h1 h2 => ?_⟩
  · by_cases e : j = k
    · subst e
      rw [upd_same]
      exact ((hO.fr ((Fr.refl 0 0 w1).alloc o2) (by omega)).grownRow hout hne hg2).mono hB (by omega)
    · rw [upd_ne _ _ e]
      have h0 := hI j h (by omega)
      have h3 := (h0.fr ((Fr.refl 0 0 wr).alloc o1) (by omega)).grown hg1 (fun hn => by
        obtain ⟨g, cur, h4, _, h5, _⟩ := h0.block hn
        rw [h4]
        intro h6
        injection h6 with h6
        omega)
      exact ((h3.fr ((Fr.refl 0 0 w1).alloc o2) (by omega)).grownRow hout hne hg2).mono (Nat.le_refl _) (by omega)
  · by_cases e : i = k
    · subst e
      rw [upd_same, upd_ne _ _ (by omega)]
      obtain ⟨g1, _, hg1, hl1, _⟩ := hO.block h1
      obtain ⟨g2, _, hg2, _, hl2, _⟩ := (hI j hj (by omega)).block h2
      rw [hg1, hg2]
      intro h
      injection h with h
      omega
    · rw [upd_ne _ _ e]
      by_cases e2 : j = k
      · subst e2
        rw [upd_same]
        obtain ⟨g1, _, hg1, hl1, _⟩ := hO.block h2
        obtain ⟨g2, _, hg2, _, hl2, _⟩ := (hI i hi (by omega)).block h1
        rw [hg1, hg2]
        intro h
        injection h with h
        omega
      · rw [upd_ne _ _ e2]
        exact hD i j hi hj (by omega) (by omega) hij h1 h2

set_option maxHeartbeats 1000000 in
theorem l1Copy_any {lo hi : Nat} {u : Value} {p : List (List Ins)} {w : World} (hu : SlSl Ins.cells 4 w lo hi u p) (hhi : hi ≤ w.heap.size) (hl : p.length ≤ 1048576) (ht : total p ≤ 1048576) :
    Calls Try.prog 76 #[u] w fun e w' => (∃ (A : Option Addr) (c : Nat), e = .returned (.slice A p.length c) ∧ OwOw Ins.cells 4 78 81 w' w.heap.size w'.heap.size (.slice A p.length c) p) ∧ Below w.heap.size w w' := by
  obtain ⟨xs, hxs, hxl, hxr⟩ := hu
  obtain ⟨A, ca, rfl, hca, hma, hA⟩ := hxs.vals
  clear hxs hma
  obtain ⟨i0, hi0, hz0, hz1, hz2⟩ := info_parts Try.infoIns
  obtain ⟨j0, hj0, hy0, hy1, hy2⟩ := info_parts Try.infoInsS
  have HX := Lib.hid hxl
  have hxle : xs.length ≤ 1048576 := by omega
  clear hxl
  have HXR := Lib.hid hxr; clear hxr
  go_enter Try.func76, Try.ntmps76
  go_wp2_with fail
  go_loopw [3, 4] (fun sv i wr => ∃ (k : Nat) (V : Nat → Value) (A : Option Addr) (c : Nat), k ≤ xs.length ∧ i = .int .i64 k ∧ sv = .slice A k c ∧ Below w.heap.size w wr ∧
      wr.ownsRow w.heap.size 78 1 (.slice A k c) k ((List.range k).map V) ∧
      (∀ j (h : j < p.length), j < k → Ow Ins.cells 4 81 wr w.heap.size wr.heap.size (V j) p[j]) ∧
      (∀ i j (hi : i < p.length) (hj : j < p.length), i < k → j < k → i ≠ j → 0 < p[i].length → 0 < p[j].length → (V i).ownBlock ≠ (V j).ownBlock)) (fun _ i _ => xs.length - (intOf i).toNat)
  case atStart =>
    exact ⟨0, fun _ => .slice none 0 0, _, _, Nat.zero_le _, rfl, rfl, (Below.refl _ _).alloc (Nat.le_refl _) _, World.ownsRow_made w #[] 0 (Nat.le_refl _) (by simp [maxLen]) rfl, fun j _ h => absurd h (by omega), fun i j _ _ h => absurd h (by omega)⟩
  case round =>
    obtain ⟨k, V, A', c', hk, rfl, rfl, hb, hown, hin, hdj⟩ := hrel
    have HI := Lib.hid hin; clear hin
    have HD := Lib.hid hdj; clear hdj
    have HOUT := Lib.hid hown; clear hown
    have hws := hb.size
    by_cases hlt : k < xs.length
    · obtain ⟨ba, oa, rfl, _, _, hba, hA⟩ := hA (by omega)
      have hp : k < p.length := HX.out ▸ hlt
      have ca1 := (hb.cell (p := ⟨ba, oa + k, none⟩) hba).trans (hA k hlt)
      obtain ⟨Ak, ck, hk1, hsrc⟩ := ((HXR.out k hlt hp).below hb hhi).src ins_len (by omega)
      rw [hk1] at ca1
      have hr : p[k].length ≤ 1048576 := Nat.le_trans (row_le_total p k hp) ht
      clear hA hk1
      have i1 : (0 : Int) ≤ (k : Int) := by omega
      have i2 : (k : Int) < (xs.length : Int) := by omega
      have NEW : Hid ((wr.alloc (.cells #[] 81)).ownsRow wr.heap.size 81 4 (.slice (some ⟨wr.heap.size, 0, none⟩) 0 0) 0 []) := World.ownsRow_made wr #[] 0 (Nat.le_refl _) (by simp [maxLen]) rfl
      have SRC : Hid (Src (wr.alloc (.cells #[] 81)) Ak p[k].length (p[k].flatMap Ins.cells)) := hsrc.below ((Below.refl wr.heap.size wr).alloc (Nat.le_refl _) _) (Nat.le_refl _)
      clear hsrc
      have ca2 : (wr.alloc (.cells #[] 81)).cell? ⟨ba, oa + k, none⟩ = some (.slice Ak p[k].length ck) := by
        rw [World.cell?_alloc_lt _ _ _ (World.block_lt_of_cell? wr _ ca1)]
        exact ca1
      clear ca1
      have OUT2 : Hid (∀ w1 : World, (wr.alloc (.cells #[] 81)).grownBy w1 (some wr.heap.size) → ∀ o, (w1.alloc o).ownsRow w.heap.size 78 1 (.slice A' k c') k ((List.range k).map V)) := by
        intro w1 hg o
        refine ((HOUT.out.alloc _).kept hg ?_).alloc o
        by_cases h : (Value.slice A' k c').ownBlock = some wr.heap.size
        · have := (HOUT.out.lt _ h).2
          omega
        · exact .inr h
      go_wp2_with (first
        | (at_builtin; refine wpList_append_new _ rfl (.tmp 13) (.tmp 17) 78 rfl wr.heap.size 81 i0 _ 4 32 Try.underlying78 hi0 hz0 hz1 hz2 rfl (by omega) (.slice (some ⟨wr.heap.size, 0, none⟩) 0 0) rfl NEW.out Ak ck p[k] ins_len rfl SRC.out (ins_one p[k]) (by simp only [maxLen]; omega) (by omega) (by simp) ?_; intro A1 c1 w1 hown1 hg1; have s1 := hg1.size; have HO1 := Lib.hid hown1; clear hown1; have HG1 := Lib.hid hg1; clear hg1)
        | (at_builtin; refine wpList_append_srcx _ rfl (.tmp 12) (.tmp 19) 23 rfl w.heap.size 78 j0 _ 1 24 Try.underlying23 hj0 hy0 hy1 hy2 rfl (by omega) (.slice A' k c') k ((List.range k).map V) rfl (OUT2.out w1 HG1.out _) (some ⟨w1.heap.size, 0, none⟩) 1 1 [.slice A1 p[k].length c1] rfl rfl (Src.one (Blk.new w1 _ _)) (by simp [Value.oneCell']) (by simp only [maxLen]; omega) (by omega) (by simp at s1 ⊢; omega) (by omega) ?_; intro gg cap w2 hown2 hg2 hat2 hlt2))
      go_roundw
      case rel =>
        have CS := copy_step (by decide) hb.size HI.out HD.out hp HO1.out HG1.out (OUT2.out w1 HG1.out _) hg2
        have s2 := hg2.size
        refine ⟨k + 1, upd V k (.slice A1 p[k].length c1), some ⟨gg, 0, none⟩, cap, by omega, by go_num, rfl, ?_, ?_, CS.1, CS.2⟩
        · have g1 := ((Below.refl w.heap.size wr).alloc hb.size (.cells #[] 81)).grown HG1.out (by simp; omega) (fun q hq => by simp [Value.ownBlock] at hq; omega)
          have g2 := ((hb.trans g1).alloc (by simp at s1; omega) (.cells #[.slice A1 p[k].length c1] 78)).grown hg2 (by simp at s1 ⊢; omega) (fun q hq => (HOUT.out.lt q hq).1)
          exact g2
        · rw [map_range_succ]
          exact hown2
      case measure => simp [intOf]; omega
    · have hkx : k = xs.length := by omega
      go_wp2
      go_ret
      have hX := HX.out
      refine ⟨⟨A', c', by rw [← hX, ← hkx]; rfl, ?_⟩, hb⟩
      rw [← hX, ← hkx]
      exact OwOw.of_row HOUT.out (by omega) (fun j h => HI.out j h (by omega)) (fun i j hi hj => HD.out i j hi hj (by omega) (by omega))
end Go.Proofs.Ytjogdblionfmiaa
