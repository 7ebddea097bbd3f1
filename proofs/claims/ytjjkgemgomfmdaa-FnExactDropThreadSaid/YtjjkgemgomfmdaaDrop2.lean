/-
  Contract of spec.DropThread. Conditions: the program has at most 1048576 instructions and threads.
-/
import Derived.Test.YtjjkgemgomfmdaaDrop
namespace Go.Proofs.Ytjjkgemgomfmdaa
open Go.ChangeShapes Go.WideShapes Go.ChangeAt Go.RowKit
set_option maxRecDepth 100000

/-- a program of the call's own: its outer block, known whole -/
theorem OwOw.openAll {α : Type} {f : α → List Value} {s : Nat} {to ti : TypeId} {w : World} {lo hi : Nat} {v : Value} {p : List (List α)} (h : OwOw f s to ti w lo hi v p) (hn : 0 < p.length) :
    ∃ (g c : Nat) (cs : Array Value) (V : Nat → Value), v = .slice (some ⟨g, 0, none⟩) p.length c ∧ p.length ≤ c ∧ c ≤ 9223372036854775807 ∧ lo ≤ g ∧ g < hi ∧ Blk w g to cs ∧ cs.size = c ∧
      (∀ j (h : j < p.length), cs[j]? = some (V j) ∧ Ow f s ti w lo hi (V j) p[j]) ∧
      (∀ i j (hi : i < p.length) (hj : j < p.length), i ≠ j → 0 < p[i].length → 0 < p[j].length → (V i).ownBlock ≠ (V j).ownBlock) := by
  obtain ⟨vs, ho, hl, hrow, hsep⟩ := h
  obtain ⟨A, c, rfl, hc, hm, hx⟩ := ho
  obtain ⟨g, cur, rfl, hg1, hg2, hB, hsz, hcells⟩ := hx (by omega)
  have hV : ∀ j (h : j < vs.length), vs.getD j (.slice none 0 0) = vs[j] := fun j h => by simp [h]
  refine ⟨g, c, cur, fun j => vs.getD j (.slice none 0 0), by rw [hl], by omega, hm, hg1, hg2, hB, by omega, fun j h => ?_, fun i j hi hj hij h1 h2 => ?_⟩
  · have hj : j < vs.length := by omega
    have := hcells j hj 0 vs[j] (by simp [val1])
    refine ⟨?_, ?_⟩
    · show _ = some (vs.getD j (.slice none 0 0))
      rw [hV j hj]
      simpa using this
    · show Ow f s ti w lo hi (vs.getD j (.slice none 0 0)) p[j]
      rw [hV j hj]
      exact hrow j hj h
  · show (vs.getD i (.slice none 0 0)).ownBlock ≠ (vs.getD j (.slice none 0 0)).ownBlock
    rw [hV i (by omega), hV j (by omega)]
    exact hsep i j (by omega) (by omega) hi hj hij h1 h2

set_option maxHeartbeats 2000000 in
theorem spec_DropThread_any {lo hi : Nat} {u : Value} {p : List (List Ins)} {w : World} (t : Int) (hu : SlSl Ins.cells 4 w lo hi u p) (hhi : hi ≤ w.heap.size) (ht : total p ≤ 1048576) (hp : p.length ≤ 1048576) :
    Calls Try.prog 35 #[u, .int .i64 t] w fun e w' => (∃ v, e = .returned (.tuple #[v, .bool (dropR p t).2]) ∧ OwOw Ins.cells 4 57 66 w' w.heap.size w'.heap.size v (dropR p t).1) ∧ Below w.heap.size w w' := by
  have HU := Lib.hid hu
  obtain ⟨xs, hxs, hxl, hxr⟩ := hu
  obtain ⟨A, ca, rfl, hca, hma, hA⟩ := hxs.vals
  clear hxs hma hxr hA
  have HX := Lib.hid hxl
  have hxle : xs.length ≤ 1048576 := by omega
  clear hxl
  have PV := Lib.hid (spec_ProgramValid_any (w := w) HU.out hhi ht)
  have hl1 : (decide (0 ≤ t) && decide (t ≤ (xs.length : Int) - 1)) = inB t ((p.length : Int) - 1) := by rw [HX.out]; rfl
  rcases thr_cases p t with ⟨hv, h1⟩ | ⟨hv, h2, h1⟩ | ⟨hv, h2, h1, a, rfl, ha⟩
  · have hr : dropR p t = ([], false) := by unfold dropR; rw [h1]; rfl
    rw [hr]
    rw [hv] at PV
    clear hr h1 hv hl1
    go_enter Try.func35, Try.ntmps35
    go_wp2_with fail
    refine PV.out.mono ?_
    rintro e w1 ⟨rfl, hb1⟩
    go_wp2_with fail
    go_ret2
    exact ⟨⟨_, rfl, OwOw.nil_ _ _ (by omega)⟩, hb1.alloc hb1.size _⟩
  · have hr : dropR p t = ([], false) := by unfold dropR; rw [h1]; rfl
    rw [hr]
    rw [hv] at PV
    rw [h2] at hl1
    have L1 := Lib.hid hl1
    clear hr h1 hv h2 hl1
    go_enter Try.func35, Try.ntmps35
    go_wp2_with fail
    refine PV.out.mono ?_
    rintro e w1 ⟨rfl, hb1⟩
    go_wp2_with fail
    refine (l1In_any _ _ false L1.out _).mono ?_
    rintro e w2 ⟨rfl, rfl⟩
    go_wp2_with fail
    go_ret2
    exact ⟨⟨_, rfl, OwOw.nil_ _ _ (by omega)⟩, hb1.alloc hb1.size _⟩
  · rw [hv] at PV
    rw [h2] at hl1
    have L1 := Lib.hid hl1
    by_cases h3 : p.length = 1
    · have hr : dropR p a = ([], false) := by unfold dropR; rw [if_neg (by simp [h3])]
      rw [hr]
      have HX1 : Hid ((xs.length : Int) = 1) := by rw [HX.out, h3]; rfl
      clear hr h1 hv h2 hl1 h3
      go_enter Try.func35, Try.ntmps35
      go_wp2_with fail
      refine PV.out.mono ?_
      rintro e w1 ⟨rfl, hb1⟩
      go_wp2_with fail
      refine (l1In_any _ _ true L1.out _).mono ?_
      rintro e w2 ⟨rfl, rfl⟩
      have hx1 := HX1.out
      go_wp2_with fail
      go_ret2
      exact ⟨⟨_, rfl, OwOw.nil_ _ _ (by omega)⟩, hb1.alloc hb1.size _⟩
    · have hr : dropR p a = (p.eraseIdx a, true) := by unfold dropR; rw [if_pos (by simp [h1, h3])]; rfl
      rw [hr]
      have HX1 : Hid (¬ (xs.length : Int) = 1) := by rw [HX.out]; show ¬ _; omega
      obtain ⟨i0, hi0, hz0, hz1, hz2⟩ := info_parts Try.infoInsS
      clear hr h1 hv h2 hl1 h3
      go_enter Try.func35, Try.ntmps35
      go_wp2_with fail
      refine PV.out.mono ?_
      rintro e w1 ⟨rfl, hb1⟩
      go_wp2_with fail
      refine (l1In_any _ _ true L1.out _).mono ?_
      rintro e w2 ⟨rfl, rfl⟩
      have hx1 := HX1.out
      have s1 := hb1.size
      go_wp2_with fail
      refine (l1Copy_any (HU.out.below hb1 hhi) (by omega) hp ht).mono ?_
      rintro e w3 ⟨⟨A0, c0, rfl, hM⟩, hb3⟩
      obtain ⟨g, c, cs, V, he, hpc, hc63, hg, hg2, hB, hcs, hrow, hsep⟩ := hM.openAll (by omega)
      injection he with he1 he2 he3
      subst he1 he3
      clear hM
      have g2 : Below w.heap.size w w3 := hb1.trans (hb3.mono s1)
      have G2 := Lib.hid g2
      have hgw : w.heap.size ≤ g := by omega
      have hone : ∀ u ∈ cs.toList.take p.length, u.oneCell' = true := by
        intro u hu
        obtain ⟨k, hk, rfl⟩ := List.getElem_of_mem hu
        have hk' : k < p.length := by simp at hk; omega
        have h5 := (hrow k hk').1
        obtain ⟨_, _, hv6, -⟩ := (hrow k hk').2
        rw [hv6, Array.getElem?_eq_getElem (by omega)] at h5
        injection h5 with h5
        rw [List.getElem_take, Array.getElem_toList, h5]
        rfl
      obtain ⟨news, hnews⟩ : ∃ news, news = (cs.toList.take p.length).drop (a + 1) := ⟨_, rfl⟩
      have hlen : news.length = p.length - (a + 1) := by rw [hnews]; simp [hcs]; omega
      have hget : ∀ t, t < p.length - (a + 1) → news[t]? = cs[a + 1 + t]? := by
        intro t ht
        rw [hnews, List.getElem?_drop, List.getElem?_take, if_pos (by omega), Array.getElem?_toList]
      obtain ⟨A, hA, hsrc⟩ : ∃ A : Addr, (if c0 = a + 1 then some (⟨g, 0, none⟩ : Addr) else some ⟨g, a + 1, none⟩) = some A ∧ Hid (∀ t u, news[t]? = some u → w3.drew.cell? (A.add t) = some u) := by
        by_cases h : c0 = a + 1
        · refine ⟨⟨g, 0, none⟩, by simp [h], fun t u hu => ?_⟩
          have h0 : news.length = 0 := by rw [hlen]; omega
          rw [List.length_eq_zero_iff.1 h0] at hu
          simp at hu
        · refine ⟨⟨g, a + 1, none⟩, by simp [h], fun t u hu => ?_⟩
          have ht : t < p.length - (a + 1) := by
            have := (List.getElem?_eq_some_iff.1 hu).1
            rwa [hlen] at this
          rw [hget t ht] at hu
          rw [add_plain', hB.drew.cell]
          exact hu
      have S1 : Hid (news.length = (p.length - (a + 1)) * 1) := by rw [Nat.mul_one]; exact hlen
      have S2 : Hid (∀ u ∈ news, u.oneCell' = true) := by
        intro u hu
        rw [hnews] at hu
        exact hone u (List.mem_of_mem_drop hu)
      have S3 : Hid (∀ t, t < news.length → (w3.drew.cell? ⟨g, 0 + a * 1 + t, none⟩).isSome = true ∧ w3.drew.frozen? ⟨g, 0 + a * 1 + t, none⟩ = false) := by
        intro t ht
        rw [hlen] at ht
        rw [hB.drew.cell, Array.getElem?_eq_getElem (by omega)]
        exact ⟨rfl, hB.drew.frozen _⟩
      obtain ⟨W1, hW1⟩ : ∃ W1, W1 = w3.drew.setCells g (0 + a * 1) news := ⟨_, rfl⟩
      obtain ⟨c1, hB1, hs1, hc1, hc2⟩ := hB.drew.setCells news (0 + a * 1) _ _ (by omega)
      rw [← hW1] at hB1
      have F1 : Fr g (g + 1) w3 W1 := by rw [hW1]; exact Fr.setCells ⟨Nat.le_refl _, by omega⟩ _ _ _ (Fr.refl _ _ _).drew
      have hget' : ∀ k, k < p.length - 1 → c1[k]? = cs[if k < a then k else k + 1]? := by
        intro k hk
        split
        · exact hc2 k (by omega)
        · have h1 := hc1 (k - a) (by omega)
          rw [show 0 + a * 1 + (k - a) = k by omega, hget (k - a) (by omega), show a + 1 + (k - a) = k + 1 by omega] at h1
          exact h1
      have HG := Lib.hid hget'
      have HB1 := Lib.hid hB1
      have HS1 := Lib.hid (hs1.trans hcs)
      have HF1 := Lib.hid F1
      have HB := Lib.hid hB
      have HROW := Lib.hid hrow
      have HSEP := Lib.hid hsep
      have HW : Hid (W1 = w3.drew.setCells g (0 + a * 1) news) := hW1
      clear hW1 hnews hlen hget hB hcs hone hB1 hs1 hc1 hc2 F1 hget' hrow hsep g2
      have i2 : (0 : Int) ≤ (a : Int) := by omega
      have i3 : (a : Int) ≤ (p.length : Int) := by omega
      have i4 : (0 : Int) ≤ (a : Int) + 1 := by omega
      have i5 : (a : Int) + 1 ≤ (p.length : Int) := by omega
      have i6 : (a : Int) ≤ (c0 : Int) := by omega
      have i7 : ((a : Int) + 1).toNat = a + 1 := by omega
      have i8 : IntKind.i64.wrap ((a : Int) + 1) = (a : Int) + 1 := IntWalk.i64_in _ (by omega)
      go_wp2_with fail
      go_region_law (refine step_append_room rfl (.tmp 28) (.tmp 32) 24 rfl 57 i0 1 Try.underlying24 hi0 hz1 g 0 a c0 (by simp [Act.eval, Act.put]) A (p.length - (a + 1)) (c0 - (a + 1)) news (by simp [Act.eval, Act.put]) S1.out hsrc.out S2.out (by omega) S3.out ?_; rw [← HW.out])
      go_wp2_with fail
      go_ret2
      refine ⟨⟨.slice (some ⟨g, 0, none⟩) (a + (p.length - (a + 1))) c0, rfl, ?_⟩, G2.out.trans (HF1.out.below hgw G2.out.size)⟩
      have hlen : (p.eraseIdx a).length = p.length - 1 := by rw [List.length_eraseIdx, if_pos ha]
      have hM := OwOw.made2 (f := Ins.cells) (s := 4) (ti := 66) (p := p.eraseIdx a) (c := c0) (V := fun j => V (if j < a then j else j + 1)) HB1.out (lo := w.heap.size) (hi := W1.heap.size) ⟨by omega, HB1.out.lt⟩ HS1.out (by omega) (by omega)
        (fun j h => ?_) (fun i j hi hj hij h1 h2 => ?_)
      · rw [hlen, show p.length - 1 = a + (p.length - (a + 1)) by omega] at hM
        exact hM
      · rw [hlen] at h
        rw [List.getElem_eraseIdx]
        have hk : (if j < a then j else j + 1) < p.length := by split <;> omega
        obtain ⟨h5, h6⟩ := HROW.out _ hk
        refine ⟨(HG.out j h).trans h5, ?_⟩
        have h7 := (h6.frOther HB.out (by decide) HF1.out).mono s1 HF1.out.size
        split
        · rename_i e
          simpa [e] using h7
        · rename_i e
          simpa [e] using h7
      · rw [hlen] at hi hj
        rw [List.getElem_eraseIdx] at h1 h2
        have hk1 : (if i < a then i else i + 1) < p.length := by split <;> omega
        have hk2 : (if j < a then j else j + 1) < p.length := by split <;> omega
        refine HSEP.out _ _ hk1 hk2 (by split <;> split <;> omega) ?_ ?_
        · split at h1
          · rename_i e; simpa [e] using h1
          · rename_i e; simpa [e] using h1
        · split at h2
          · rename_i e; simpa [e] using h2
          · rename_i e; simpa [e] using h2
end Go.Proofs.Ytjjkgemgomfmdaa
