/-
  Contracts of impl.DropThread, spec.DropThread. Conditions: the program has at most 1048576 instructions and threads.
-/
import Derived.Test.YtjogdblionfmiaaDelete
import Derived.Test.YtjogdblionfmiaaReorder3
namespace Go.Proofs.Ytjogdblionfmiaa
open Go.ChangeShapes Go.WideShapes Go.ChangeAt Go.RowKit
set_option maxRecDepth 100000

theorem Ow.frOther {α : Type} {f : α → List Value} {s : Nat} {to ti : TypeId} {w w' : World} {lo hi g : Nat} {v : Value} {xs : List α} {cs : Array Value} (h : Ow f s ti w lo hi v xs) (hB : Blk w g to cs) (hne : ti ≠ to) (hF : Fr g (g + 1) w w') : Ow f s ti w' lo hi v xs := by
  obtain ⟨A, c, rfl, hc, hm, hx⟩ := h
  refine ⟨A, c, rfl, hc, hm, fun hn => ?_⟩
  obtain ⟨gk, cur, rfl, h1, h2, hBk, hs, hcur⟩ := hx hn
  have hgk : gk ≠ g := by
    intro e
    subst e
    exact hne (hBk.inj hB).1
  exact ⟨gk, cur, rfl, h1, h2, hBk.fr hF (by omega), hs, hcur⟩

def dropR (p : List (List Ins)) (t : Int) : List (List Ins) × Bool := if (thrB p t && decide (p.length ≠ 1)) = true then (p.eraseIdx t.toNat, true) else ([], false)

set_option maxHeartbeats 1000000 in
theorem impl_DropThread_any {lo hi : Nat} {u : Value} {p : List (List Ins)} {w : World} (t : Int) (hu : SlSl Ins.cells 4 w lo hi u p) (hhi : hi ≤ w.heap.size) (ht : total p ≤ 1048576) (hp : p.length ≤ 1048576) :
    Calls Try.prog 36 #[u, .int .i64 t] w fun e w' => (∃ v, e = .returned (.tuple #[v, .bool (dropR p t).2]) ∧ OwOw Ins.cells 4 78 81 w' w.heap.size w'.heap.size v (dropR p t).1) ∧ Below w.heap.size w w' := by
  have HU := Lib.hid hu
  obtain ⟨xs, hxs, hxl, hxr⟩ := hu
  obtain ⟨A, ca, rfl, hca, hma, hA⟩ := hxs.vals
  clear hxs hma hxr hA
  have HX := Lib.hid hxl
  have hxle : xs.length ≤ 1048576 := by omega
  clear hxl
  have IT := Lib.hid (isThread_any (w := w) t (thrB p t) HU.out hhi ht hp rfl)
  rcases thr_cases p t with ⟨hv, h1⟩ | ⟨hv, h2, h1⟩ | ⟨hv, h2, h1, a, rfl, ha⟩
  · have hr : dropR p t = ([], false) := by unfold dropR; rw [h1]; rfl
    rw [hr]
    rw [h1] at IT
    clear hr h1 hv
    go_enter Try.func36, Try.ntmps36
    go_wp2_with fail
    refine IT.out.mono ?_
    rintro e w1 ⟨rfl, hb1⟩
    go_wp2_with fail
    go_ret2
    exact ⟨⟨_, rfl, OwOw.nil_ _ _ (by omega)⟩, hb1⟩
  · have hr : dropR p t = ([], false) := by unfold dropR; rw [h1]; rfl
    rw [hr]
    rw [h1] at IT
    clear hr h1 h2 hv
    go_enter Try.func36, Try.ntmps36
    go_wp2_with fail
    refine IT.out.mono ?_
    rintro e w1 ⟨rfl, hb1⟩
    go_wp2_with fail
    go_ret2
    exact ⟨⟨_, rfl, OwOw.nil_ _ _ (by omega)⟩, hb1⟩
  · rw [h1] at IT
    by_cases h3 : p.length = 1
    · have hr : dropR p a = ([], false) := by unfold dropR; rw [if_neg (by simp [h3])]
      rw [hr]
      have hx1 : (xs.length : Int) = 1 := by rw [HX.out, h3]; rfl
      clear hr h1 h2 hv h3
      go_enter Try.func36, Try.ntmps36
      go_wp2_with fail
      refine IT.out.mono ?_
      rintro e w1 ⟨rfl, hb1⟩
      go_wp2_with fail
      go_ret2
      exact ⟨⟨_, rfl, OwOw.nil_ _ _ (by omega)⟩, hb1⟩
    · have hr : dropR p a = (p.eraseIdx a, true) := by unfold dropR; rw [if_pos (by simp [h1, h3])]; rfl
      rw [hr]
      have hx1 : ¬ (xs.length : Int) = 1 := by rw [HX.out]; omega
      clear hr h1 h2 hv h3
      go_enter Try.func36, Try.ntmps36
      go_wp2_with fail
      refine IT.out.mono ?_
      rintro e w1 ⟨rfl, hb1⟩
      have s1 := hb1.size
      go_wp2_with fail
      refine (cloneProgram_any (HU.out.below hb1 hhi) (by omega) hp ht).mono ?_
      rintro e w3 ⟨⟨g, cs, V, rfl, hB, hg, hcs, hrow, hsep⟩, hb3⟩
      have hone : ∀ u ∈ cs.toList, u.oneCell' = true := by
        intro u hu
        obtain ⟨k, hk, rfl⟩ := List.getElem_of_mem hu
        have hk' : k < p.length := by simpa [hcs] using hk
        have h5 := (hrow k hk').1
        obtain ⟨_, _, hv6, -⟩ := (hrow k hk').2
        rw [hv6, Array.getElem?_eq_getElem (by omega)] at h5
        injection h5 with h5
        simp only [Array.getElem_toList]
        rw [h5]
        rfl
      have DL := Lib.hid (Delete_any (w := w3) hB hcs ha (by omega) hone)
      have HROW := Lib.hid hrow; clear hrow
      have HSEP := Lib.hid hsep; clear hsep
      have HB := Lib.hid hB; clear hB
      have HCS := Lib.hid hcs; clear hcs hone
      go_wp2_with fail
      refine DL.out.mono ?_
      rintro e w4 ⟨rfl, ⟨cs', hB', hcs', hget'⟩, hF⟩
      go_wp2_with fail
      go_ret2
      have g2 : Below w.heap.size w w3 := hb1.trans (hb3.mono s1)
      refine ⟨⟨_, rfl, ?_⟩, g2.trans (hF.below (by omega) g2.size)⟩
      have hlen : (p.eraseIdx a).length = p.length - 1 := by rw [List.length_eraseIdx, if_pos ha]
      have hM := OwOw.made2 (f := Ins.cells) (s := 4) (ti := 81) (p := p.eraseIdx a) (c := p.length) (V := fun j => V (if j < a then j else j + 1)) hB' (lo := w.heap.size) (hi := w4.heap.size) ⟨by omega, hB'.lt⟩ hcs' (by omega) (by omega)
        (fun j h => ?_) (fun i j hi hj hij h1 h2 => ?_)
      · rw [hlen] at hM
        exact hM
      · rw [hlen] at h
        rw [List.getElem_eraseIdx]
        have hk : (if j < a then j else j + 1) < p.length := by split <;> omega
        obtain ⟨h5, h6⟩ := HROW.out _ hk
        refine ⟨(hget' j h).trans h5, ?_⟩
        have h7 := (h6.frOther HB.out (by decide) hF).mono s1 hF.size
        split
        · rename_i e
          simpa [e] using h7
        · rename_i e
          simpa [e] using h7
      · rw [hlen] at hi hj
        rw [List.getElem_eraseIdx] at h1 h2
        have hk1 : (if i < a then i else i + 1) < p.length := by split <;> omega
        have hk2 : (if j < a then j else j + 1) < p.length := by split <;> omega
        refine HSEP.out _ _ hk1 hk2 (by split <;> split <;> omega) ?_ ?_
        · split at h1
          · rename_i e; simpa [e] using h1
          · rename_i e; simpa [e] using h1
        · split at h2
          · rename_i e; simpa [e] using h2
          · rename_i e; simpa [e] using h2
end Go.Proofs.Ytjogdblionfmiaa
