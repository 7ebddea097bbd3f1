/-
  One thread has no delays. Plain theorems. No conditions.
-/
import Derived.Test.YtjogdblionfmiaaDev
import Derived.Test.YtjogdblionfmiaaS21c
namespace Go.Proofs.Ytjogdblionfmiaa
open Go.RowKit
set_option maxRecDepth 100000
/-! ### as many loads as there are instructions that are no fences: all cases -/
def rowJ (j : Nat) : List Ximpl_Instr := List.replicate j ⟨1, 0, 0, 0⟩
noncomputable def chkD (j : Nat) : Bool := match C_impl_delayRel [rowJ j] with
  | none => false
  | some r => match C_impl_CountRel r with
    | none => false
    | some c => decide (c = 0)
theorem chk_all : ((List.range 8).all chkD) = true := by decide +kernel
theorem delayJ {j : Nat} (h : j < 8) : ∃ r, F_impl_delayRel [rowJ j] = some r ∧ F_impl_CountRel r = some 0 := by
  have hc := List.all_eq_true.1 chk_all j (List.mem_range.2 h)
  unfold chkD at hc
  cases e1 : C_impl_delayRel [rowJ j] with
  | none => rw [e1] at hc; cases hc
  | some r =>
    cases e2 : C_impl_CountRel r with
    | none => simp only [e1, e2] at hc; cases hc
    | some c =>
      simp only [e1, e2, decide_eq_true_eq] at hc
      subst hc
      exact ⟨r, C_impl_delayRel_le _ _ e1, C_impl_CountRel_le _ _ e2⟩
/-! ### the events of one thread -/
/-- the first three, then those of a thread in order -/
def Std (l : List Ximpl_Event) : Prop := (∀ i, i < l.length → (l.getD i default).Thread = if i < 3 then -1 else 0) ∧ ∀ i k, 3 ≤ i → i < l.length → 3 ≤ k → k < l.length → ((l.getD i default).Index < (l.getD k default).Index ↔ i < k)
theorem evR_pw (t : Nat) (row : List Ximpl_Instr) (n : Nat) : (evR t row n).Pairwise fun a b => a.Index < b.Index := by
  induction n with
  | zero => exact .nil
  | succ n ih =>
    refine List.pairwise_append.2 ⟨ih, ?_, fun a ha b hb => ?_⟩
    · unfold evI
      split
      · exact .nil
      · exact List.pairwise_singleton _ _
    · obtain ⟨k, h1, _, h2⟩ := evR_mem ha
      unfold evI at hb
      split at hb
      · simp at hb
      · rw [List.mem_singleton.1 hb, h2]
        simp only []
        omega
theorem evs_one (row : List Ximpl_Instr) : evs [row] = ev0 ++ evR 0 row row.length := rfl
theorem std_one (row : List Ximpl_Instr) : Std (evs [row]) := by
  rw [evs_one]
  have hpw := List.pairwise_iff_getElem.1 (evR_pw 0 row row.length)
  have hmem : ∀ e ∈ evR 0 row row.length, e.Thread = 0 := fun e he => by
    obtain ⟨k, _, h, _⟩ := evR_mem he
    exact h
  generalize evR 0 row row.length = R at hpw hmem
  have hg : ∀ i, 3 ≤ i → i < (ev0 ++ R).length → ∃ h : i - 3 < R.length, (ev0 ++ R).getD i default = R[i - 3] := fun i h3 hi => by
    have hl : ev0.length = 3 := rfl
    have h' : i - 3 < R.length := by rw [List.length_append] at hi; omega
    refine ⟨h', ?_⟩
    rw [List.getD_eq_getElem?_getD, List.getElem?_append_right (by omega), hl, List.getElem?_eq_getElem h']
    rfl
  refine ⟨fun i hi => ?_, fun i k h1 h2 h3 h4 => ?_⟩
  · by_cases h : i < 3
    · rw [if_pos h]
      match i, h with
      | 0, _ => rfl
      | 1, _ => rfl
      | 2, _ => rfl
    · rw [if_neg h]
      obtain ⟨h', e⟩ := hg i (by omega) hi
      rw [e]
      exact hmem _ (List.getElem_mem _)
  · obtain ⟨a1, a2⟩ := hg i h1 h2
    obtain ⟨b1, b2⟩ := hg k h3 h4
    rw [a2, b2]
    by_cases hik : i < k
    · exact ⟨fun _ => hik, fun _ => hpw _ _ a1 b1 (by omega)⟩
    · refine ⟨fun h => ?_, fun h => absurd h hik⟩
      by_cases e : i = k
      · subst e
        omega
      · have := hpw _ _ b1 a1 (by omega)
        omega
section
variable {l l' : List Ximpl_Event} (h : Std l) (h' : Std l') (hl : l'.length = l.length)
include h h' hl
theorem delay1_congr (i k : Int) : F_impl_delayRel_1 i k l' = F_impl_delayRel_1 i k l := by
  unfold F_impl_delayRel_1
  simp only [hl]
  refine bind_congr' (gdD_congr' fun hi => ?_) fun _ => rfl
  have e1 := h.1 i.toNat (by omega)
  have e2 := h'.1 i.toNat (by omega)
  rw [e1, e2]
  by_cases h3 : i.toNat < 3
  · simp only [h3, if_true]
    rfl
  · simp only [h3, if_false]
    refine cond_congr' (gdD_congr' fun hk => ?_) rfl
    have e3 := h.1 k.toNat (by omega)
    have e4 := h'.1 k.toNat (by omega)
    rw [e3, e4]
    by_cases h4 : k.toNat < 3
    · simp only [h4, if_true]
      rfl
    · simp only [h4, if_false]
      refine cond_congr' (congrArg some ?_) rfl
      have c1 := h.2 i.toNat k.toNat (by omega) (by omega) (by omega) (by omega)
      have c2 := h'.2 i.toNat k.toNat (by omega) (by omega) (by omega) (by omega)
      exact decide_eq_decide.2 (c2.trans c1.symm)
theorem delayP_congr (n : Int) : F_impl_pairsOf__impl_delayRel_1 n l' = F_impl_pairsOf__impl_delayRel_1 n l := by
  have e1 : F_impl_pairsOf__impl_delayRel_1_L11 n l' = F_impl_pairsOf__impl_delayRel_1_L11 n l := by
    funext a b
    unfold F_impl_pairsOf__impl_delayRel_1_L11
    simp only [delay1_congr h h' hl]
  have e2 : F_impl_pairsOf__impl_delayRel_1_L5 n l' = F_impl_pairsOf__impl_delayRel_1_L5 n l := by
    funext a
    unfold F_impl_pairsOf__impl_delayRel_1_L5
    rw [e1]
  unfold F_impl_pairsOf__impl_delayRel_1
  rw [e2]
theorem confl1_congr (i k : Int) (p p' : List (List Ximpl_Instr)) : F_impl_conflictRel_1 i k l' p' = F_impl_conflictRel_1 i k l p := by
  unfold F_impl_conflictRel_1
  simp only [hl]
  refine gdD_congr' fun hi => gdD_congr' fun hk => bind_congr' ?_ fun _ => rfl
  have e1 := h.1 i.toNat (by omega)
  have e2 := h'.1 i.toNat (by omega)
  have e3 := h.1 k.toNat (by omega)
  have e4 := h'.1 k.toNat (by omega)
  rw [e1, e2, e3, e4]
  by_cases h3 : i.toNat < 3
  · simp only [h3, if_true]
    rfl
  · by_cases h4 : k.toNat < 3
    · simp only [h3, h4, if_true, if_false]
      rfl
    · simp only [h3, h4, if_false]
      rfl
theorem conflP_congr (n : Int) (p p' : List (List Ximpl_Instr)) : F_impl_pairsOf__impl_conflictRel_1 n l' p' = F_impl_pairsOf__impl_conflictRel_1 n l p := by
  have e1 : F_impl_pairsOf__impl_conflictRel_1_L11 n l' p' = F_impl_pairsOf__impl_conflictRel_1_L11 n l p := by
    funext a b
    unfold F_impl_pairsOf__impl_conflictRel_1_L11
    simp only [confl1_congr h h' hl _ _ p p']
  have e2 : F_impl_pairsOf__impl_conflictRel_1_L5 n l' p' = F_impl_pairsOf__impl_conflictRel_1_L5 n l p := by
    funext a
    unfold F_impl_pairsOf__impl_conflictRel_1_L5
    rw [e1]
  unfold F_impl_pairsOf__impl_conflictRel_1
  rw [e2]
end
theorem evR_rowJ (j n : Nat) (h : n ≤ j) : (evR 0 (rowJ j) n).length = n := by
  induction n with
  | zero => rfl
  | succ n ih =>
    have e : (rowJ j).getD n default = ⟨1, 0, 0, 0⟩ := by simp [rowJ, show n < j by omega]
    simp only [evR, List.length_append, ih (by omega), evI, e]
    rfl
theorem delay_one {row : List Ximpl_Instr} (hr : row.length ≤ 7) : ∃ r, F_impl_delayRel [row] = some r ∧ F_impl_CountRel r = some 0 := by
  have hjl := evR_len 0 row row.length
  generalize hj : (evR 0 row row.length).length = j at hjl
  have hV : ∀ r : List Ximpl_Instr, r.length ≤ 7 → Vs [r] := fun r h => ⟨by simp, fun n => by
    match n with
    | 0 => exact h
    | n + 1 => exact Nat.zero_le _⟩
  have hlj : (rowJ j).length ≤ 7 := by simp only [rowJ, List.length_replicate]; omega
  have e1 := (ievents (hV row hr)).eq
  have e2 := (ievents (hV (rowJ j) hlj)).eq
  have s1 := std_one row
  have s2 := std_one (rowJ j)
  have hlen : (evs [row]).length = (evs [rowJ j]).length := by
    rw [evs_one, evs_one, List.length_append, List.length_append, hj]
    have : (rowJ j).length = j := by simp [rowJ]
    rw [this, evR_rowJ j j (Nat.le_refl _)]
  obtain ⟨r, h1, h2⟩ := delayJ (j := j) (by omega)
  refine ⟨r, ?_, h2⟩
  rw [← h1]
  unfold F_impl_delayRel F_impl_conflictRel
  rw [e1, e2]
  simp only [Option.bind_some, hlen, delayP_congr s2 s1 hlen, conflP_congr s2 s1 hlen _ [rowJ j] [row]]
end Go.Proofs.Ytjogdblionfmiaa
