/-
  TurnOutcome, of impl and of spec, is one function; what is drawn for it. Plain theorems. No conditions.
-/
import Derived.Test.YtjogdblionfmiaaSTd
import Derived.Test.YtjogdblionfmiaaSTc
import Derived.Test.YtjogdblionfmiaaGJ
namespace Go.Proofs.Ytjogdblionfmiaa
open Go.RowKit
set_option maxRecDepth 100000
theorem within_is (x lo hi : Int) : F_impl_within x lo hi = some (decide (lo ≤ x) && decide (x ≤ hi)) := by
  unfold F_impl_within
  cases decide (lo ≤ x) <;> rfl
theorem l1In_is (x hi : Int) : F_spec_l1In x hi = some (decide (0 ≤ x) && decide (x ≤ hi)) := by
  unfold F_spec_l1In
  cases decide (0 ≤ x) <;> rfl
/-- an outcome is valid -/
def ovB (p : List (List Ximpl_Instr)) (o : List Int) : Bool := validB (p.map fun r => r.map toIns) && (decide (o.length = 3 * p.length + 3) && o.all fun v => decide (0 ≤ v) && decide (v ≤ 3))
def oneB (v : Int) : Bool := decide (0 ≤ v) && decide (v ≤ 3)
theorem take_all {o : List Int} {z : Int} (h0 : 0 ≤ z) (h : z < (o.length : Int)) (hz : (o.take z.toNat).all oneB = true) (h1 : oneB (o.getD z.toNat default) = true) : (o.take (z + 1).toNat).all oneB = true := by
  rw [take_step h0 h, List.all_append, hz, List.all_cons, h1]
  rfl
theorem all_false {o : List Int} {z : Int} (h0 : 0 ≤ z) (h : z < (o.length : Int)) (h1 : oneB (o.getD z.toNat default) = false) : o.all oneB = false := by
  rw [Bool.eq_false_iff]
  intro ha
  rw [List.all_eq_true.1 ha _ (getD_mem h0 h)] at h1
  cases h1
theorem contains_ret (o : List Int) (ho : o.length ≤ 1048576) : Ret (F_slices_ContainsFunc_int_int__impl_OutcomeValid_1 o) (· = !o.all oneB) := by
  unfold F_slices_ContainsFunc_int_int__impl_OutcomeValid_1
  refine Ret.bind (P := fun v : Int => decide (0 ≤ v) = !o.all oneB) ?_ fun v hv => .pure hv
  unfold F_slices_IndexFunc_int_int__impl_OutcomeValid_1
  refine Ret.sum (PS := fun _ => o.all oneB = true) (PW := fun v : Int => decide (0 ≤ v) = !o.all oneB) ?_ fun _ h => .pure (by rw [h]; rfl)
  refine Ret.loop (fun z => 0 ≤ z ∧ z ≤ (o.length : Int) ∧ (o.take z.toNat).all oneB = true) (fun z => ((o.length : Int) - z).toNat) ⟨Int.le_refl _, by omega, by simp⟩ fun z ⟨h1, h2, h3⟩ => ?_
  unfold F_slices_IndexFunc_int_int__impl_OutcomeValid_1_L3
  refine .bifD (fun h0 => .gdD ⟨h1, h0⟩ ?_) fun h0 => .pure ?_
  · refine Ret.bind (P := (· = !oneB (o.getD z.toNat default))) ?_ fun b hb => ?_
    · unfold F_impl_OutcomeValid_1
      rw [within_is]
      exact .pure rfl
    · subst hb
      refine .bif (fun hb => .pure ?_) fun hb => .gdI (by omega) (.pure ⟨⟨by omega, by omega, take_all h1 h0 h3 (by simpa using hb)⟩, by omega⟩)
      rw [all_false h1 h0 (by simpa using hb)]
      simpa using h1
  · have : z = (o.length : Int) := by omega
    rw [this, Int.toNat_natCast, List.take_length] at h3
    exact h3
theorem ovI {p : List (List Ximpl_Instr)} (h : p.length ≤ 1048576 ∧ total p ≤ 1048576) {o : List Int} (ho : o.length ≤ 1048576) : F_impl_OutcomeValid p o = some (ovB p o) := by
  unfold F_impl_OutcomeValid F_impl_ProgramValid ovB
  rw [gd_true (decide_eq_true h)]
  cases validB (p.map fun r => r.map toIns) with
  | false => rfl
  | true =>
    have e : ((o.length : Int) == (((3 : Int) * (p.length : Int)) + 2) + 1) = decide (o.length = 3 * p.length + 3) := by
      rw [Bool.eq_iff_iff, beq_iff_eq, decide_eq_true_eq]
      omega
    simp only [Option.bind_some, cond_true, gd_true (inI_of (n := (3 : Int) * (p.length : Int)) (by omega)), gd_true (inI_of (n := (3 : Int) * (p.length : Int) + 2) (by omega)), gd_true (inI_of (n := (3 : Int) * (p.length : Int) + 2 + 1) (by omega)), e, Bool.true_and]
    cases decide (o.length = 3 * p.length + 3) with
    | false => rfl
    | true =>
      obtain ⟨v, hv, e2⟩ := contains_ret o ho
      simp only [cond_true, hv, Option.bind_some, e2, Bool.not_not, Bool.true_and]
      rfl
theorem ovS {p : List (List Ximpl_Instr)} (h : p.length ≤ 1048576 ∧ total p ≤ 1048576) {o : List Int} (ho : o.length ≤ 1048576) : F_spec_OutcomeValid p o = some (ovB p o) := by
  unfold F_spec_OutcomeValid F_spec_ProgramValid ovB
  rw [gd_true (decide_eq_true h)]
  cases validB (p.map fun r => r.map toIns) with
  | false => rfl
  | true =>
    have e0 : F_spec_l3Size p = some ((3 : Int) * (p.length : Int) + 3) := by
      refine Ret.eq ?_
      unfold F_spec_l3Size
      exact .gdI (by omega) (.gdI (by omega) (.gdI (by omega) (.pure (by omega))))
    have e : ((o.length : Int) != (3 : Int) * (p.length : Int) + 3) = !decide (o.length = 3 * p.length + 3) := by
      rw [Bool.eq_iff_iff, bne_iff_ne, Bool.not_eq_true', decide_eq_false_iff_not]
      omega
    simp only [Option.bind_some, Bool.not_true, cond_false, e0, e, Bool.true_and]
    cases decide (o.length = 3 * p.length + 3) with
    | false => rfl
    | true =>
      refine Ret.eq ?_
      refine Ret.sum (PS := fun _ => o.all oneB = true) (PW := fun v : Bool => v = (true && o.all fun v => decide (0 ≤ v) && decide (v ≤ 3))) ?_ fun _ h => .pure (by rw [show (o.all fun v => decide (0 ≤ v) && decide (v ≤ 3)) = o.all oneB from rfl, h]; rfl)
      refine Ret.loop (fun z => 0 ≤ z ∧ z ≤ (o.length : Int) ∧ (o.take z.toNat).all oneB = true) (fun z => ((o.length : Int) - z).toNat) ⟨Int.le_refl _, by omega, by simp⟩ fun z ⟨h1, h2, h3⟩ => ?_
      unfold F_spec_OutcomeValid_L8
      refine .bifD (fun h0 => .gdD ⟨h1, h0⟩ ?_) fun h0 => .pure ?_
      · rw [l1In_is]
        refine Ret.bind (P := (· = oneB (o.getD z.toNat default))) (.pure rfl) fun b hb => ?_
        subst hb
        refine .bif (fun hb => .pure ?_) fun hb => .gdI (by omega) (.pure ⟨⟨by omega, by omega, take_all h1 h0 h3 (by simpa using hb)⟩, by omega⟩)
        rw [show (o.all fun v => decide (0 ≤ v) && decide (v ≤ 3)) = o.all oneB from rfl, all_false h1 h0 (by simpa using hb)]
        rfl
      · have : z = (o.length : Int) := by omega
        rw [this, Int.toNat_natCast, List.take_length] at h3
        exact h3
theorem isThread_is {p : List (List Ximpl_Instr)} (h : p.length ≤ 1048576 ∧ total p ≤ 1048576) (t : Int) : F_impl_isThread p t = some (validB (p.map fun r => r.map toIns) && (decide (0 ≤ t) && decide (t ≤ (p.length : Int) - 1))) := by
  unfold F_impl_isThread F_impl_ProgramValid
  rw [gd_true (decide_eq_true h)]
  simp only [within_is, gd_true (inI_of (n := (p.length : Int) - 1) (by omega))]
  cases validB (p.map fun r => r.map toIns) <;> rfl
theorem isLoc_is (x : Int) : F_impl_isLoc x = some (decide (0 ≤ x) && decide (x ≤ 2)) := by
  unfold F_impl_isLoc
  rw [within_is]
  rfl
theorem impl_shape {p : List (List Ximpl_Instr)} {o : List Int} {i k x y : Int} {b ti tk lx ly : Bool} (hb : F_impl_OutcomeValid p o = some b) (hti : F_impl_isThread p i = some ti) (htk : F_impl_isThread p k = some tk) (hlx : F_impl_isLoc x = some lx) (hly : F_impl_isLoc y = some ly) :
    F_impl_TurnOutcome p o i k x y = bif (b && (ti && (tk && (lx && ly)))) then F_impl_TurnOutcome_T p o i k x y else some ([], false) := by
  unfold F_impl_TurnOutcome F_impl_TurnOutcome_T
  simp only [hb, hti, htk, hlx, hly]
  cases b <;> cases ti <;> cases tk <;> cases lx <;> cases ly <;> rfl
theorem spec_shape {p : List (List Ximpl_Instr)} {o : List Int} {i k x y : Int} {b ti tk lx ly : Bool} (hb : F_spec_OutcomeValid p o = some b) (hg : inK .i64 ((p.length : Int) - 1) = true) (hti : F_spec_l1In i ((p.length : Int) - 1) = some ti) (htk : F_spec_l1In k ((p.length : Int) - 1) = some tk) (hlx : F_spec_l1In x 2 = some lx) (hly : F_spec_l1In y 2 = some ly) :
    F_spec_TurnOutcome p o i k x y = bif (b && (ti && (tk && (lx && ly)))) then F_spec_TurnOutcome_T p o i k x y else some ([], false) := by
  unfold F_spec_TurnOutcome F_spec_TurnOutcome_T
  simp only [hb, hti, htk, hlx, hly, hg, gd_true]
  cases b <;> cases ti <;> cases tk <;> cases lx <;> cases ly <;> rfl
def Same (p : List (List Ximpl_Instr)) (o : List Int) (i k x y : Int) : Prop := C_impl_TurnOutcome_T p o i k x y = C_spec_TurnOutcome_T p o i k x y ∧ (C_impl_TurnOutcome_T p o i k x y).isSome = true ∧ ((C_impl_TurnOutcome_T p o i k x y).all fun r => Nat.ble r.1.length 12) = true
theorem three {x : Int} (h : 0 ≤ x ∧ x ≤ 2) : x = 0 ∨ x = 1 ∨ x = 2 := by omega
theorem two {x : Int} (h : 0 ≤ x ∧ x ≤ 1) : x = 0 ∨ x = 1 := by omega
theorem fin1 (a : List Ximpl_Instr) (o0 o1 o2 o3 o4 o5 : Int) {i k x y : Int} (hi : 0 ≤ i ∧ i ≤ 0) (hk : 0 ≤ k ∧ k ≤ 0) (hx : 0 ≤ x ∧ x ≤ 2) (hy : 0 ≤ y ∧ y ≤ 2) : Same [a] [o0, o1, o2, o3, o4, o5] i k x y := by
  obtain rfl : i = 0 := by omega
  obtain rfl : k = 0 := by omega
  rcases three hx with rfl | rfl | rfl <;> rcases three hy with rfl | rfl | rfl <;> exact ⟨by kernel_rfl, by kernel_rfl, by kernel_rfl⟩
theorem fin2 (a b : List Ximpl_Instr) (o0 o1 o2 o3 o4 o5 o6 o7 o8 : Int) {i k x y : Int} (hi : 0 ≤ i ∧ i ≤ 1) (hk : 0 ≤ k ∧ k ≤ 1) (hx : 0 ≤ x ∧ x ≤ 2) (hy : 0 ≤ y ∧ y ≤ 2) : Same [a, b] [o0, o1, o2, o3, o4, o5, o6, o7, o8] i k x y := by
  rcases two hi with rfl | rfl <;> rcases two hk with rfl | rfl <;> rcases three hx with rfl | rfl | rfl <;> rcases three hy with rfl | rfl | rfl <;> exact ⟨by kernel_rfl, by kernel_rfl, by kernel_rfl⟩
theorem fin3 (a b c : List Ximpl_Instr) (o0 o1 o2 o3 o4 o5 o6 o7 o8 o9 o10 o11 : Int) {i k x y : Int} (hi : 0 ≤ i ∧ i ≤ 2) (hk : 0 ≤ k ∧ k ≤ 2) (hx : 0 ≤ x ∧ x ≤ 2) (hy : 0 ≤ y ∧ y ≤ 2) : Same [a, b, c] [o0, o1, o2, o3, o4, o5, o6, o7, o8, o9, o10, o11] i k x y := by
  rcases three hi with rfl | rfl | rfl <;> rcases three hk with rfl | rfl | rfl <;> rcases three hx with rfl | rfl | rfl <;> rcases three hy with rfl | rfl | rfl <;> exact ⟨by kernel_rfl, by kernel_rfl, by kernel_rfl⟩
theorem fin_all {p : List (List Ximpl_Instr)} {o : List Int} {i k x y : Int} (hp : 0 < p.length ∧ p.length ≤ 3) (ho : o.length = 3 * p.length + 3) (hi : 0 ≤ i ∧ i ≤ (p.length : Int) - 1) (hk : 0 ≤ k ∧ k ≤ (p.length : Int) - 1) (hx : 0 ≤ x ∧ x ≤ 2) (hy : 0 ≤ y ∧ y ≤ 2) : Same p o i k x y := by
  match p, hp with
  | [a], _ =>
    match o, ho with
    | [o0, o1, o2, o3, o4, o5], _ => exact fin1 a _ _ _ _ _ _ hi hk hx hy
  | [a, b], _ =>
    match o, ho with
    | [o0, o1, o2, o3, o4, o5, o6, o7, o8], _ => exact fin2 a b _ _ _ _ _ _ _ _ _ hi hk hx hy
  | [a, b, c], _ =>
    match o, ho with
    | [o0, o1, o2, o3, o4, o5, o6, o7, o8, o9, o10, o11], _ => exact fin3 a b c _ _ _ _ _ _ _ _ _ _ _ _ hi hk hx hy
theorem turn_all {p : List (List Ximpl_Instr)} {o : List Int} (h : p.length ≤ 1048576 ∧ total p ≤ 1048576) (ho : o.length ≤ 1048576) (i k x y : Int) : ∃ r, F_impl_TurnOutcome p o i k x y = some r ∧ F_spec_TurnOutcome p o i k x y = some r ∧ r.1.length ≤ 12 := by
  have hb := ovI h ho
  have hb' := ovS h ho
  rw [impl_shape hb (isThread_is h i) (isThread_is h k) (isLoc_is x) (isLoc_is y), spec_shape hb' (inI_of (by omega)) (l1In_is i _) (l1In_is k _) (l1In_is x 2) (l1In_is y 2)]
  cases hB : ovB p o with
  | false => exact ⟨_, rfl, rfl, Nat.zero_le _⟩
  | true =>
    unfold ovB at hB
    simp only [Bool.and_eq_true, decide_eq_true_eq, List.length_map] at hB
    obtain ⟨hv, hl, _⟩ := hB
    rw [hv]
    unfold validB shapeB at hv
    simp only [Bool.and_eq_true, decide_eq_true_eq, List.length_map] at hv
    cases hc : (decide (0 ≤ i) && decide (i ≤ (p.length : Int) - 1)) && ((decide (0 ≤ k) && decide (k ≤ (p.length : Int) - 1)) && ((decide (0 ≤ x) && decide (x ≤ 2)) && (decide (0 ≤ y) && decide (y ≤ 2)))) with
    | false =>
      simp only [Bool.true_and, hc]
      exact ⟨_, rfl, rfl, Nat.zero_le _⟩
    | true =>
      simp only [Bool.true_and, hc]
      simp only [Bool.and_eq_true, decide_eq_true_eq] at hc
      obtain ⟨e1, e2, e3⟩ := fin_all (p := p) (o := o) ⟨hv.1.2, hv.1.1.1.1⟩ hl hc.1 hc.2.1 hc.2.2.1 hc.2.2.2
      obtain ⟨r, hr⟩ := Option.isSome_iff_exists.1 e2
      refine ⟨r, C_impl_TurnOutcome_T_le _ _ _ _ _ _ _ hr, C_spec_TurnOutcome_T_le _ _ _ _ _ _ _ (e1 ▸ hr), ?_⟩
      rw [hr] at e3
      exact Nat.le_of_ble_eq_true e3
end Go.Proofs.Ytjogdblionfmiaa
