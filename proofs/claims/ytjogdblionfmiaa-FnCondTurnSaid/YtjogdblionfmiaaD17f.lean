/-
  TurnOutcome twice, TurnThreads twice, and what is drawn. Plain theorems. No conditions.
-/
import Derived.Test.YtjogdblionfmiaaD17e
import Derived.Test.YtjogdblionfmiaaBrTid
import Derived.Test.YtjogdblionfmiaaPs
import Derived.Test.YtjogdblionfmiaaDv
namespace Go.Proofs.Ytjogdblionfmiaa
open Go.RowKit
set_option maxRecDepth 100000
/-! ### threads exchanged -/
theorem valid_perm {p q : List (List Ins)} (h : q.Perm p) : validB q = validB p := by
  have hc : ∀ f, cntP f q = cntP f p := fun f => by
    unfold cntP
    exact (h.map _).sum_nat
  have ha : q.all rowOk = p.all rowOk := by
    rw [Bool.eq_iff_iff, List.all_eq_true, List.all_eq_true]
    exact ⟨fun g x hx => g x (h.mem_iff.2 hx), fun g x hx => g x (h.mem_iff.1 hx)⟩
  have he : execsT q = execsT p := by
    unfold execsT
    simp only [pT, locF, cw, cr, hc]
  have hn := hc notF
  unfold validB shapeB
  rw [ha, hn, he, h.length_eq]
theorem perm3 (a b c : List Ins) : [c, b, a].Perm [a, b, c] := List.reverse_perm [a, b, c]
theorem turnP_perm {p : List (List Ins)} (h3 : p.length ≤ 3) {i k : Nat} (hi : i < p.length) (hk : k < p.length) : (turnP p i k).Perm p ∧ turnP (turnP p i k) i k = p := by
  match p, h3 with
  | [], _ => exact absurd hi (by simp)
  | [a], _ =>
    simp only [List.length_cons, List.length_nil] at hi hk
    obtain rfl : i = 0 := by omega
    obtain rfl : k = 0 := by omega
    exact ⟨.refl _, rfl⟩
  | [a, b], _ =>
    simp only [List.length_cons, List.length_nil] at hi hk
    rcases (show i = 0 ∨ i = 1 by omega) with rfl | rfl <;> rcases (show k = 0 ∨ k = 1 by omega) with rfl | rfl
    · exact ⟨.refl _, rfl⟩
    · exact ⟨.swap _ _ _, rfl⟩
    · exact ⟨.swap _ _ _, rfl⟩
    · exact ⟨.refl _, rfl⟩
  | [a, b, c], _ =>
    simp only [List.length_cons, List.length_nil] at hi hk
    rcases (show i = 0 ∨ i = 1 ∨ i = 2 by omega) with rfl | rfl | rfl <;> rcases (show k = 0 ∨ k = 1 ∨ k = 2 by omega) with rfl | rfl | rfl
    · exact ⟨.refl _, rfl⟩
    · exact ⟨.swap _ _ _, rfl⟩
    · exact ⟨perm3 a b c, rfl⟩
    · exact ⟨.swap _ _ _, rfl⟩
    · exact ⟨.refl _, rfl⟩
    · exact ⟨.cons _ (.swap _ _ _), rfl⟩
    · exact ⟨perm3 a b c, rfl⟩
    · exact ⟨.cons _ (.swap _ _ _), rfl⟩
    · exact ⟨.refl _, rfl⟩
theorem turnR_twice {p : List (List Ins)} {i k : Int} (hv : validB p = true) (hi : 0 ≤ i ∧ i ≤ (p.length : Int) - 1) (hk : 0 ≤ k ∧ k ≤ (p.length : Int) - 1) : ∃ q, turnR p i k = (q, true) ∧ turnR q i k = (p, true) ∧ q.Perm p := by
  have h3 : p.length ≤ 3 := by
    unfold validB shapeB at hv
    simp only [Bool.and_eq_true, decide_eq_true_eq] at hv
    exact hv.1.1.1.1
  obtain ⟨h1, h2⟩ := turnP_perm (p := p) (i := i.toNat) (k := k.toNat) h3 (by omega) (by omega)
  have ht : ∀ q : List (List Ins), validB q = true → q.length = p.length → (thrB q i && thrB q k) = true := fun q hq hl => by
    unfold thrB inB
    rw [hq, hl]
    simp only [Bool.true_and, Bool.and_eq_true, decide_eq_true_eq]
    exact ⟨hi, hk⟩
  refine ⟨turnP p i.toNat k.toNat, by unfold turnR; rw [if_pos (ht p hv rfl)], ?_, h1⟩
  unfold turnR
  rw [if_pos (ht _ (by rw [valid_perm h1]; exact hv) h1.length_eq), h2]
/-! ### outcomes exchanged -/
noncomputable def tOf (p : List (List Ximpl_Instr)) (o : List Int) (i k x y : Int) : List Int × Bool := (C_impl_TurnOutcome_T p o i k x y).getD ([], false)
structure Twice (p : List (List Ximpl_Instr)) (o : List Int) (i k x y : Int) : Prop where
  is : C_impl_TurnOutcome_T p o i k x y = some ((tOf p o i k x y).1, true)
  back : C_impl_TurnOutcome_T p (tOf p o i k x y).1 i k x y = some (o, true)
  len : (tOf p o i k x y).1.length = o.length
  nat : ∀ g : Int → Int, C_impl_TurnOutcome_T p (o.map g) i k x y = some ((tOf p o i k x y).1.map g, true)
  r0 : (tOf p o i k x y).1.getD (3 * k.toNat) 0 = o.getD (3 * i.toNat) 0
  r1 : (tOf p o i k x y).1.getD (3 * k.toNat + 1) 0 = o.getD (3 * i.toNat + 1) 0
  r2 : (tOf p o i k x y).1.getD (3 * k.toNat + 2) 0 = o.getD (3 * i.toNat + 2) 0
theorem tw1 (a : List Ximpl_Instr) (o0 o1 o2 o3 o4 o5 : Int) {i k x y : Int} (hi : 0 ≤ i ∧ i ≤ 0) (hk : 0 ≤ k ∧ k ≤ 0) (hx : 0 ≤ x ∧ x ≤ 2) (hy : 0 ≤ y ∧ y ≤ 2) : Twice [a] [o0, o1, o2, o3, o4, o5] i k x y := by
  obtain rfl : i = 0 := by omega
  obtain rfl : k = 0 := by omega
  rcases three hx with rfl | rfl | rfl <;> rcases three hy with rfl | rfl | rfl <;> exact ⟨by kernel_rfl, by kernel_rfl, by kernel_rfl, fun g => by kernel_rfl, by kernel_rfl, by kernel_rfl, by kernel_rfl⟩
theorem tw2 (a b : List Ximpl_Instr) (o0 o1 o2 o3 o4 o5 o6 o7 o8 : Int) {i k x y : Int} (hi : 0 ≤ i ∧ i ≤ 1) (hk : 0 ≤ k ∧ k ≤ 1) (hx : 0 ≤ x ∧ x ≤ 2) (hy : 0 ≤ y ∧ y ≤ 2) : Twice [a, b] [o0, o1, o2, o3, o4, o5, o6, o7, o8] i k x y := by
  rcases two hi with rfl | rfl <;> rcases two hk with rfl | rfl <;> rcases three hx with rfl | rfl | rfl <;> rcases three hy with rfl | rfl | rfl <;> exact ⟨by kernel_rfl, by kernel_rfl, by kernel_rfl, fun g => by kernel_rfl, by kernel_rfl, by kernel_rfl, by kernel_rfl⟩
theorem tw3 (a b c : List Ximpl_Instr) (o0 o1 o2 o3 o4 o5 o6 o7 o8 o9 o10 o11 : Int) {i k x y : Int} (hi : 0 ≤ i ∧ i ≤ 2) (hk : 0 ≤ k ∧ k ≤ 2) (hx : 0 ≤ x ∧ x ≤ 2) (hy : 0 ≤ y ∧ y ≤ 2) : Twice [a, b, c] [o0, o1, o2, o3, o4, o5, o6, o7, o8, o9, o10, o11] i k x y := by
  rcases three hi with rfl | rfl | rfl <;> rcases three hk with rfl | rfl | rfl <;> rcases three hx with rfl | rfl | rfl <;> rcases three hy with rfl | rfl | rfl <;> exact ⟨by kernel_rfl, by kernel_rfl, by kernel_rfl, fun g => by kernel_rfl, by kernel_rfl, by kernel_rfl, by kernel_rfl⟩
theorem tw_all {p : List (List Ximpl_Instr)} {o : List Int} {i k x y : Int} (hp : 0 < p.length ∧ p.length ≤ 3) (ho : o.length = 3 * p.length + 3) (hi : 0 ≤ i ∧ i ≤ (p.length : Int) - 1) (hk : 0 ≤ k ∧ k ≤ (p.length : Int) - 1) (hx : 0 ≤ x ∧ x ≤ 2) (hy : 0 ≤ y ∧ y ≤ 2) : Twice p o i k x y := by
  match p, hp with
  | [a], _ =>
    match o, ho with
    | [o0, o1, o2, o3, o4, o5], _ => exact tw1 a _ _ _ _ _ _ hi hk hx hy
  | [a, b], _ =>
    match o, ho with
    | [o0, o1, o2, o3, o4, o5, o6, o7, o8], _ => exact tw2 a b _ _ _ _ _ _ _ _ _ hi hk hx hy
  | [a, b, c], _ =>
    match o, ho with
    | [o0, o1, o2, o3, o4, o5, o6, o7, o8, o9, o10, o11], _ => exact tw3 a b c _ _ _ _ _ _ _ _ _ _ _ _ hi hk hx hy
/-- what TurnOutcome does -/
theorem turn_cases {p : List (List Ximpl_Instr)} {o : List Int} (h : p.length ≤ 1048576 ∧ total p ≤ 1048576) (ho : o.length ≤ 1048576) (i k x y : Int) :
    (F_impl_TurnOutcome p o i k x y = some ([], false) ∧ F_spec_TurnOutcome p o i k x y = some ([], false)) ∨
    ∃ a, F_impl_TurnOutcome p o i k x y = some (a, true) ∧ F_spec_TurnOutcome p o i k x y = some (a, true) ∧ F_impl_TurnOutcome p a i k x y = some (o, true) ∧ a.length = o.length ∧ ovB p o = true ∧ ovB p a = true ∧
      (0 ≤ i ∧ i ≤ (p.length : Int) - 1) ∧ (0 ≤ k ∧ k ≤ (p.length : Int) - 1) ∧ ∀ r : Nat, r ≤ 2 → a.getD (3 * k.toNat + r) 0 = o.getD (3 * i.toNat + r) 0 := by
  obtain ⟨r, hr1, hr2, _⟩ := turn_all h ho i k x y
  have hS := impl_shape (ovI h ho) (isThread_is h i) (isThread_is h k) (isLoc_is x) (isLoc_is y)
  cases hc : ovB p o && ((validB (p.map fun r => r.map toIns) && (decide (0 ≤ i) && decide (i ≤ (p.length : Int) - 1))) && ((validB (p.map fun r => r.map toIns) && (decide (0 ≤ k) && decide (k ≤ (p.length : Int) - 1))) && ((decide (0 ≤ x) && decide (x ≤ 2)) && (decide (0 ≤ y) && decide (y ≤ 2))))) with
  | false =>
    rw [hc] at hS
    have e : r = ([], false) := Option.some.inj (hr1.symm.trans hS)
    rw [e] at hr1 hr2
    exact .inl ⟨hr1, hr2⟩
  | true =>
    right
    have hc2 := hc
    simp only [Bool.and_eq_true, decide_eq_true_eq] at hc2
    obtain ⟨hov, ⟨hv, hi⟩, ⟨_, hk⟩, hx, hy⟩ := hc2
    have hov2 := hov
    unfold ovB at hov2
    simp only [Bool.and_eq_true, decide_eq_true_eq] at hov2
    obtain ⟨_, hl, hall⟩ := hov2
    have hv2 := hv
    unfold validB shapeB at hv2
    simp only [Bool.and_eq_true, decide_eq_true_eq, List.length_map] at hv2
    have hT := tw_all (p := p) (o := o) ⟨hv2.1.2, hv2.1.1.1.1⟩ hl hi hk hx hy
    generalize hA : (tOf p o i k x y).1 = a at hT
    have his := hT.is
    have hbk := hT.back
    have hln := hT.len
    have h0 := hT.r0
    have h1 := hT.r1
    have h2 := hT.r2
    have hnt := hT.nat (fun v => if oneB v then v else 0)
    rw [hA] at his hbk hln h0 h1 h2 hnt
    have hog : o.map (fun v => if oneB v then v else 0) = o := by
      have : ∀ v ∈ o, (fun v => if oneB v then v else 0) v = id v := fun v hm => by
        have hv1 : oneB v = true := by
          have := hall
          exact List.all_eq_true.1 this v hm
        simp [hv1]
      rw [List.map_congr_left this, List.map_id]
    rw [hog, his] at hnt
    have hag : a = a.map (fun v => if oneB v then v else 0) := (Prod.mk.inj (Option.some.inj hnt)).1
    have haa : a.all oneB = true := by
      rw [List.all_eq_true]
      intro v hm
      rw [hag] at hm
      obtain ⟨u, _, rfl⟩ := List.mem_map.1 hm
      by_cases hu : oneB u = true
      · simp [hu]
      · simp [hu]
        rfl
    have hova : ovB p a = true := by
      unfold ovB
      rw [hv, hln, hl]
      simp only [decide_true, Bool.true_and]
      exact haa
    have hi1 := C_impl_TurnOutcome_T_le _ _ _ _ _ _ _ his
    have hi2 := C_impl_TurnOutcome_T_le _ _ _ _ _ _ _ hbk
    rw [hc] at hS
    have e1 : F_impl_TurnOutcome p o i k x y = some (a, true) := hS.trans hi1
    have e2 : r = (a, true) := Option.some.inj (hr1.symm.trans e1)
    have hS2 := impl_shape (o := a) (ovI h (by omega)) (isThread_is h i) (isThread_is h k) (isLoc_is x) (isLoc_is y)
    have hc3 : (ovB p a && ((validB (p.map fun r => r.map toIns) && (decide (0 ≤ i) && decide (i ≤ (p.length : Int) - 1))) && ((validB (p.map fun r => r.map toIns) && (decide (0 ≤ k) && decide (k ≤ (p.length : Int) - 1))) && ((decide (0 ≤ x) && decide (x ≤ 2)) && (decide (0 ≤ y) && decide (y ≤ 2)))))) = true := by
      rw [hova]
      rw [hov] at hc
      exact hc
    rw [hc3] at hS2
    refine ⟨a, e1, by rw [hr2, e2], hS2.trans hi2, hln, hov, hova, hi, hk, fun r hr => ?_⟩
    match r, hr with
    | 0, _ => exact h0
    | 1, _ => exact h1
    | 2, _ => exact h2
/-! ### what is drawn -/
theorem l3Draw_ret {k : Int} {r : Xspec_l17Rd} (h : Rd k r) (hk : k ≤ 1000) : Ret (F_spec_l3Draw r) fun v => Rd (k + 51) v.1 ∧ goP v.2.1 = true ∧ v.2.2.length ≤ 13 := by
  unfold F_spec_l3Draw
  refine (l1Draw_go h.mk' (by omega) parse_go).bind fun v1 ⟨a1, a2⟩ => (seq_ret a2).bind fun v2 ⟨b1, b2, b3⟩ => ?_
  have hpl := (goP_iff.1 a2).1
  have hne : 0 < v2.outcomes.length := List.length_pos_iff.2 b1
  refine (pick_ret a1.mk' (by omega) _).bind fun v3 ⟨c1, c2, c3⟩ => .gdD ⟨c2, by omega⟩ ?_
  have hm := b2 _ (getDL_mem (l := v2.outcomes) (i := v3.2) ⟨c2, by omega⟩)
  generalize v2.outcomes.getD v3.2.toNat default = o at hm ⊢
  refine .gdC (by simp; omega) rfl ?_
  refine Ret.bind (P := fun u => Rd (k + 51) ⟨u.1, u.2.1⟩ ∧ u.2.2.length ≤ 13) ?_ fun u ⟨d1, d2⟩ => .pure ⟨d1, a2, d2⟩
  refine (pick_ret c1.mk' (by omega) 6).bind fun v7 ⟨d1, d2, d3⟩ => .bif (fun _ => ?_) fun _ => .bif (fun _ => ?_) fun _ => .pure ⟨d1.mk'.mono (by omega), by simp; omega⟩
  · refine (pick_ret d1.mk' (by omega) _).bind fun v9 ⟨e1, e2, e3⟩ => (num_ret e1.mk' (by omega) _ (by simp)).bind fun v10 ⟨f1, _⟩ => .gdD ⟨e2, ?_⟩ (.pure ⟨f1.mk'.mono (by omega), by simp; omega⟩)
    simp only [List.nil_append] at e3 ⊢
    omega
  · refine (pick_ret d1.mk' (by omega) 4).bind fun v13 ⟨e1, _⟩ => .bif (fun _ => .gdC (by simp; omega) rfl (.pure ⟨e1.mk'.mono (by omega), by simp; omega⟩)) fun _ => .pure ⟨e1.mk'.mono (by omega), by simp; omega⟩
theorem draw17 {b : List Int} (hb : Bts b) : Ret (F_spec_DrawTurnOutcome b) fun v => goP v.1 = true ∧ v.2.1.length ≤ 13 := by
  unfold F_spec_DrawTurnOutcome
  exact (open_ret hb).bind fun r h => (l3Draw_ret h.mk' (by omega)).bind fun v ⟨a1, a2, a3⟩ => (num_ret a1.mk' (by omega) _ (by simp)).bind fun v3 ⟨b1, _⟩ => (num_ret b1.mk' (by omega) _ (by simp)).bind fun v4 ⟨c1, _⟩ => (num_ret c1.mk' (by omega) _ (by simp)).bind fun v5 ⟨d1, _⟩ => (num_ret d1.mk' (by omega) _ (by simp)).bind fun v6 _ => .pure ⟨a2, a3⟩
theorem wmInts_ret (a : List Int) (ha : a.length ≤ 1048576) : Ret (F_laws_wmInts a a) (· = true) := by
  unfold F_laws_wmInts
  refine .bif (fun h => by simp at h) fun _ => Ret.sum (PS := fun _ => True) (PW := (· = true)) ?_ fun _ _ => .pure rfl
  refine Ret.loop (fun z => 0 ≤ z ∧ z ≤ (a.length : Int)) (fun z => ((a.length : Int) - z).toNat) ⟨Int.le_refl _, by omega⟩ fun z ⟨h1, h2⟩ => ?_
  unfold F_laws_wmInts_L4
  exact .bifD (fun h0 => .gdD ⟨h1, h0⟩ (.gdD ⟨h1, h0⟩ (.bif (fun h => by simp at h) fun _ => .gdI (by omega) (.pure ⟨⟨by omega, by omega⟩, by omega⟩)))) fun _ => .pure trivial
end Go.Proofs.Ytjogdblionfmiaa
