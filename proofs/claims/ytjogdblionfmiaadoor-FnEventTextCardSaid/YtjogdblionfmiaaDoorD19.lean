/-
  FnEventText's plain function is true at every code. Plain theorems. No conditions.
-/
import Derived.Test.YtjogdblionfmiaaDoorDe
import Derived.Test.YtjogdblionfmiaaDoorDp
import Derived.Test.YtjogdblionfmiaaDoorS19d
namespace Go.Proofs.YtjogdblionfmiaaDoor
open Go.RowKit
set_option maxRecDepth 100000
theorem drawE {b : List Int} (hb : Bts b) : Ret (F_spec_DrawEventText b) fun v => Sm v.1 := by
  unfold F_spec_DrawEventText
  exact (open_ret hb).bind fun r h => (l1Draw_ret h.mk' (by omega) parse_ok).bind fun v ⟨a1, a2⟩ => (l1Mutate_ret a1.mk' (by omega) a2).bind fun u ⟨b1, b2⟩ => (num_ret b1.mk' (by omega) _ (by simp)).bind fun x _ => .pure b2
/-- a text's first byte tells the thread -/
theorem first_byte {p : List (List Ximpl_Instr)} {e : Ximpl_Event} {s : ByteArray} (h : IsText p e s) : (e.Thread = -1 ∧ s.data.getD 0 0 = 102) ∨ ∃ t : Nat, t < 3 ∧ e.Thread = t ∧ s.data.getD 0 0 = (48 + t).toUInt8 := by
  rcases h with h | ⟨t, d, b, h1, h2, rfl, h3, _⟩
  · exact .inl h
  · simp only [txtOk, Bool.and_eq_true, decide_eq_true_eq] at h3
    exact .inr ⟨t, h1, h2, h3.2.2.2.2.2⟩
theorem text_ne {p : List (List Ximpl_Instr)} {e e' : Ximpl_Event} {s s' : ByteArray} (h : IsText p e s) (h' : IsText p e' s') (hne : e.Thread ≠ e'.Thread) : s ≠ s' := by
  rintro rfl
  rcases first_byte h with ⟨a1, a2⟩ | ⟨t, t1, t2, t3⟩
  · rcases first_byte h' with ⟨b1, b2⟩ | ⟨u, u1, u2, u3⟩
    · exact hne (by rw [a1, b1])
    · rw [a2] at u3
      match u, u1 with
      | 0, _ => exact absurd u3 (by decide)
      | 1, _ => exact absurd u3 (by decide)
      | 2, _ => exact absurd u3 (by decide)
  · rcases first_byte h' with ⟨b1, b2⟩ | ⟨u, u1, u2, u3⟩
    · rw [b2] at t3
      match t, t1 with
      | 0, _ => exact absurd t3 (by decide)
      | 1, _ => exact absurd t3 (by decide)
      | 2, _ => exact absurd t3 (by decide)
    · rw [t3] at u3
      have htu : t ≠ u := fun h => hne (by rw [t2, u2, h])
      match t, t1, u, u1 with
      | 0, _, 0, _ | 1, _, 1, _ | 2, _, 2, _ => exact htu rfl
      | 0, _, 1, _ => exact absurd u3 (by decide)
      | 0, _, 2, _ => exact absurd u3 (by decide)
      | 1, _, 0, _ => exact absurd u3 (by decide)
      | 1, _, 2, _ => exact absurd u3 (by decide)
      | 2, _, 0, _ => exact absurd u3 (by decide)
      | 2, _, 1, _ => exact absurd u3 (by decide)
theorem text_some {p : List (List Ximpl_Instr)} {e : Ximpl_Event} {s : ByteArray} (h : IsText p e s) : s ≠ (⟨#[]⟩ : ByteArray) := by
  rintro rfl
  rcases first_byte h with ⟨_, a2⟩ | ⟨t, t1, _, t3⟩
  · exact absurd a2 (by decide)
  · match t, t1 with
    | 0, _ => exact absurd t3 (by decide)
    | 1, _ => exact absurd t3 (by decide)
    | 2, _ => exact absurd t3 (by decide)
theorem law19 {b : List Int} (hb : Bts b) : F_laws_FnEventText b = some true := by
  refine Ret.eq ?_
  unfold F_laws_FnEventText
  refine .bifD (fun _ => .pure rfl) fun _ => (drawE hb).bind fun v hp => ?_
  obtain ⟨p, i⟩ := v
  simp only at hp
  have hsz := hp.sz
  obtain ⟨s, e1, e2, e3⟩ := eventText_ret hsz i
  have e4 := (eventsOf_ret hsz).1
  refine (Ret.of (P := (· = s)) e1 rfl).bind fun v3 h3 => (Ret.of (P := (· = bif validB (p.map fun r => r.map toIns) then evs p else [])) e4 rfl).bind fun v4 h4 => (Ret.of (P := (· = s)) e2 rfl).bind fun v5 h5 => ?_
  subst h3 h5
  refine Ret.bind (P := (· = decide (v5 = (⟨#[]⟩ : ByteArray)))) (.bif (fun h => by simp at h) fun _ => .pure rfl) fun s6 h6 => ?_
  rcases e3 with ⟨hE, hw⟩ | ⟨hv, h0, hlt, ht⟩
  · rw [decide_eq_true hE] at h6
    subst h6
    refine .bif (fun _ => ?_) fun h => by cases h
    refine (Ret.of (P := (· = v5)) e2 rfl).bind fun v9 h9 => ?_
    subst h9
    refine Ret.bind (P := (· = true)) (.bifD (fun _ => ?_) fun h => absurd rfl h) fun s10 h10 => .pure h10
    refine Ret.bind (P := (· = true)) (.bifD (fun _ => .pure rfl) fun hi => .pure ?_) fun s12 h12 => .pure h12
    refine decide_eq_true ?_
    rw [h4]
    rcases hw with hw | hw | hw
    · rw [hw]
      show ((([] : List Ximpl_Event).length : Nat) : Int) ≤ i
      simp only [List.length_nil]
      simp only at hi
      omega
    · exact absurd hw hi
    · cases hv : validB (p.map fun r => r.map toIns) with
      | true => exact hw
      | false =>
        show ((([] : List Ximpl_Event).length : Nat) : Int) ≤ i
        simp only [List.length_nil]
        simp only at hi
        omega
  · rw [decide_eq_false (text_some ht)] at h6
    subst h6
    rw [hv] at h4
    simp only [cond_true] at h4
    subst h4
    refine .bif (fun h => by cases h) fun _ => ?_
    refine Ret.sum (PS := fun _ : Unit => True) (PW := (· = true)) ?_ fun _ _ => .pure rfl
    have hl := evs_len (Vs.of hv).1
    refine (Ret.loop (R := fun x : Unit ⊕ Bool => match x with
      | .inl _ => True
      | .inr b => b = true) (fun k => 0 ≤ k ∧ k ≤ ((evs p).length : Int)) (fun k => (((evs p).length : Int) - k).toNat) ⟨Int.le_refl _, by omega⟩ fun k ⟨k1, k2⟩ => ?_).mono fun x hx => by
        match x, hx with
        | .inl _, _ => trivial
        | .inr b, hx => exact hx
    unfold F_laws_FnEventText_L16
    refine .bifD (fun hk => ?_) fun _ => .pure trivial
    refine Ret.mono (P := fun z : Int ⊕ (Unit ⊕ Bool) => match z with
      | .inl s' => (0 ≤ s' ∧ s' ≤ ((evs p).length : Int)) ∧ (((evs p).length : Int) - s').toNat < (((evs p).length : Int) - k).toNat
      | .inr x => match x with
        | .inl _ => True
        | .inr b => b = true) ?_ (fun z hz => by
          match z, hz with
          | .inl _, hz => exact hz
          | .inr (.inl _), _ => trivial
          | .inr (.inr _), hz => exact hz)
    refine Ret.sum (PS := fun _ : Unit => True) (PW := fun z : Int ⊕ (Unit ⊕ Bool) => match z with
      | .inl s' => (0 ≤ s' ∧ s' ≤ ((evs p).length : Int)) ∧ (((evs p).length : Int) - s').toNat < (((evs p).length : Int) - k).toNat
      | .inr x => match x with
        | .inl _ => True
        | .inr b => b = true) ?_ fun _ _ => ?_
    rotate_left
    · exact .gdI (by omega) (.pure ⟨⟨by omega, by omega⟩, by omega⟩)
    refine Ret.bind (P := (· = false)) (.gdD ⟨k1, hk⟩ (.gdD ⟨h0, hlt⟩ (.bif (fun hne => ?_) fun _ => .pure rfl))) fun s19 h19 => ?_
    · obtain ⟨s', f1, _, f3⟩ := eventText_ret hsz k
      rcases f3 with ⟨_, hw⟩ | ⟨_, _, _, ht'⟩
      · exfalso
        rcases hw with hw | hw | hw
        · rw [hv] at hw; cases hw
        · omega
        · omega
      · refine (Ret.of (P := (· = s')) f1 rfl).bind fun u hu => .pure (decide_eq_false ?_)
        subst hu
        exact text_ne ht' ht (by simpa using hne)
    · subst h19
      exact .bif (fun h => by cases h) fun _ => .pure trivial
end Go.Proofs.YtjogdblionfmiaaDoor
