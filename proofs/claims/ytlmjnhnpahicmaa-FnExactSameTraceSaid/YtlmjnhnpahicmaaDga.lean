/-
  Conversions and comparisons of the law's own kinds. Plain theorems. No conditions.
-/
import Derived.Test.YtlmjnhnpahicmaaS26d
import Derived.Test.YtlmjnhnpahicmaaHo
namespace Go.Proofs.Ytlmjnhnpahicmaa
open Go.RowKit
set_option maxRecDepth 100000
section
variable {α β W : Type} [Inhabited α]
theorem setLoop {a : List α} {f : α → β} {l0 : List β} {step : List β × Int → Option ((List β × Int) ⊕ List β)} (hl : l0.length = a.length)
    (hs : ∀ s, 0 ≤ s.2 → s.2 < (a.length : Int) → s.1.length = a.length → Ret (step s) (· = .inl (s.1.set s.2.toNat (f (a.getD s.2.toNat default)), s.2 + 1)))
    (he : ∀ s, ¬ s.2 < (a.length : Int) → step s = some (.inr s.1)) : Ret (loopO step (l0, 0)) (· = a.map f) := by
  refine Ret.loop (fun s => 0 ≤ s.2 ∧ s.2 ≤ (a.length : Int) ∧ s.1.length = a.length ∧ ∀ i : Nat, (i : Int) < s.2 → s.1[i]? = (a.map f)[i]?) (fun s => ((a.length : Int) - s.2).toNat) ⟨Int.le_refl _, by simp only []; omega, hl, fun i hi => absurd hi (by simp only []; omega)⟩ fun s ⟨h1, h2, h3, h4⟩ => ?_
  by_cases h : s.2 < (a.length : Int)
  · refine (hs s h1 h h3).mono ?_
    rintro _ rfl
    refine ⟨⟨by simp only []; omega, by simp only []; omega, by simp only [List.length_set]; exact h3, fun i hi => ?_⟩, by simp only []; omega⟩
    simp only [] at hi ⊢
    have hn : s.2.toNat < a.length := by omega
    rw [List.getElem?_set]
    by_cases e : s.2.toNat = i
    · subst e
      rw [if_pos rfl, if_pos (by omega), List.getElem?_map, List.getElem?_eq_getElem hn, List.getD_eq_getElem?_getD, List.getElem?_eq_getElem hn]
      rfl
    · rw [if_neg e]
      exact h4 i (by omega)
  · rw [he s h]
    refine .pure ?_
    refine List.ext_getElem? fun i => ?_
    by_cases hi : (i : Int) < s.2
    · exact h4 i hi
    · rw [List.getElem?_eq_none (by omega), List.getElem?_eq_none (by rw [List.length_map]; omega)]
theorem eqLoop {a b : List α} [DecidableEq α] (hl : a.length = b.length) {bad : W} {step : Int → Option (Int ⊕ (Unit ⊕ W))}
    (hs : ∀ i : Int, 0 ≤ i → i < (a.length : Int) → Ret (step i) (· = if a.getD i.toNat default = b.getD i.toNat default then .inl (i + 1) else .inr (.inr bad)))
    (he : ∀ i : Int, ¬ i < (a.length : Int) → step i = some (.inr (.inl ()))) : Ret (loopO step 0) (· = if a = b then .inl () else .inr bad) := by
  refine Ret.loop (fun i => 0 ≤ i ∧ i ≤ (a.length : Int) ∧ ∀ j : Nat, (j : Int) < i → a[j]? = b[j]?) (fun i => ((a.length : Int) - i).toNat) ⟨Int.le_refl _, by omega, fun i hi => absurd hi (by omega)⟩ fun i ⟨h1, h2, h3⟩ => ?_
  by_cases h : i < (a.length : Int)
  · refine (hs i h1 h).mono ?_
    have ha : i.toNat < a.length := by omega
    have hb : i.toNat < b.length := by omega
    have ea : a.getD i.toNat default = a[i.toNat] := by rw [List.getD_eq_getElem?_getD, List.getElem?_eq_getElem ha]; rfl
    have eb : b.getD i.toNat default = b[i.toNat] := by rw [List.getD_eq_getElem?_getD, List.getElem?_eq_getElem hb]; rfl
    rintro _ rfl
    by_cases e : a.getD i.toNat default = b.getD i.toNat default
    · rw [if_pos e]
      refine ⟨⟨by omega, by omega, fun j hj => ?_⟩, by omega⟩
      by_cases ej : j = i.toNat
      · subst ej
        rw [List.getElem?_eq_getElem ha, List.getElem?_eq_getElem hb, ← ea, ← eb, e]
      · exact h3 j (by omega)
    · rw [if_neg e]
      show _ = _
      rw [if_neg]
      rintro rfl
      exact e rfl
  · rw [he i h]
    refine .pure ?_
    show _ = _
    rw [if_pos]
    refine List.ext_getElem? fun j => ?_
    by_cases hj : (j : Int) < i
    · exact h3 j hj
    · rw [List.getElem?_eq_none (by omega), List.getElem?_eq_none (by omega)]
end
instance : DecidableEq Ximpl_Instr := fun a b => decidable_of_iff (a.Op = b.Op ∧ a.Loc = b.Loc ∧ a.Reg = b.Reg ∧ a.Val = b.Val) ⟨fun ⟨h1, h2, h3, h4⟩ => by cases a; cases b; simp only at h1 h2 h3 h4; subst h1 h2 h3 h4; rfl, fun h => by subst h; exact ⟨rfl, rfl, rfl, rfl⟩⟩
def cvt (x : Xlaws_Instr) : Ximpl_Instr := ⟨x.Op, x.Loc, x.Reg, x.Val⟩
theorem getD_memX {α : Type} [Inhabited α] {l : List α} {i : Int} (h0 : 0 ≤ i) (h : i < (l.length : Int)) : l.getD i.toNat default ∈ l := by
  have hi : i.toNat < l.length := by omega
  rw [List.getD_eq_getElem?_getD, List.getElem?_eq_getElem hi]
  exact List.getElem_mem _
theorem cv_instrS {a : List Xlaws_Instr} (h : a.length ≤ 1048576) : Ret (F_laws_toInstrS a) (· = a.map cvt) := by
  unfold F_laws_toInstrS
  refine .gdD (by omega) ?_
  refine Ret.bind (P := (· = a.map cvt)) (setLoop (by simp) (fun s h1 h2 h3 => ?_) fun s hs => ?_) fun v hv => .pure hv
  · unfold F_laws_toInstrS_L7
    refine .bifD (fun _ => .gdD ⟨h1, h2⟩ ?_) fun h => absurd h2 h
    exact Ret.bind (P := (· = cvt (a.getD s.2.toNat default))) (.pure rfl) fun v hv => .gdD ⟨h1, by omega⟩ (.gdI (by omega) (.pure (by rw [hv])))
  · unfold F_laws_toInstrS_L7
    rw [decide_eq_false hs]
    rfl
theorem cv_instrSS {a : List (List Xlaws_Instr)} (h : a.length ≤ 1048576) (hr : ∀ r ∈ a, r.length ≤ 1048576) : Ret (F_laws_toInstrSS a) (· = a.map (·.map cvt)) := by
  unfold F_laws_toInstrSS
  refine .gdD (by omega) ?_
  refine Ret.bind (P := (· = a.map (·.map cvt))) (setLoop (by simp) (fun s h1 h2 h3 => ?_) fun s hs => ?_) fun v hv => .pure hv
  · unfold F_laws_toInstrSS_L7
    refine .bifD (fun _ => .gdD ⟨h1, h2⟩ ?_) fun h => absurd h2 h
    exact (cv_instrS (hr _ (getD_memX h1 h2))).bind fun v hv => .gdD ⟨h1, by omega⟩ (.gdI (by omega) (.pure (by rw [hv])))
  · unfold F_laws_toInstrSS_L7
    rw [decide_eq_false hs]
    rfl
theorem cv_intS {a : List Int} (h : a.length ≤ 1048576) : Ret (F_laws_toIntS a) (· = a) := by
  unfold F_laws_toIntS
  refine .gdD (by omega) ?_
  refine Ret.bind (P := (· = a.map id)) (setLoop (by simp) (fun s h1 h2 h3 => ?_) fun s hs => ?_) fun v hv => .pure (by rw [hv, List.map_id])
  · unfold F_laws_toIntS_L7
    refine .bifD (fun _ => .gdD ⟨h1, h2⟩ ?_) fun h => absurd h2 h
    exact .gdD ⟨h1, by omega⟩ (.gdI (by omega) (.pure rfl))
  · unfold F_laws_toIntS_L7
    rw [decide_eq_false hs]
    rfl
theorem eq_intS (a : List Int) (h : a.length ≤ 1048576) : Ret (F_laws_eqIntS a a) (· = true) := by
  unfold F_laws_eqIntS
  refine .bif (fun h => by simp at h) fun _ => ?_
  refine Ret.sum (PS := fun _ => True) (PW := (· = true)) ((eqLoop (a := a) (b := a) rfl (bad := false) (fun i h1 h2 => ?_) fun i hi => ?_).mono fun v hv => by rw [hv, if_pos rfl]; trivial) fun _ _ => .pure rfl
  · unfold F_laws_eqIntS_L6
    exact .bifD (fun _ => .gdD ⟨h1, h2⟩ (.gdD ⟨h1, h2⟩ (.bif (fun h => by simp at h) fun _ => .gdI (by omega) (.pure (by rw [if_pos rfl]))))) fun h => absurd h2 h
  · unfold F_laws_eqIntS_L6
    rw [decide_eq_false hi]
    rfl
theorem eq_instr (x : Ximpl_Instr) : F_laws_eqInstr x x = some true := by
  unfold F_laws_eqInstr
  simp
theorem eq_instrS (a : List Ximpl_Instr) (h : a.length ≤ 1048576) : Ret (F_laws_eqInstrS a a) (· = true) := by
  unfold F_laws_eqInstrS
  refine .bif (fun h => by simp at h) fun _ => ?_
  refine Ret.sum (PS := fun _ => True) (PW := (· = true)) ((eqLoop (a := a) (b := a) rfl (bad := false) (fun i h1 h2 => ?_) fun i hi => ?_).mono fun v hv => by rw [hv, if_pos rfl]; trivial) fun _ _ => .pure rfl
  · unfold F_laws_eqInstrS_L6
    refine .bifD (fun _ => .gdD ⟨h1, h2⟩ (.gdD ⟨h1, h2⟩ ?_)) fun h => absurd h2 h
    exact (Ret.of (eq_instr _) (P := (· = true)) rfl).bind fun v hv => .bif (fun h => by rw [hv] at h; simp at h) fun _ => .gdI (by omega) (.pure (by rw [if_pos rfl]))
  · unfold F_laws_eqInstrS_L6
    rw [decide_eq_false hi]
    rfl
theorem eq_instrSS (a : List (List Ximpl_Instr)) (h : a.length ≤ 1048576) (hr : ∀ r ∈ a, r.length ≤ 1048576) : Ret (F_laws_eqInstrSS a a) (· = true) := by
  unfold F_laws_eqInstrSS
  refine .bif (fun h => by simp at h) fun _ => ?_
  refine Ret.sum (PS := fun _ => True) (PW := (· = true)) ((eqLoop (a := a) (b := a) rfl (bad := false) (fun i h1 h2 => ?_) fun i hi => ?_).mono fun v hv => by rw [hv, if_pos rfl]; trivial) fun _ _ => .pure rfl
  · unfold F_laws_eqInstrSS_L6
    refine .bifD (fun _ => .gdD ⟨h1, h2⟩ (.gdD ⟨h1, h2⟩ ?_)) fun h => absurd h2 h
    exact (eq_instrS _ (hr _ (getD_memX h1 h2))).bind fun v hv => .bif (fun h => by rw [hv] at h; simp at h) fun _ => .gdI (by omega) (.pure (by rw [if_pos rfl]))
  · unfold F_laws_eqInstrSS_L6
    rw [decide_eq_false hi]
    rfl
/-! ### the size test -/
theorem szS (a : List Xlaws_Instr) (left : Int) (hl : 0 ≤ left ∧ left ≤ 1048576) (ha : (a.length : Int) ≤ 9223372036854775807) : Ret (F_laws_szInstrS a left) fun v => (v < 0 ∧ left < (a.length : Int)) ∨ (0 ≤ v ∧ v = left - (a.length : Int)) := by
  unfold F_laws_szInstrS
  exact .gdI (by omega) (.bifD (fun h => .pure (.inl ⟨by decide, by omega⟩)) fun h => .pure (.inr ⟨by omega, rfl⟩))
theorem szSS (a : List (List Xlaws_Instr)) (ha : (a.length : Int) ≤ 9223372036854775807 ∧ ∀ r ∈ a, (r.length : Int) ≤ 9223372036854775807) : Ret (F_laws_szInstrSS a 1048576) fun v => v < 0 ∨ (a.length ≤ 1048576 ∧ total a ≤ 1048576) := by
  unfold F_laws_szInstrSS
  refine .gdI (by omega) (.bifD (fun h => .pure (.inl (by decide))) fun h => ?_)
  refine Ret.sum (PS := fun s => a.length ≤ 1048576 ∧ total a ≤ 1048576) (PW := fun v : Int => v < 0 ∨ (a.length ≤ 1048576 ∧ total a ≤ 1048576)) ?_ fun s hs => .pure (.inr hs)
  refine Ret.loop (fun s : Int × Int => ∃ n : Nat, n ≤ a.length ∧ s.1 = (n : Int) ∧ 0 ≤ s.2 ∧ s.2 = 1048576 - (a.length : Int) - (total (a.take n) : Int)) (fun s => ((a.length : Int) - s.1).toNat) ⟨0, by omega, rfl, by simp only []; omega, by simp [total]⟩ fun s ⟨n, h1, h2, h3, h4⟩ => ?_
  unfold F_laws_szInstrSS_L7
  refine .bifD (fun hk => ?_) fun hk => .pure ?_
  · have hn : n < a.length := by omega
    have e1 : s.1.toNat = n := by omega
    have e2 : a.getD n default = a[n] := by simp [hn]
    refine .gdD ⟨by omega, hk⟩ ?_
    rw [e1, e2]
    refine (szS a[n] s.2 ⟨h3, by omega⟩ (ha.2 _ (List.getElem_mem hn))).bind fun v hv => .bifD (fun h => .pure (.inl (by decide))) fun h => .gdI (by omega) (.pure ⟨⟨n + 1, by omega, by simp only []; omega, by simp only []; omega, ?_⟩, by simp only []; omega⟩)
    have ht := total_take_succ a n hn
    simp only []
    rcases hv with hv | hv
    · omega
    · omega
  · have : n = a.length := by omega
    subst this
    rw [List.take_length] at h4
    exact ⟨by omega, by omega⟩
end Go.Proofs.Ytlmjnhnpahicmaa
