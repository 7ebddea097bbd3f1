/-
  Events and their texts, of impl and of spec. Plain theorems. No conditions.
-/
import Derived.Test.YtjogdblionfmiaaDoorSEd
import Derived.Test.YtjogdblionfmiaaDoorSRc
import Derived.Test.YtjogdblionfmiaaDoorDec
import Derived.Test.YtjogdblionfmiaaDoorHo
import Derived.Test.YtjogdblionfmiaaDoorBrVd
namespace Go.Proofs.YtjogdblionfmiaaDoor
open Go.RowKit
set_option maxRecDepth 100000
/-! ### the texts of valid instructions: all cases -/
def txtOk (s d : ByteArray) (t : Nat) : Bool :=
  decide (d.size + (⟨#[58]⟩ : ByteArray).size ≤ 9223372036854775807) && (decide ((d ++ (⟨#[58]⟩ : ByteArray)).size + s.size ≤ 9223372036854775807) &&
  (decide (((d ++ (⟨#[58]⟩ : ByteArray)) ++ s).size = s.size + 2) && (decide (((d ++ (⟨#[58]⟩ : ByteArray)) ++ s).extract 2 ((d ++ (⟨#[58]⟩ : ByteArray)) ++ s).size = s) &&
  (decide (s.size ≤ 100) && decide (((d ++ (⟨#[58]⟩ : ByteArray)) ++ s).data.getD 0 0 = (48 + t).toUInt8)))))
noncomputable def chkI (x : Ximpl_Instr) (t : Nat) : Bool := match F_impl_instrText x with
  | none => false
  | some s => match C_spec_l1Text x with
    | none => false
    | some s' => match F_impl_InstrValid x with
      | none => false
      | some v => match F_strconv_Itoa (t : Int) with
        | none => false
        | some d => match C_spec_l17Dec (t : Int) with
          | none => false
          | some d' => decide (s = s') && (v && (decide (d = d') && txtOk s d t))
theorem chk_all : ((List.range 5).all fun a => (List.range 3).all fun b => (List.range 3).all fun c => (List.range 4).all fun d => (List.range 3).all fun t => !insOk ⟨(a : Int) + 1, b, c, d⟩ || chkI ⟨(a : Int) + 1, b, c, d⟩ t) = true := by decide +kernel
theorem insOk_box {x : Ximpl_Instr} (h : insOk (toIns x) = true) : ∃ a b c d : Nat, a < 5 ∧ b < 3 ∧ c < 3 ∧ d < 4 ∧ x = ⟨(a : Int) + 1, b, c, d⟩ := by
  obtain ⟨o, l, r, v⟩ := x
  have hb : (1 ≤ o ∧ o ≤ 5) ∧ (0 ≤ l ∧ l ≤ 2) ∧ (0 ≤ r ∧ r ≤ 2) ∧ 0 ≤ v ∧ v ≤ 3 := by
    unfold insOk toIns at h
    simp only [inB] at h
    split at h
    · simp only [Bool.and_eq_true, decide_eq_true_eq, beq_iff_eq] at h; omega
    · split at h
      · simp only [Bool.and_eq_true, decide_eq_true_eq, beq_iff_eq] at h; omega
      · split at h
        · simp only [Bool.and_eq_true, decide_eq_true_eq, beq_iff_eq] at h; omega
        · split at h
          · simp only [Bool.and_eq_true, decide_eq_true_eq] at h; omega
          · cases h
  refine ⟨(o - 1).toNat, l.toNat, r.toNat, v.toNat, by omega, by omega, by omega, by omega, ?_⟩
  rw [show (((o - 1).toNat : Nat) : Int) + 1 = o by omega, show ((l.toNat : Nat) : Int) = l by omega, show ((r.toNat : Nat) : Int) = r by omega, show ((v.toNat : Nat) : Int) = v by omega]
theorem itext {x : Ximpl_Instr} (h : insOk (toIns x) = true) {t : Nat} (ht : t < 3) : ∃ d s, F_strconv_Itoa (t : Int) = some d ∧ F_spec_l17Dec (t : Int) = some d ∧ F_impl_instrText x = some s ∧ F_spec_l1Text x = some s ∧ F_impl_InstrValid x = some true ∧ txtOk s d t = true := by
  obtain ⟨a, b, c, e, h1, h2, h3, h4, rfl⟩ := insOk_box h
  have hall := chk_all
  simp only [List.all_eq_true, List.mem_range] at hall
  have hc := hall a h1 b h2 c h3 e h4 t ht
  rw [show insOk ⟨(a : Int) + 1, b, c, e⟩ = true from h] at hc
  simp only [Bool.not_true, Bool.false_or] at hc
  unfold chkI at hc
  cases e1 : F_impl_instrText ⟨(a : Int) + 1, b, c, e⟩ with
  | none => rw [e1] at hc; cases hc
  | some s =>
    cases e2 : C_spec_l1Text ⟨(a : Int) + 1, b, c, e⟩ with
    | none => rw [e1, e2] at hc; cases hc
    | some s' =>
      cases e3 : F_impl_InstrValid ⟨(a : Int) + 1, b, c, e⟩ with
      | none => rw [e1, e2, e3] at hc; cases hc
      | some v =>
        cases e4 : F_strconv_Itoa (t : Int) with
        | none => rw [e1, e2, e3, e4] at hc; cases hc
        | some d =>
          cases e5 : C_spec_l17Dec (t : Int) with
          | none => rw [e1, e2, e3, e4, e5] at hc; cases hc
          | some d' =>
            rw [e1, e2, e3, e4, e5] at hc
            simp only [Bool.and_eq_true, decide_eq_true_eq] at hc
            obtain ⟨rfl, rfl, rfl, h6⟩ := hc
            exact ⟨d, s, rfl, C_spec_l17Dec_le _ _ e5, rfl, C_spec_l1Text_le _ _ e2, rfl, h6⟩
/-! ### the events -/
def rdX (x : Ximpl_Instr) : Bool := x.Op == 1 || x.Op == 5
def wrX (x : Ximpl_Instr) : Bool := x.Op == 2 || x.Op == 3 || x.Op == 5
def evI (t k : Nat) (x : Ximpl_Instr) : List Ximpl_Event := if x.Op = 4 then [] else [⟨t, k, x.Loc, rdX x, wrX x⟩]
def evR (t : Nat) (row : List Ximpl_Instr) : Nat → List Ximpl_Event
  | 0 => []
  | n + 1 => evR t row n ++ evI t n (row.getD n default)
def ev0 : List Ximpl_Event := [⟨-1, 0, 0, false, true⟩, ⟨-1, 1, 1, false, true⟩, ⟨-1, 2, 2, false, true⟩]
def evP (p : List (List Ximpl_Instr)) : Nat → List Ximpl_Event
  | 0 => ev0
  | n + 1 => evP p n ++ evR n (p.getD n default) (p.getD n default).length
def evs (p : List (List Ximpl_Instr)) : List Ximpl_Event := evP p p.length
theorem evI_len (t k : Nat) (x : Ximpl_Instr) : (evI t k x).length ≤ 1 := by unfold evI; split <;> simp
theorem evR_len (t : Nat) (row : List Ximpl_Instr) (n : Nat) : (evR t row n).length ≤ n := by
  induction n with
  | zero => exact Nat.le_refl _
  | succ n ih =>
    have := evI_len t n (row.getD n default)
    simp only [evR, List.length_append]
    omega
/-- a program of the size of valid ones -/
def Vs (p : List (List Ximpl_Instr)) : Prop := p.length ≤ 3 ∧ ∀ n, (p.getD n default).length ≤ 7
theorem evP_len {p : List (List Ximpl_Instr)} (h : Vs p) (n : Nat) : (evP p n).length ≤ 3 + 7 * n := by
  induction n with
  | zero => exact Nat.le_refl _
  | succ n ih =>
    have h1 := evR_len n (p.getD n default) (p.getD n default).length
    have h2 := h.2 n
    simp only [evP, List.length_append]
    omega
theorem ireads (x : Ximpl_Instr) : Ret (F_impl_Instr_reads x) (· = rdX x) := by
  unfold F_impl_Instr_reads rdX
  exact Ret.bind (P := (· = (x.Op == 1 || x.Op == 5))) (.bif (fun h => .pure (by rw [h]; rfl)) fun h => .pure (by rw [h]; rfl)) fun v hv => .pure hv
theorem iwrites (x : Ximpl_Instr) : Ret (F_impl_Instr_writes x) (· = wrX x) := by
  unfold F_impl_Instr_writes wrX
  exact Ret.bind (P := (· = (x.Op == 2 || x.Op == 3))) (.bif (fun h => .pure (by rw [h]; rfl)) fun h => .pure (by rw [h]; rfl)) fun v hv => Ret.bind (P := (· = (x.Op == 2 || x.Op == 3 || x.Op == 5))) (.bif (fun h => .pure (by rw [← hv, h]; rfl)) fun h => .pure (by rw [← hv, h]; rfl)) fun v hv => .pure hv
theorem sreads (x : Ximpl_Instr) : Ret (F_spec_l1Reads x) (· = rdX x) := by
  unfold F_spec_l1Reads rdX
  exact Ret.bind (P := (· = (x.Op == 1 || x.Op == 5))) (.bif (fun h => .pure (by rw [h]; rfl)) fun h => .pure (by rw [h]; rfl)) fun v hv => .pure hv
theorem swrites (x : Ximpl_Instr) : Ret (F_spec_l1Writes x) (· = wrX x) := by
  unfold F_spec_l1Writes wrX
  exact Ret.bind (P := (· = (x.Op == 2 || x.Op == 3))) (.bif (fun h => .pure (by rw [h]; rfl)) fun h => .pure (by rw [h]; rfl)) fun v hv => Ret.bind (P := (· = (x.Op == 2 || x.Op == 3 || x.Op == 5))) (.bif (fun h => .pure (by rw [← hv, h]; rfl)) fun h => .pure (by rw [← hv, h]; rfl)) fun v hv => .pure hv
theorem ievents {p : List (List Ximpl_Instr)} (hp : Vs p) : Ret (F_impl_events p) (· = evs p) := by
  have hpl := hp.1
  unfold F_impl_events
  refine Ret.bind (P := (· = ev0)) ?_ fun l hl => Ret.bind (P := (· = evs p)) ?_ fun v hv => .pure hv
  · refine Ret.loop (fun s => ∃ n : Nat, n ≤ 3 ∧ s = (ev0.take n, (n : Int))) (fun s => (3 - s.2).toNat) ⟨0, by omega, rfl⟩ fun s ⟨n, h1, h2⟩ => ?_
    subst h2
    unfold F_impl_events_L6
    refine .bifD (fun h => ?_) fun h => .pure ?_
    · match n, h1, h with
      | 0, _, _ => exact .gdC (by decide) rfl (.gdI (by decide) (.pure ⟨⟨1, by omega, rfl⟩, by decide⟩))
      | 1, _, _ => exact .gdC (by decide) rfl (.gdI (by decide) (.pure ⟨⟨2, by omega, rfl⟩, by decide⟩))
      | 2, _, _ => exact .gdC (by decide) rfl (.gdI (by decide) (.pure ⟨⟨3, by omega, rfl⟩, by decide⟩))
      | 3, _, h => exact absurd h (by decide)
    · have : n = 3 := by simp only [] at h; omega
      subst this
      rfl
  · subst hl
    refine Ret.loop (fun s => ∃ n : Nat, n ≤ p.length ∧ s = (evP p n, (n : Int))) (fun s => ((p.length : Int) - s.2).toNat) ⟨0, by omega, rfl⟩ fun s ⟨n, h1, h2⟩ => ?_
    subst h2
    unfold F_impl_events_L21
    refine .bifD (fun h => ?_) fun h => .pure ?_
    · have hlen := evP_len hp n
      have hrow := hp.2 n
      simp only [] at h
      refine Ret.bind (P := (· = evP p (n + 1))) (.gdD ⟨by simp only []; omega, h⟩ ?_) fun v hv => .gdI (by simp only []; omega) (.pure ⟨⟨n + 1, by omega, by rw [hv]; rfl⟩, by simp only []; omega⟩)
      refine Ret.loop (fun t => ∃ k : Nat, k ≤ (p.getD n default).length ∧ t = (evP p n ++ evR n (p.getD n default) k, (k : Int))) (fun t => (((p.getD n default).length : Int) - t.2).toNat) ⟨0, by omega, by simp [evR]⟩ fun t ⟨k, k1, k2⟩ => ?_
      subst k2
      unfold F_impl_events_L32
      simp only [Int.toNat_natCast]
      refine .bifD (fun hk => ?_) fun hk => .pure ?_
      · have hl2 := evR_len n (p.getD n default) k
        refine Ret.bind (P := (· = evP p n ++ evR n (p.getD n default) (k + 1))) (.gdD ⟨by omega, hk⟩ ?_) fun v hv => .gdI (by omega) (.pure ⟨⟨k + 1, by omega, by rw [hv]; rfl⟩, by simp only []; omega⟩)
        refine .bif (fun ho => ?_) fun ho => .pure ?_
        · refine (ireads _).bind fun a ha => (iwrites _).bind fun b hb => .gdC (by simp only [List.length_append]; omega) rfl (.pure ?_)
          have h4 : ¬ ((p.getD n default).getD k default).Op = 4 := by simpa using ho
          subst ha hb
          simp only [evR, evI, if_neg h4, List.append_assoc]
        · have h4 : ((p.getD n default).getD k default).Op = 4 := by simpa using ho
          simp only [evR, evI, if_pos h4, List.append_nil]
      · have : k = (p.getD n default).length := by omega
        subst this
        rfl
    · have : n = p.length := by simp only [] at h; omega
      subst this
      rfl
theorem sevents {p : List (List Ximpl_Instr)} (hp : Vs p) : Ret (F_spec_l6Events p) (· = evs p) := by
  have hpl := hp.1
  unfold F_spec_l6Events
  refine Ret.bind (P := (· = ev0)) ?_ fun l hl => Ret.bind (P := (· = evs p)) ?_ fun v hv => .pure hv
  · refine Ret.loop (fun s => ∃ n : Nat, n ≤ 3 ∧ s = (ev0.take n, (n : Int))) (fun s => (3 - s.2).toNat) ⟨0, by omega, rfl⟩ fun s ⟨n, h1, h2⟩ => ?_
    subst h2
    unfold F_spec_l6Events_L4
    refine .bifD (fun h => ?_) fun h => .pure ?_
    · match n, h1, h with
      | 0, _, _ => exact .gdC (by decide) rfl (.gdI (by decide) (.pure ⟨⟨1, by omega, rfl⟩, by decide⟩))
      | 1, _, _ => exact .gdC (by decide) rfl (.gdI (by decide) (.pure ⟨⟨2, by omega, rfl⟩, by decide⟩))
      | 2, _, _ => exact .gdC (by decide) rfl (.gdI (by decide) (.pure ⟨⟨3, by omega, rfl⟩, by decide⟩))
      | 3, _, h => exact absurd h (by decide)
    · have : n = 3 := by simp only [] at h; omega
      subst this
      rfl
  · subst hl
    refine Ret.loop (fun s => ∃ n : Nat, n ≤ p.length ∧ s = (evP p n, (n : Int))) (fun s => ((p.length : Int) - s.2).toNat) ⟨0, by omega, rfl⟩ fun s ⟨n, h1, h2⟩ => ?_
    subst h2
    unfold F_spec_l6Events_L13
    refine .bifD (fun h => ?_) fun h => .pure ?_
    · have hlen := evP_len hp n
      have hrow := hp.2 n
      simp only [] at h
      refine Ret.bind (P := (· = evP p (n + 1))) ?_ fun v hv => .gdI (by simp only []; omega) (.pure ⟨⟨n + 1, by omega, by rw [hv]; rfl⟩, by simp only []; omega⟩)
      refine Ret.loop (fun t => ∃ k : Nat, k ≤ (p.getD n default).length ∧ t = (evP p n ++ evR n (p.getD n default) k, (k : Int))) (fun t => (((p.getD n default).length : Int) - t.2).toNat) ⟨0, by omega, by simp [evR]⟩ fun t ⟨k, k1, k2⟩ => ?_
      subst k2
      unfold F_spec_l6Events_L19
      simp only [Int.toNat_natCast]
      refine .gdD ⟨by omega, h⟩ (.bifD (fun hk => ?_) fun hk => .pure ?_)
      · have hl2 := evR_len n (p.getD n default) k
        refine Ret.bind (P := (· = evP p n ++ evR n (p.getD n default) (k + 1))) (.gdD ⟨by omega, hk⟩ ?_) fun v hv => .gdI (by omega) (.pure ⟨⟨k + 1, by omega, by rw [hv]; rfl⟩, by simp only []; omega⟩)
        refine .bif (fun ho => ?_) fun ho => .pure ?_
        · refine (sreads _).bind fun a ha => (swrites _).bind fun b hb => .gdC (by simp only [List.length_append]; omega) rfl (.pure ?_)
          have h4 : ¬ ((p.getD n default).getD k default).Op = 4 := by simpa using ho
          subst ha hb
          simp only [evR, evI, if_neg h4, List.append_assoc]
        · have h4 : ((p.getD n default).getD k default).Op = 4 := by simpa using ho
          simp only [evR, evI, if_pos h4, List.append_nil]
      · have : k = (p.getD n default).length := by omega
        subst this
        rfl
    · have : n = p.length := by simp only [] at h; omega
      subst this
      rfl
/-- what an event is -/
def EvOk (p : List (List Ximpl_Instr)) (e : Ximpl_Event) : Prop := (e.Thread = -1 ∧ 0 ≤ e.Loc ∧ e.Loc ≤ 2) ∨ ∃ t k : Nat, e.Thread = t ∧ e.Index = k ∧ t < p.length ∧ k < (p.getD t default).length
theorem evR_mem {t : Nat} {row : List Ximpl_Instr} {n : Nat} {e : Ximpl_Event} (h : e ∈ evR t row n) : ∃ k : Nat, k < n ∧ e.Thread = t ∧ e.Index = k := by
  induction n with
  | zero => simp [evR] at h
  | succ n ih =>
    simp only [evR, List.mem_append] at h
    rcases h with h | h
    · obtain ⟨k, h1, h2⟩ := ih h
      exact ⟨k, by omega, h2⟩
    · unfold evI at h
      split at h
      · simp at h
      · rw [List.mem_singleton] at h
        subst h
        exact ⟨n, by omega, rfl, rfl⟩
theorem evP_mem {p : List (List Ximpl_Instr)} {n : Nat} (hn : n ≤ p.length) {e : Ximpl_Event} (h : e ∈ evP p n) : EvOk p e := by
  induction n with
  | zero =>
    simp only [evP, ev0, List.mem_cons, List.not_mem_nil, or_false] at h
    rcases h with rfl | rfl | rfl <;> exact .inl ⟨rfl, by decide, by decide⟩
  | succ n ih =>
    simp only [evP, List.mem_append] at h
    rcases h with h | h
    · exact ih (by omega) h
    · obtain ⟨k, h1, h2, h3⟩ := evR_mem h
      exact .inr ⟨n, k, h2, h3, by omega, h1⟩
theorem Vs.of {p : List (List Ximpl_Instr)} (h : validB (p.map fun r => r.map toIns) = true) : Vs p ∧ ∀ t k : Nat, t < p.length → k < (p.getD t default).length → insOk (toIns ((p.getD t default).getD k default)) = true := by
  simp only [validB, shapeB, Bool.and_eq_true, decide_eq_true_eq, List.all_eq_true, rowOk] at h
  have hl : p.length ≤ 3 := by simpa using h.1.1.1.1
  have hr := h.1.1.1.2
  refine ⟨⟨hl, fun n => ?_⟩, fun t k ht hk => ?_⟩
  · by_cases hn : n < p.length
    · have e : p.getD n default = p[n] := by simp [hn]
      rw [e]
      have := (hr (p[n].map toIns) (List.mem_map.2 ⟨p[n], List.getElem_mem hn, rfl⟩)).1
      simpa using this
    · rw [List.getD_eq_getElem?_getD, List.getElem?_eq_none (by omega)]
      exact Nat.zero_le _
  · have e : p.getD t default = p[t] := by simp [ht]
    rw [e] at hk ⊢
    have h1 := (hr (p[t].map toIns) (List.mem_map.2 ⟨p[t], List.getElem_mem ht, rfl⟩)).2
    have e2 : p[t].getD k default = p[t][k] := by simp [hk]
    rw [e2]
    exact h1 _ (List.mem_map.2 ⟨_, List.getElem_mem hk, rfl⟩)
noncomputable def firstOk (l : Nat) : Bool := match F_spec_l1Letter 120 (l : Int) with
  | none => false
  | some v => decide ((⟨#[102, 105, 114, 115, 116, 32]⟩ : ByteArray).size + v.size ≤ 9223372036854775807) && (decide (v = (⟨#[120, 121, 122]⟩ : ByteArray).extract l (l + 1)) && (decide (((⟨#[102, 105, 114, 115, 116, 32]⟩ : ByteArray) ++ v).data.getD 0 0 = 102)))
theorem first_all : ((List.range 3).all firstOk) = true := by decide +kernel
theorem ftext {l : Nat} (h : l < 3) : ∃ v, F_spec_l1Letter 120 (l : Int) = some v ∧ (⟨#[102, 105, 114, 115, 116, 32]⟩ : ByteArray).size + v.size ≤ 9223372036854775807 ∧ v = (⟨#[120, 121, 122]⟩ : ByteArray).extract l (l + 1) ∧ ((⟨#[102, 105, 114, 115, 116, 32]⟩ : ByteArray) ++ v).data.getD 0 0 = 102 := by
  have hall := List.all_eq_true.1 first_all l (List.mem_range.2 h)
  unfold firstOk at hall
  cases e1 : F_spec_l1Letter 120 (l : Int) with
  | none => rw [e1] at hall; cases hall
  | some v =>
    rw [e1] at hall
    simp only [Bool.and_eq_true, decide_eq_true_eq] at hall
    exact ⟨v, rfl, hall⟩
/-- an event's text: both are alike -/
def IsText (p : List (List Ximpl_Instr)) (e : Ximpl_Event) (s : ByteArray) : Prop := (e.Thread = -1 ∧ s.data.getD 0 0 = 102) ∨
  ∃ (t : Nat) (d b : ByteArray), t < 3 ∧ e.Thread = t ∧ s = (d ++ (⟨#[58]⟩ : ByteArray)) ++ b ∧ txtOk b d t = true ∧ 0 ≤ e.Index ∧ e.Index < ((p.getD e.Thread.toNat default).length : Int) ∧ e.Thread < (p.length : Int) ∧
    F_impl_InstrValid ((p.getD e.Thread.toNat default).getD e.Index.toNat default) = some true ∧ F_impl_instrText ((p.getD e.Thread.toNat default).getD e.Index.toNat default) = some b
theorem text_ret {p : List (List Ximpl_Instr)} (h : validB (p.map fun r => r.map toIns) = true) {e : Ximpl_Event} (he : EvOk p e) : ∃ s, F_impl_eventText p e = some s ∧ F_spec_l15Event p e = some s ∧ IsText p e s := by
  obtain ⟨⟨hl, hr⟩, hin⟩ := Vs.of h
  rcases he with ⟨h1, h2, h3⟩ | ⟨t, k, h1, h2, h3, h4⟩
  · obtain ⟨v, e1, e2, e3, e4⟩ := ftext (l := e.Loc.toNat) (by omega)
    have hll : ((e.Loc.toNat : Nat) : Int) = e.Loc := by omega
    rw [hll] at e1
    have e5 : (e.Loc + 1).toNat = e.Loc.toNat + 1 := by omega
    refine ⟨(⟨#[102, 105, 114, 115, 116, 32]⟩ : ByteArray) ++ v, ?_, ?_, .inl ⟨h1, e4⟩⟩
    · refine Ret.eq ?_
      unfold F_impl_eventText
      refine .bifD (fun _ => ?_) fun hn => absurd hn (by omega)
      rw [e5, ← e3]
      exact .gdI (by omega) (.gdD ⟨h2, by omega, by show e.Loc + 1 ≤ 3; omega⟩ (.gdD e2 (.pure rfl)))
    · refine Ret.eq ?_
      unfold F_spec_l15Event
      refine .bifD (fun _ => ?_) fun hn => absurd hn (by omega)
      exact (Ret.of (P := (· = v)) e1 rfl).bind fun u hu => by subst hu; exact .gdD e2 (.pure rfl)
  · have ht3 : t < 3 := by omega
    have hx := hin t k h3 h4
    obtain ⟨d, b, a1, a2, a3, a4, a5, a6⟩ := itext hx ht3
    have a7 := a6
    simp only [txtOk, Bool.and_eq_true, decide_eq_true_eq] at a7
    obtain ⟨c1, c2, _⟩ := a7
    have f1 : e.Thread.toNat = t := by omega
    have f2 : e.Index.toNat = k := by omega
    refine ⟨(d ++ (⟨#[58]⟩ : ByteArray)) ++ b, ?_, ?_, .inr ⟨t, d, b, ht3, h1, rfl, a6, by omega, by rw [f1]; omega, by omega, by rw [f1, f2]; exact a5, by rw [f1, f2]; exact a3⟩⟩
    · refine Ret.eq ?_
      unfold F_impl_eventText
      refine .bifD (fun hn => absurd hn (by omega)) fun _ => ?_
      rw [f1, f2, h1]
      refine (Ret.of (P := (· = d)) a1 rfl).bind fun u hu => ?_
      subst hu
      refine .gdD c1 (.gdD ⟨by omega, by omega⟩ (.gdD ⟨by omega, by omega⟩ ((Ret.of (P := (· = b)) a3 rfl).bind fun w hw => ?_)))
      subst hw
      exact .gdD c2 (.pure rfl)
    · refine Ret.eq ?_
      unfold F_spec_l15Event
      refine .bifD (fun hn => absurd hn (by omega)) fun _ => ?_
      rw [f1, f2, h1]
      refine (Ret.of (P := (· = d)) a2 rfl).bind fun u hu => ?_
      subst hu
      refine .gdD c1 (.gdD ⟨by omega, by omega⟩ (.gdD ⟨by omega, by omega⟩ ((Ret.of (P := (· = b)) a4 rfl).bind fun w hw => ?_)))
      subst hw
      exact .gdD c2 (.pure rfl)
/-- EventsOf, and EventText, of both -/
theorem eventsOf_ret {p : List (List Ximpl_Instr)} (hs : p.length ≤ 1048576 ∧ total p ≤ 1048576) : F_impl_EventsOf p = some (bif validB (p.map fun r => r.map toIns) then evs p else []) ∧ F_spec_EventsOf p = some (bif validB (p.map fun r => r.map toIns) then evs p else []) := by
  constructor
  · unfold F_impl_EventsOf
    rw [show F_impl_ProgramValid p = some (validB (p.map fun r => r.map toIns)) from gd_true (decide_eq_true hs)]
    cases hv : validB (p.map fun r => r.map toIns) with
    | false => rfl
    | true =>
      obtain ⟨v, e, rfl⟩ := ievents (Vs.of hv).1
      show (F_impl_events p).bind _ = _
      rw [e]
      rfl
  · unfold F_spec_EventsOf
    rw [show F_spec_ProgramValid p = some (validB (p.map fun r => r.map toIns)) from gd_true (decide_eq_true hs)]
    cases hv : validB (p.map fun r => r.map toIns) with
    | false => rfl
    | true =>
      obtain ⟨v, e, rfl⟩ := sevents (Vs.of hv).1
      show (F_spec_l6Events p).bind _ = _
      rw [e]
      rfl
theorem within_ret (x lo hi : Int) : Ret (F_impl_within x lo hi) (· = (decide (lo ≤ x) && decide (x ≤ hi))) := by
  unfold F_impl_within
  refine Ret.bind (P := (· = (decide (lo ≤ x) && decide (x ≤ hi)))) ?_ fun v hv => .pure hv
  refine .bifD (fun h => .pure ?_) fun h => .pure ?_
  · simp [h]
  · simp [h]
theorem evs_len {p : List (List Ximpl_Instr)} (h : Vs p) : (evs p).length ≤ 24 := by
  have := evP_len h p.length
  have := h.1
  unfold evs
  omega
/-- what EventText answers -/
theorem eventText_ret {p : List (List Ximpl_Instr)} (hs : p.length ≤ 1048576 ∧ total p ≤ 1048576) (i : Int) : ∃ s, F_impl_EventText p i = some s ∧ F_spec_EventText p i = some s ∧
    ((s = ⟨#[]⟩ ∧ (validB (p.map fun r => r.map toIns) = false ∨ i < 0 ∨ ((evs p).length : Int) ≤ i)) ∨ (validB (p.map fun r => r.map toIns) = true ∧ 0 ≤ i ∧ i < ((evs p).length : Int) ∧ IsText p ((evs p).getD i.toNat default) s)) := by
  obtain ⟨hi, hsp⟩ := eventsOf_ret hs
  cases hv : validB (p.map fun r => r.map toIns) with
  | false =>
    rw [hv] at hi hsp
    refine ⟨⟨#[]⟩, ?_, ?_, .inl ⟨rfl, .inl rfl⟩⟩
    · refine Ret.eq ?_
      unfold F_impl_EventText
      refine (Ret.of (P := (· = [])) hi rfl).bind fun l hl => ?_
      subst hl
      refine .gdI (by decide) ((within_ret _ _ _).bind fun b hb => .bif (fun _ => .pure rfl) fun h => ?_)
      exfalso
      rw [hb] at h
      simp at h
      omega
    · refine Ret.eq ?_
      unfold F_spec_EventText
      refine (Ret.of (P := (· = [])) hsp rfl).bind fun l hl => ?_
      subst hl
      refine Ret.bind (P := (· = true)) (.bifD (fun _ => .pure rfl) fun h => .pure (by simp; omega)) fun b hb => ?_
      subst hb
      exact .bif (fun _ => .pure rfl) fun h => by cases h
  | true =>
    rw [hv] at hi hsp
    have hV := (Vs.of hv).1
    have hlen := evs_len hV
    by_cases hin : 0 ≤ i ∧ i < ((evs p).length : Int)
    · have hmem : (evs p).getD i.toNat default ∈ evs p := by
        have : i.toNat < (evs p).length := by omega
        rw [List.getD_eq_getElem?_getD, List.getElem?_eq_getElem this]
        exact List.getElem_mem _
      obtain ⟨s, e1, e2, e3⟩ := text_ret hv (evP_mem (Nat.le_refl _) hmem)
      refine ⟨s, ?_, ?_, .inr ⟨rfl, hin.1, hin.2, e3⟩⟩
      · refine Ret.eq ?_
        unfold F_impl_EventText
        refine (Ret.of (P := (· = evs p)) hi rfl).bind fun l hl => ?_
        subst hl
        refine .gdI (by omega) ((within_ret _ _ _).bind fun b hb => .bif (fun h => ?_) fun h => .gdD hin ((Ret.of (P := (· = s)) e1 rfl).bind fun u hu => .pure hu))
        exfalso
        rw [hb] at h
        simp at h
        omega
      · refine Ret.eq ?_
        unfold F_spec_EventText
        refine (Ret.of (P := (· = evs p)) hsp rfl).bind fun l hl => ?_
        subst hl
        refine Ret.bind (P := (· = false)) (.bifD (fun h => by omega) fun h => .pure (by simp; omega)) fun b hb => ?_
        subst hb
        exact .bif (fun h => by cases h) fun _ => .gdD hin ((Ret.of (P := (· = s)) e2 rfl).bind fun u hu => .pure hu)
    · refine ⟨⟨#[]⟩, ?_, ?_, .inl ⟨rfl, .inr (by omega)⟩⟩
      · refine Ret.eq ?_
        unfold F_impl_EventText
        refine (Ret.of (P := (· = evs p)) hi rfl).bind fun l hl => ?_
        subst hl
        refine .gdI (by omega) ((within_ret _ _ _).bind fun b hb => .bif (fun _ => .pure rfl) fun h => ?_)
        exfalso
        rw [hb] at h
        simp at h
        omega
      · refine Ret.eq ?_
        unfold F_spec_EventText
        refine (Ret.of (P := (· = evs p)) hsp rfl).bind fun l hl => ?_
        subst hl
        refine Ret.bind (P := (· = true)) (.bifD (fun _ => .pure rfl) fun h => .pure (by simp; omega)) fun b hb => ?_
        subst hb
        exact .bif (fun _ => .pure rfl) fun h => by cases h
end Go.Proofs.YtjogdblionfmiaaDoor
