/-
  FnExactSameTrace's plain function is true at every program and schedules. Plain theorems. No conditions.
-/
import Derived.Test.YtlmjnhnpahicmaaDgy
namespace Go.Proofs.Ytlmjnhnpahicmaa
open Go.RowKit
set_option maxRecDepth 100000
/-! ### two runs compared -/
theorem equal_ret {a b : List Int} (h : a.length ≤ 4000000) : Ret (F_slices_Equal_int_int a b) (· = decide (a = b)) := by
  unfold F_slices_Equal_int_int
  refine .bif (fun hn => .pure ?_) fun hn => ?_
  · rw [decide_eq_false]
    rintro rfl
    simp at hn
  · have hl : a.length = b.length := by
      have : (a.length : Int) = (b.length : Int) := by simpa using hn
      omega
    refine Ret.sum (PS := fun _ => a = b) (PW := (· = decide (a = b))) ((eqLoop hl (bad := false) (fun i h1 h2 => ?_) fun i hi => ?_).mono fun v hv => ?_) fun _ e => .pure (decide_eq_true e).symm
    · unfold F_slices_Equal_int_int_L6
      refine .bifD (fun _ => .gdD ⟨h1, h2⟩ (.gdD ⟨h1, by omega⟩ (.bif (fun hb => .pure ?_) fun hb => .gdI (by omega) (.pure ?_)))) fun h => absurd h2 h
      · rw [if_neg (by simpa using hb)]
      · rw [if_pos (by simpa using hb)]
    · unfold F_slices_Equal_int_int_L6
      rw [decide_eq_false hi]
      rfl
    · subst hv
      by_cases e : a = b
      · rw [if_pos e]; exact e
      · rw [if_neg e]; exact (decide_eq_false e).symm
theorem equalF_ret {a b : List (List Int)} (h : a.length ≤ 4000000) (hr : ∀ i : Nat, (a.getD i default).length ≤ 4000000) : Ret (F_slices_EqualFunc_int_int_int_int__impl_ExecSame_1 a b) (· = decide (a = b)) := by
  unfold F_slices_EqualFunc_int_int_int_int__impl_ExecSame_1
  refine .bif (fun hn => .pure ?_) fun hn => ?_
  · rw [decide_eq_false]
    rintro rfl
    simp at hn
  · have hl : a.length = b.length := by
      have : (a.length : Int) = (b.length : Int) := by simpa using hn
      omega
    refine Ret.sum (PS := fun _ => a = b) (PW := (· = decide (a = b))) ((eqLoop hl (bad := false) (fun i h1 h2 => ?_) fun i hi => ?_).mono fun v hv => ?_) fun _ e => .pure (decide_eq_true e).symm
    · unfold F_slices_EqualFunc_int_int_int_int__impl_ExecSame_1_L6
      refine .bifD (fun _ => .gdD ⟨h1, h2⟩ (.gdD ⟨h1, by omega⟩ ?_)) fun h => absurd h2 h
      refine Ret.bind (P := (· = decide (a.getD i.toNat default = b.getD i.toNat default))) (by unfold F_impl_ExecSame_1; exact (equal_ret (hr _)).bind fun v hv => .pure hv) fun v hv => ?_
      subst hv
      refine .bif (fun hb => .pure ?_) fun hb => .gdI (by omega) (.pure ?_)
      · rw [if_neg (by intro e; rw [decide_eq_true e] at hb; cases hb)]
      · rw [if_pos (by refine of_decide_eq_true ?_; revert hb; cases decide (a.getD i.toNat default = b.getD i.toNat default) <;> simp)]
    · unfold F_slices_EqualFunc_int_int_int_int__impl_ExecSame_1_L6
      rw [decide_eq_false hi]
      rfl
    · subst hv
      by_cases e : a = b
      · rw [if_pos e]; exact e
      · rw [if_neg e]; exact (decide_eq_false e).symm
/-- a run's sizes -/
def EB (e : Ximpl_Exec) : Prop := e.From.length ≤ 4000000 ∧ e.Order.length ≤ 4000000 ∧ ∀ i : Nat, (e.Order.getD i default).length ≤ 4000000
def same (a b : Ximpl_Exec) : Bool := decide (a.From = b.From) && decide (a.Order = b.Order)
theorem isame_ret {a b : Ximpl_Exec} (h : EB a) : Ret (F_impl_ExecSame a b) (· = same a b) := by
  unfold F_impl_ExecSame same
  refine (equal_ret h.1).bind fun v hv => ?_
  subst hv
  refine Ret.bind (P := (· = (decide (a.From = b.From) && decide (a.Order = b.Order)))) (.bif (fun hb => (equalF_ret h.2.1 h.2.2).bind fun v hv => .pure (by rw [hv, hb]; rfl)) fun hb => .pure (by rw [hb]; rfl)) fun v hv => .pure hv
theorem ssame_ret {a b : Ximpl_Exec} (h : EB a) : Ret (F_spec_ExecSame a b) (· = same a b) := by
  unfold F_spec_ExecSame same
  refine Ret.bind (P := (· = !(decide (a.From.length = b.From.length) && decide (a.Order.length = b.Order.length)))) (.bif (fun hn => .pure ?_) fun hn => .pure ?_) fun v hv => ?_
  · have : ¬ (a.From.length : Int) = (b.From.length : Int) := by simpa using hn
    rw [decide_eq_false (p := a.From.length = b.From.length) (by omega)]
    rfl
  · have : (a.From.length : Int) = (b.From.length : Int) := by simpa using hn
    rw [decide_eq_true (p := a.From.length = b.From.length) (by omega)]
    by_cases e : a.Order.length = b.Order.length
    · rw [decide_eq_true e, e]; simp
    · rw [decide_eq_false e]
      have : ¬ (a.Order.length : Int) = (b.Order.length : Int) := by omega
      simpa using this
  · subst hv
    refine .bif (fun hn => .pure ?_) fun hn => ?_
    · by_cases e1 : a.From = b.From
      · by_cases e2 : a.Order = b.Order
        · rw [e1, e2] at hn; simp at hn
        · rw [decide_eq_false e2, Bool.and_false]
      · rw [decide_eq_false e1, Bool.false_and]
    · have hn : (decide (a.From.length = b.From.length) && decide (a.Order.length = b.Order.length)) = true := by
        revert hn
        cases (decide (a.From.length = b.From.length) && decide (a.Order.length = b.Order.length)) <;> simp
      simp only [Bool.and_eq_true, decide_eq_true_eq] at hn
      obtain ⟨l1, l2⟩ := hn
      refine Ret.sum (PS := fun _ => a.From = b.From) (PW := (· = (decide (a.From = b.From) && decide (a.Order = b.Order)))) ((eqLoop l1 (bad := false) (fun i h1 h2 => ?_) fun i hi => ?_).mono fun v hv => ?_) fun _ e => ?_
      · unfold F_spec_ExecSame_L8
        have := h.1
        refine .bifD (fun _ => .gdD ⟨h1, h2⟩ (.gdD ⟨h1, by omega⟩ (.bif (fun hb => .pure ?_) fun hb => .gdI (by omega) (.pure ?_)))) fun h => absurd h2 h
        · rw [if_neg (by simpa using hb)]
        · rw [if_pos (by simpa using hb)]
      · unfold F_spec_ExecSame_L8
        rw [decide_eq_false hi]
        rfl
      · subst hv
        by_cases e : a.From = b.From
        · rw [if_pos e]; exact e
        · rw [if_neg e, decide_eq_false e]; rfl
      · rw [decide_eq_true e, Bool.true_and]
        refine Ret.sum (PS := fun _ => a.Order = b.Order) (PW := (· = decide (a.Order = b.Order))) ((eqLoop l2 (bad := false) (fun i h1 h2 => ?_) fun i hi => ?_).mono fun v hv => ?_) fun _ e => .pure (decide_eq_true e).symm
        · unfold F_spec_ExecSame_L18
          have h3 := h.2.1
          have h4 := h.2.2 i.toNat
          refine .bifD (fun _ => ?_) fun h => absurd h2 h
          by_cases er : a.Order.getD i.toNat default = b.Order.getD i.toNat default
          · rw [if_pos er]
            refine .sumL (s := ()) (.gdD ⟨h1, h2⟩ (.gdD ⟨h1, by omega⟩ (.bif (fun hb => by rw [er] at hb; simp at hb) fun hb => ?_))) (.gdI (by omega) (.pure rfl))
            refine (eqLoop (bad := .inr (.inr false)) (congrArg List.length er) (fun j j1 j2 => ?_) fun j hj => ?_).mono fun v hv => by rw [hv, if_pos er]
            · unfold F_spec_ExecSame_L27
              have j3 := congrArg List.length er
              refine .bifD (fun _ => .gdD ⟨j1, j2⟩ (.gdD ⟨j1, by omega⟩ (.bif (fun hb => .pure ?_) fun hb => .gdI (by omega) (.pure ?_)))) fun h => absurd j2 h
              · rw [if_neg (by simpa using hb)]
              · rw [if_pos (by simpa using hb)]
            · unfold F_spec_ExecSame_L27
              rw [decide_eq_false hj]
              rfl
          · rw [if_neg er]
            refine .sumR (.gdD ⟨h1, h2⟩ (.gdD ⟨h1, by omega⟩ (.bif (fun hb => .pure rfl) fun hb => ?_)))
            have j3 : (a.Order.getD i.toNat default).length = (b.Order.getD i.toNat default).length := by
              have : ((a.Order.getD i.toNat default).length : Int) = ((b.Order.getD i.toNat default).length : Int) := by simpa using hb
              omega
            refine (eqLoop (bad := .inr (.inr false)) j3 (fun j j1 j2 => ?_) fun j hj => ?_).mono fun v hv => by rw [hv, if_neg er]
            · unfold F_spec_ExecSame_L27
              refine .bifD (fun _ => .gdD ⟨j1, j2⟩ (.gdD ⟨j1, by omega⟩ (.bif (fun hb => .pure ?_) fun hb => .gdI (by omega) (.pure ?_)))) fun h => absurd j2 h
              · rw [if_neg (by simpa using hb)]
              · rw [if_pos (by simpa using hb)]
            · unfold F_spec_ExecSame_L27
              rw [decide_eq_false hj]
              rfl
        · unfold F_spec_ExecSame_L18
          rw [decide_eq_false hi]
          rfl
        · subst hv
          by_cases e : a.Order = b.Order
          · rw [if_pos e]; exact e
          · rw [if_neg e]; exact (decide_eq_false e).symm
/-! ### the runs of a schedule -/
theorem execOf_ret (p : List (List Ximpl_Instr)) {s : List Int} (hsz : p.length ≤ 1048576 ∧ total p ≤ 1048576) (hs : s.length ≤ 1048576) :
    ∃ e b, F_impl_ExecOf p s = some (e, b) ∧ F_spec_ExecOf p s = some (e, b) ∧ EB e := by
  obtain ⟨o, b, e1, e2, hg⟩ := irun_ret p hsz hs
  have key : ∀ e : Ximpl_Exec, (b = true → F_impl_execOf p s = some e ∧ F_spec_l13Exec p s = some e) →
      F_impl_ExecOf p s = some (bif b then e else ⟨[], []⟩, b) ∧ F_spec_ExecOf p s = some (bif b then e else ⟨[], []⟩, b) := by
    intro e he
    constructor
    · refine Ret.eq ?_
      unfold F_impl_ExecOf
      refine (Ret.of (P := (· = (o, b))) e1 rfl).bind fun v hv => ?_
      subst hv
      refine .bif (fun hb => .pure ?_) fun hb => ?_
      · have : b = false := by simpa using hb
        subst this
        rfl
      · have : b = true := by simpa using hb
        subst this
        exact (Ret.of (P := (· = e)) (he rfl).1 rfl).bind fun v hv => .pure (by rw [hv]; rfl)
    · refine Ret.eq ?_
      unfold F_spec_ExecOf
      refine (Ret.of (P := (· = (o, b))) e2 rfl).bind fun v hv => ?_
      subst hv
      refine .bif (fun hb => .pure ?_) fun hb => ?_
      · have : b = false := by simpa using hb
        subst this
        rfl
      · have : b = true := by simpa using hb
        subst this
        exact (Ret.of (P := (· = e)) (he rfl).2 rfl).bind fun v hv => .pure (by rw [hv]; rfl)
  cases b with
  | false =>
    obtain ⟨k1, k2⟩ := key ⟨[], []⟩ nofun
    exact ⟨_, _, k1, k2, Nat.zero_le _, Nat.zero_le _, fun i => by
      show (([] : List (List Int)).getD i []).length ≤ _
      rw [List.getD_nil]
      exact Nat.zero_le _⟩
  | true =>
    obtain ⟨hp, hgood⟩ := hg rfl
    obtain ⟨k1, k2⟩ := key _ fun _ => ⟨(iexec_ret hp hs hgood).eq, (sexec_ret hp hs hgood).eq⟩
    refine ⟨_, _, k1, k2, ?_⟩
    have hin := InX.run (ord_ok hp hgood (Nat.le_refl s.length))
    have hol := ordF_len p s s.length
    have hel := evs_len hp.vs
    refine ⟨by show (runX p (ordF p s s.length)).1.length ≤ _; rw [hin.f]; omega, by show (runX p (ordF p s s.length)).2.length ≤ _; rw [hin.o]; omega, fun i => ?_⟩
    show ((runX p (ordF p s s.length)).2.getD i []).length ≤ _
    by_cases hi : i < 3
    · have := hin.r i hi
      omega
    · rw [List.getD_eq_getElem?_getD, List.getElem?_eq_none (by rw [hin.o]; omega)]
      exact Nat.zero_le _
theorem sameTrace_ret (p : List (List Ximpl_Instr)) {a b : List Int} (hsz : p.length ≤ 1048576 ∧ total p ≤ 1048576) (ha : a.length ≤ 1048576) (hb : b.length ≤ 1048576) :
    ∃ r, F_impl_SameTrace p a b = some r ∧ F_spec_SameTrace p a b = some r := by
  obtain ⟨x, c, x1, x2, x3⟩ := execOf_ret p hsz ha
  obtain ⟨y, d, y1, y2, _⟩ := execOf_ret p hsz hb
  refine ⟨c && d && same x y, Ret.eq ?_, Ret.eq ?_⟩
  · unfold F_impl_SameTrace
    refine (Ret.of (P := (· = (x, c))) x1 rfl).bind fun v hv => (Ret.of (P := (· = (y, d))) y1 rfl).bind fun v' hv' => ?_
    subst hv hv'
    refine Ret.bind (P := (· = (c && d))) (.bif (fun h => .pure (by simp only [] at h ⊢; rw [h]; rfl)) fun h => .pure (by simp only [] at h; rw [h]; rfl)) fun v hv => ?_
    refine Ret.bind (P := (· = (c && d && same x y))) (.bif (fun h => ?_) fun h => .pure (by rw [← hv, h]; rfl)) fun v hv => .pure hv
    exact (isame_ret x3).bind fun w hw => .pure (by rw [← hv, h, Bool.true_and]; exact hw)
  · unfold F_spec_SameTrace
    refine (Ret.of (P := (· = (x, c))) x2 rfl).bind fun v hv => (Ret.of (P := (· = (y, d))) y2 rfl).bind fun v' hv' => ?_
    subst hv hv'
    refine Ret.bind (P := (· = (c && d))) (.bif (fun h => .pure (by simp only [] at h ⊢; rw [h]; rfl)) fun h => .pure (by simp only [] at h; rw [h]; rfl)) fun v hv => ?_
    refine Ret.bind (P := (· = (c && d && same x y))) (.bif (fun h => ?_) fun h => .pure (by rw [← hv, h]; rfl)) fun v hv => .pure hv
    exact (ssame_ret x3).bind fun w hw => .pure (by rw [← hv, h, Bool.true_and]; exact hw)
theorem law26 (a : List (List Xlaws_Instr)) (x y : List Int) (ha : (a.length : Int) ≤ 9223372036854775807 ∧ ∀ r ∈ a, (r.length : Int) ≤ 9223372036854775807) : F_laws_FnExactSameTrace a x y = some true := by
  refine Ret.eq ?_
  unfold F_laws_FnExactSameTrace
  refine .bifD (fun _ => .pure rfl) fun hx => .bifD (fun _ => .pure rfl) fun hy => (szSS a ha).bind fun v hv => .bifD (fun _ => .pure rfl) fun hn => ?_
  obtain ⟨h1, h2⟩ : a.length ≤ 1048576 ∧ total a ≤ 1048576 := by
    rcases hv with hv | hv
    · exact absurd hv hn
    · exact hv
  have hrl0 : ∀ r ∈ a, r.length ≤ 1048576 := fun r hr => by
    obtain ⟨j, hj, rfl⟩ := List.getElem_of_mem hr
    have := row_le_total a j hj
    omega
  have hto := cv_instrSS h1 hrl0
  have hln : (a.map (List.map cvt)).map List.length = a.map List.length := by simp [Function.comp_def]
  have hsz : (a.map (List.map cvt)).length ≤ 1048576 ∧ total (a.map (List.map cvt)) ≤ 1048576 := ⟨by rw [List.length_map]; exact h1, by unfold total; rw [hln]; exact h2⟩
  have hrl : ∀ r ∈ a.map (List.map cvt), r.length ≤ 1048576 := fun r hr => by
    obtain ⟨j, hj, rfl⟩ := List.getElem_of_mem hr
    have := row_le_total (a.map (List.map cvt)) j hj
    omega
  have hx' : x.length ≤ 1048576 := by omega
  have hy' : y.length ≤ 1048576 := by omega
  have hto : Ret (F_laws_toInstrSS a) (· = a.map (List.map cvt)) := hto
  generalize a.map (List.map cvt) = p at hto hsz hrl
  obtain ⟨r, r1, r2⟩ := sameTrace_ret p hsz hx' hy'
  refine hto.bind fun v5 h5 => (cv_intS hx').bind fun v6 h6 => (cv_intS hy').bind fun v7 h7 => ?_
  subst h5 h6 h7
  refine (Ret.of (P := (· = r)) r2 rfl).bind fun v8 h8 => hto.bind fun v9 h9 => (cv_intS hx').bind fun v10 h10 => (cv_intS hy').bind fun v11 h11 => ?_
  subst h9 h10 h11
  refine (Ret.of (P := (· = r)) r1 rfl).bind fun v12 h12 => ?_
  subst h8 h12
  refine .bif (fun h => by simp at h) fun _ => hto.bind fun v14 h14 => ?_
  subst h14
  refine (eq_instrSS _ hsz.1 hrl).bind fun v hv => ?_
  subst hv
  refine .bif (fun h => by cases h) fun _ => (cv_intS hx').bind fun v17 h17 => ?_
  subst h17
  refine (eq_intS _ hx').bind fun v hv => ?_
  subst hv
  refine .bif (fun h => by cases h) fun _ => (cv_intS hy').bind fun v20 h20 => ?_
  subst h20
  refine (eq_intS _ hy').bind fun v hv => ?_
  subst hv
  exact .bif (fun h => by cases h) fun _ => .pure rfl
end Go.Proofs.Ytlmjnhnpahicmaa
