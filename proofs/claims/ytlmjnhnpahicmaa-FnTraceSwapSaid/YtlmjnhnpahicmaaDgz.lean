/-
 Runs compared; the run of a schedule. Plain theorems. No conditions.
-/
import Derived.Test.YtlmjnhnpahicmaaDgy
namespace Go.Proofs.Ytlmjnhnpahicmaa
open Go.RowKit
set_option maxRecDepth 100000
theorem equal_ret {a b : List Int} (h : a.length ≤ 4000000) : Ret (F_slices_Equal_int_int a b) (· = decide (a = b)) := by
 unfold F_slices_Equal_int_int
 refine .bif (fun hn => .pure ?_) fun hn => ?_
 ·rw [decide_eq_false]
  rintro rfl
  simp at hn
 ·have hl : a.length = b.length := by
   have : (a.length : Int) = (b.length : Int) := by simpa using hn
   omega
  refine Ret.sum (PS := fun _ => a = b) (PW := (· = decide (a = b))) ((eqLoop hl (bad := false) (fun i h1 h2 => ?_) fun i hi => ?_).mono fun v hv => ?_) fun _ e => .pure (decide_eq_true e).symm
  ·unfold F_slices_Equal_int_int_L6
   refine .bifD (fun _ => .gdD ⟨h1, h2⟩ (.gdD ⟨h1, by omega⟩ (.bif (fun hb => .pure ?_) fun hb => .gdI (by omega) (.pure ?_)))) fun h => absurd h2 h
   ·rw [if_neg (by simpa using hb)]
   ·rw [if_pos (by simpa using hb)]
  ·unfold F_slices_Equal_int_int_L6
   rw [decide_eq_false hi]
   rfl
  ·subst hv
   by_cases e : a = b
   ·rw [if_pos e]; exact e
   ·rw [if_neg e]; exact (decide_eq_false e).symm
theorem equalF_ret {a b : List (List Int)} (h : a.length ≤ 4000000) (hr : ∀ i : Nat, (a.getD i default).length ≤ 4000000) : Ret (F_slices_EqualFunc_int_int_int_int__impl_ExecSame_1 a b) (· = decide (a = b)) := by
 unfold F_slices_EqualFunc_int_int_int_int__impl_ExecSame_1
 refine .bif (fun hn => .pure ?_) fun hn => ?_
 ·rw [decide_eq_false]
  rintro rfl
  simp at hn
 ·have hl : a.length = b.length := by
   have : (a.length : Int) = (b.length : Int) := by simpa using hn
   omega
  refine Ret.sum (PS := fun _ => a = b) (PW := (· = decide (a = b))) ((eqLoop hl (bad := false) (fun i h1 h2 => ?_) fun i hi => ?_).mono fun v hv => ?_) fun _ e => .pure (decide_eq_true e).symm
  ·unfold F_slices_EqualFunc_int_int_int_int__impl_ExecSame_1_L6
   refine .bifD (fun _ => .gdD ⟨h1, h2⟩ (.gdD ⟨h1, by omega⟩ ?_)) fun h => absurd h2 h
   refine Ret.bind (P := (· = decide (a.getD i.toNat default = b.getD i.toNat default))) (by unfold F_impl_ExecSame_1; exact (equal_ret (hr _)).bind fun v hv => .pure hv) fun v hv => ?_
   subst hv
   refine .bif (fun hb => .pure ?_) fun hb => .gdI (by omega) (.pure ?_)
   ·rw [if_neg (by intro e; rw [decide_eq_true e] at hb; cases hb)]
   ·rw [if_pos (by refine of_decide_eq_true ?_; revert hb; cases decide (a.getD i.toNat default = b.getD i.toNat default) <;> simp)]
  ·unfold F_slices_EqualFunc_int_int_int_int__impl_ExecSame_1_L6
   rw [decide_eq_false hi]
   rfl
  ·subst hv
   by_cases e : a = b
   ·rw [if_pos e]; exact e
   ·rw [if_neg e]; exact (decide_eq_false e).symm
def EB (e : Ximpl_Exec) : Prop := e.From.length ≤ 4000000 ∧ e.Order.length ≤ 4000000 ∧ ∀ i : Nat, (e.Order.getD i default).length ≤ 4000000
def same (a b : Ximpl_Exec) : Bool := decide (a.From = b.From) && decide (a.Order = b.Order)
theorem isame_ret {a b : Ximpl_Exec} (h : EB a) : Ret (F_impl_ExecSame a b) (· = same a b) := by
 unfold F_impl_ExecSame same
 refine (equal_ret h.1).bind fun v hv => ?_
 subst hv
 refine Ret.bind (P := (· = (decide (a.From = b.From) && decide (a.Order = b.Order)))) (.bif (fun hb => (equalF_ret h.2.1 h.2.2).bind fun v hv => .pure (by rw [hv, hb]; rfl)) fun hb => .pure (by rw [hb]; rfl)) fun v hv => .pure hv
def exOf (p : List (List ZIn)) (s : List Int) (b : Bool) : Ximpl_Exec := bif b then ⟨(runX p (ordF p s s.length)).1, (runX p (ordF p s s.length)).2⟩ else ⟨[], []⟩
theorem execOf_ret (p : List (List ZIn)) {s : List Int} (hsz : p.length ≤ 1048576 ∧ total p ≤ 1048576) (hs : s.length ≤ 1048576) :
  ∃ b, F_impl_ExecOf p s = some (exOf p s b, b) ∧ F_spec_ExecOf p s = some (exOf p s b, b) ∧ EB (exOf p s b) ∧ (b = true ↔ Whole p s) := by
 obtain ⟨o, b, e1, e2, hg⟩ := irun_ret p hsz hs
 have key : (b = true → F_impl_execOf p s = some (exOf p s b) ∧ F_spec_l13Exec p s = some (exOf p s b)) →
   F_impl_ExecOf p s = some (exOf p s b, b) ∧ F_spec_ExecOf p s = some (exOf p s b, b) := by
  intro he
  constructor
  ·refine Ret.eq ?_
   unfold F_impl_ExecOf
   refine (Ret.of (P := (· = (o, b))) e1 rfl).bind fun v hv => ?_
   subst hv
   refine .bif (fun hb => .pure ?_) fun hb => ?_
   ·have : b = false := by simpa using hb
    subst this
    rfl
   ·have : b = true := by simpa using hb
    subst this
    exact (Ret.of (P := (· = exOf p s true)) (he rfl).1 rfl).bind fun v hv => .pure (by rw [hv])
  ·refine Ret.eq ?_
   unfold F_spec_ExecOf
   refine (Ret.of (P := (· = (o, b))) e2 rfl).bind fun v hv => ?_
   subst hv
   refine .bif (fun hb => .pure ?_) fun hb => ?_
   ·have : b = false := by simpa using hb
    subst this
    rfl
   ·have : b = true := by simpa using hb
    subst this
    exact (Ret.of (P := (· = exOf p s true)) (he rfl).2 rfl).bind fun v hv => .pure (by rw [hv])
 cases b with
 | false =>
  obtain ⟨k1, k2⟩ := key nofun
  refine ⟨false, k1, k2, ⟨Nat.zero_le _, Nat.zero_le _, fun i => ?_⟩, hg⟩
  show (([] : List (List Int)).getD i []).length ≤ _
  rw [List.getD_nil]
  exact Nat.zero_le _
 | true =>
  have hw := hg.1 rfl
  have hp := PV.of hw.1
  have hgood := hw.2.1
  obtain ⟨k1, k2⟩ := key fun _ => ⟨(iexec_ret hp hs hgood).eq, (sexec_ret hp hs hgood).eq⟩
  refine ⟨true, k1, k2, ?_, hg⟩
  have hin := InX.run (ord_ok hp hgood (Nat.le_refl s.length))
  have hol := ordF_len p s s.length
  have hel := evs_len hp.vs
  refine ⟨by show (runX p (ordF p s s.length)).1.length ≤ _; rw [hin.f]; omega, by show (runX p (ordF p s s.length)).2.length ≤ _; rw [hin.o]; omega, fun i => ?_⟩
  show ((runX p (ordF p s s.length)).2.getD i []).length ≤ _
  by_cases hi : i < 3
  ·have := hin.r i hi
   omega
  ·rw [List.getD_eq_getElem?_getD, List.getElem?_eq_none (by rw [hin.o]; omega)]
   exact Nat.zero_le _
theorem isameTrace_ret (p : List (List ZIn)) {a b : List Int} {x y : Ximpl_Exec} {c d : Bool} (x1 : F_impl_ExecOf p a = some (x, c)) (y1 : F_impl_ExecOf p b = some (y, d)) (x3 : EB x) : Ret (F_impl_SameTrace p a b) (· = (c && d && same x y)) := by
 unfold F_impl_SameTrace
 refine (Ret.of (P := (· = (x, c))) x1 rfl).bind fun v hv => (Ret.of (P := (· = (y, d))) y1 rfl).bind fun v' hv' => ?_
 subst hv hv'
 refine Ret.bind (P := (· = (c && d))) (.bif (fun h => .pure (by simp only [] at h ⊢; rw [h]; rfl)) fun h => .pure (by simp only [] at h; rw [h]; rfl)) fun v hv => ?_
 refine Ret.bind (P := (· = (c && d && same x y))) (.bif (fun h => ?_) fun h => .pure (by rw [← hv, h]; rfl)) fun v hv => .pure hv
 exact (isame_ret x3).bind fun w hw => .pure (by rw [← hv, h, Bool.true_and]; exact hw)
end Go.Proofs.Ytlmjnhnpahicmaa
