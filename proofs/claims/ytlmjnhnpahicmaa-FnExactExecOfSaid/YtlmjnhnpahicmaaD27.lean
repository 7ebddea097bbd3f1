/-
 Plain facts for FnExactExecOf. Plain theorems. No conditions.
-/
import Derived.Test.YtlmjnhnpahicmaaDgz
import Derived.Test.YtlmjnhnpahicmaaS27d
import Derived.Test.YtlmjnhnpahicmaaXOwn2
namespace Go.Proofs.Ytlmjnhnpahicmaa
open Go.RowKit
set_option maxRecDepth 100000
theorem ex_all {p : List (List ZIn)} {s : List Int} (hsz : p.length ≤ 1048576 ∧ total p ≤ 1048576) (hs : s.length ≤ 1048576) :
  ∃ q b, F_impl_RunSchedule p s = some (q, b) ∧ (b = true → F_impl_execOf p s = some (exOf p s b) ∧ 0 < (exOf p s b).From.length ∧ 0 < (exOf p s b).Order.length ∧ ∀ i, i < (exOf p s b).Order.length → 0 < ((exOf p s b).Order.getD i []).length) ∧
   F_spec_ExecOf p s = some (exOf p s b, b) ∧ EB (exOf p s b) ∧ ((exOf p s b).From.length : Int) + (total (exOf p s b).Order : Int) ≤ 100000000 ∧ (exOf p s b).Order.length ≤ 1000 := by
 obtain ⟨q, b, r1, r2, hw⟩ := irun_ret p hsz hs
 obtain ⟨b', x1, x2, x3, hw'⟩ := execOf_ret p hsz hs
 have eb : b' = b := Bool.eq_iff_iff.2 (hw'.trans hw.symm)
 subst eb
 refine ⟨q, b', r1, fun hb => ?_, x2, x3, ?_⟩
 ·subst hb
  have hW := hw.1 rfl
  have hp := PV.of hW.1
  have hin := InX.run (ord_ok hp hW.2.1 (Nat.le_refl s.length))
  have he3 : 3 ≤ (evs p).length := (evP_pre p (Nat.zero_le p.length)).length_le
  refine ⟨(iexec_ret hp hs hW.2.1).eq, ?_, ?_, fun i hi => ?_⟩
  ·show 0 < (runX p (ordF p s s.length)).1.length
   rw [hin.f]; omega
  ·show 0 < (runX p (ordF p s s.length)).2.length
   rw [hin.o]; omega
  ·have hi : i < (runX p (ordF p s s.length)).2.length := hi
   rw [hin.o] at hi
   exact (hin.r i hi).1
 ·cases b' with
  | false => exact ⟨by simp [exOf, total], by simp [exOf]⟩
  | true =>
   have hW := hw.1 rfl
   have hp := PV.of hW.1
   have hin := InX.run (ord_ok hp hW.2.1 (Nat.le_refl s.length))
   have hel := evs_len hp.vs
   have hol := ordF_len p s s.length
   have h0 := hin.r 0 (by omega)
   have h1 := hin.r 1 (by omega)
   have h2 := hin.r 2 (by omega)
   have ho := hin.o
   have hf := hin.f
   show ((runX p (ordF p s s.length)).1.length : Int) + (total (runX p (ordF p s s.length)).2 : Int) ≤ 100000000 ∧ (runX p (ordF p s s.length)).2.length ≤ 1000
   generalize (runX p (ordF p s s.length)).2 = O at *
   match O, ho with
   | [a, b, c], _ =>
    have e0 : ([a, b, c] : List (List Int)).getD 0 [] = a := rfl
    have e1 : ([a, b, c] : List (List Int)).getD 1 [] = b := rfl
    have e2 : ([a, b, c] : List (List Int)).getD 2 [] = c := rfl
    rw [e0] at h0
    rw [e1] at h1
    rw [e2] at h2
    simp only [total, List.map_cons, List.map_nil, List.sum_cons, List.sum_nil, List.length_cons, List.length_nil]
    omega
theorem eqIntS_ret (a : List Int) (h : a.length ≤ 4000000) : Ret (F_laws_eqIntS a a) (· = true) := by
 unfold F_laws_eqIntS
 refine .bif (fun h => by simp at h) fun _ => ?_
 refine Ret.sum (PS := fun _ => True) (PW := (· = true)) ((eqLoop (a := a) (b := a) rfl (bad := false) (fun i h1 h2 => ?_) fun i hi => ?_).mono fun v hv => by rw [hv, if_pos rfl]; trivial) fun _ _ => .pure rfl
 ·unfold F_laws_eqIntS_L6
  exact .bifD (fun _ => .gdD ⟨h1, h2⟩ (.gdD ⟨h1, h2⟩ (.bif (fun h => by simp at h) fun _ => .gdI (by omega) (.pure (by rw [if_pos rfl]))))) fun h => absurd h2 h
 ·unfold F_laws_eqIntS_L6
  rw [decide_eq_false hi]
  rfl
theorem eqIntSS_ret (a : List (List Int)) (h : a.length ≤ 4000000) (hr : ∀ i : Nat, (a.getD i default).length ≤ 4000000) : Ret (F_laws_eqIntSS a a) (· = true) := by
 unfold F_laws_eqIntSS
 refine .bif (fun h => by simp at h) fun _ => ?_
 refine Ret.sum (PS := fun _ => True) (PW := (· = true)) ((eqLoop (a := a) (b := a) rfl (bad := false) (fun i h1 h2 => ?_) fun i hi => ?_).mono fun v hv => by rw [hv, if_pos rfl]; trivial) fun _ _ => .pure rfl
 ·unfold F_laws_eqIntSS_L6
  exact .bifD (fun _ => .gdD ⟨h1, h2⟩ (.gdD ⟨h1, h2⟩ ((eqIntS_ret _ (hr _)).bind fun v hv => .bif (fun h => by rw [hv] at h; simp at h) fun _ => .gdI (by omega) (.pure (by rw [if_pos rfl]))))) fun h => absurd h2 h
 ·unfold F_laws_eqIntSS_L6
  rw [decide_eq_false hi]
  rfl
theorem eqExec_ret {x : Ximpl_Exec} (h : EB x) : Ret (F_laws_eqExec x x) (· = true) := by
 unfold F_laws_eqExec
 refine (eqIntS_ret _ h.1).bind fun v hv => .bif (fun h => by rw [hv] at h; simp at h) fun _ => ?_
 exact (eqIntSS_ret _ h.2.1 h.2.2).bind fun v hv => .bif (fun h => by rw [hv] at h; simp at h) fun _ => .pure rfl
theorem heldS_ret {k : Int} {n : Nat} (hk0 : 0 ≤ k) (hk1 : k + n ≤ 1000000000) : Ret (F_laws_heldIntS (markedI k n) k) (· = k + n) := by
 have hl := markedI_length k n
 unfold F_laws_heldIntS
 refine Ret.sum (PS := (· = k + (n : Int))) (PW := (· = k + (n : Int))) ?_ fun s hs => .pure hs
 refine Ret.loop (fun z => ∃ i : Nat, i ≤ n ∧ z.1 = (i : Int) ∧ z.2 = k + (i : Int)) (fun z => ((n : Int) - z.1).toNat) ⟨0, by omega, rfl, by simp⟩ fun z ⟨i, h1, h2, h3⟩ => ?_
 obtain ⟨z1, z2⟩ := z
 simp only at h2 h3
 subst h2 h3
 unfold F_laws_heldIntS_L5
 refine .bifD (fun hk => ?_) fun hk => .pure ?_
 ·simp only [hl] at hk
  have hi : i < n := by omega
  have e : (markedI k n).getD i default = k + (i : Int) := by
   rw [List.getD_eq_getElem?_getD, List.getElem?_eq_getElem (by omega)]
   exact markedI_get k n i (by omega)
  simp only [Int.toNat_natCast, hl, e]
  exact .gdD ⟨by omega, by omega⟩ (.bif (fun h => by simp at h) fun _ => .gdI (by omega) (.gdI (by omega) (.pure ⟨⟨i + 1, by omega, rfl, by simp only []; omega⟩, by simp only []; omega⟩)))
 ·simp only [hl] at hk
  have : i = n := by omega
  subst this
  rfl
theorem heldSS_ret {k : Int} {rows : List (List Int)} (hk0 : 0 ≤ k) (hk1 : k + total rows ≤ 1000000000) (hrl : rows.length ≤ 1000000000) : Ret (F_laws_heldIntSS (markedSS k rows) k) (· = k + total rows) := by
 have hl := markedSS_len k rows
 unfold F_laws_heldIntSS
 refine Ret.sum (PS := (· = k + (total rows : Int))) (PW := (· = k + (total rows : Int))) ?_ fun s hs => .pure hs
 refine Ret.loop (fun z => ∃ i : Nat, i ≤ rows.length ∧ z.1 = (i : Int) ∧ z.2 = k + (total (rows.take i) : Int)) (fun z => ((rows.length : Int) - z.1).toNat) ⟨0, by omega, rfl, by simp [total]⟩ fun z ⟨i, h1, h2, h3⟩ => ?_
 obtain ⟨z1, z2⟩ := z
 simp only at h2 h3
 subst h2 h3
 unfold F_laws_heldIntSS_L5
 refine .bifD (fun hk => ?_) fun hk => .pure ?_
 ·simp only [hl] at hk
  have hi : i < rows.length := by omega
  have e : (markedSS k rows).getD i default = markedI (k + (total (rows.take i) : Int)) (rows.getD i []).length := markedSS_get k rows hi
  have hT : total (rows.take (i + 1)) = total (rows.take i) + (rows.getD i []).length := by
   rw [total_take_succ rows i hi]
   have : rows.getD i [] = rows[i] := by simp [hi]
   rw [this]
  have hT1 := total_take_le rows (i + 1)
  simp only [Int.toNat_natCast, hl, e]
  refine .gdD ⟨by omega, by omega⟩ ((heldS_ret (by omega) (by omega)).bind fun v hv => .bifD (fun h => absurd h (by omega)) fun _ => .gdI (by omega) (.pure ⟨⟨i + 1, by omega, rfl, by simp only []; omega⟩, by simp only []; omega⟩))
 ·simp only [hl] at hk
  have : i = rows.length := by omega
  subst this
  show k + _ = _
  rw [List.take_length]
theorem heldExec_ret {x : Ximpl_Exec} {k : Int} (hk0 : 0 ≤ k) (hk1 : k + x.From.length + total x.Order ≤ 1000000000) (hrl : x.Order.length ≤ 1000000000) : Ret (F_laws_heldExec (markedX k x) k) (· = k + x.From.length + total x.Order) := by
 unfold F_laws_heldExec markedX
 refine (heldS_ret hk0 (by omega)).bind fun v hv => .bifD (fun h => absurd h (by omega)) fun _ => ?_
 subst hv
 exact (heldSS_ret (by omega) (by omega) hrl).bind fun v hv => .bifD (fun h => absurd h (by omega)) fun _ => .pure hv
end Go.Proofs.Ytlmjnhnpahicmaa
