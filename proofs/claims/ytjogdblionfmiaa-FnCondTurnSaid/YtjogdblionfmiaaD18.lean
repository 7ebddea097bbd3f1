/-
  FnCondTurn's plain function is true at every code. Plain theorems. No conditions.
-/
import Derived.Test.YtjogdblionfmiaaD17f
import Derived.Test.YtjogdblionfmiaaS18d
namespace Go.Proofs.Ytjogdblionfmiaa
open Go.RowKit
set_option maxRecDepth 100000
theorem cv_is {t r v : Int} (ht : 0 ≤ t ∧ t ≤ 2) (hr : 0 ≤ r ∧ r ≤ 2) (hv : 0 ≤ v ∧ v ≤ 3) : F_impl_CondValid (⟨1, t, r, v, ()⟩ : Ximpl_Cond) = some true := by
  have e1 : (decide (0 ≤ t) && decide (t ≤ 2)) = true := by simp [ht]
  have e2 : (decide (0 ≤ r) && decide (r ≤ 2)) = true := by simp [hr]
  have e3 : (decide (0 ≤ v) && decide (v ≤ 3)) = true := by simp [hv]
  have hn : F_impl_isCondNode (⟨1, t, r, v, ()⟩ : Ximpl_Cond) = some true := by
    unfold F_impl_isCondNode
    simp only [within_is, e1, e2, e3]
    rfl
  have hl : loopO F_impl_condSize_L7 () = some () := by
    rw [loopO_eq]
    rfl
  unfold F_impl_CondValid F_impl_condSize
  rw [hn, hl]
  rfl
theorem holds_is {p : List (List Ximpl_Instr)} {o : List Int} (hp : 0 < p.length ∧ p.length ≤ 3) (ho : o.length = 3 * p.length + 3) {t r v : Int} (ht : 0 ≤ t ∧ t ≤ (p.length : Int) - 1) (hr : 0 ≤ r ∧ r ≤ 2) :
    F_impl_holds (p.length : Int) o (⟨1, t, r, v, ()⟩ : Ximpl_Cond) = some (o.getD (3 * t.toNat + r.toNat) 0 == v) := by
  refine Ret.eq ?_
  unfold F_impl_holds
  refine .bif (fun _ => ?_) fun h => by simp at h
  refine Ret.bind (P := (· = o.getD (3 * t.toNat + r.toNat) 0)) (.bifD (fun _ => .gdI (by simp only []; omega) (.gdI (by simp only []; omega) (.gdD ⟨by simp only []; omega, by simp only []; omega⟩ (.pure ?_)))) fun h => absurd (show t < (p.length : Int) by omega) h) fun v hv => .pure (by rw [hv])
  have e : (3 * t + r).toNat = 3 * t.toNat + r.toNat := by omega
  simp only [e]
  rfl
theorem ch_is {p : List (List Ximpl_Instr)} (hsz : p.length ≤ 1048576 ∧ total p ≤ 1048576) {o : List Int} (hp : 0 < p.length ∧ p.length ≤ 3) (hov : ovB p o = true) (ho : o.length = 3 * p.length + 3) {t r v : Int} (ht : 0 ≤ t ∧ t ≤ (p.length : Int) - 1) (hr : 0 ≤ r ∧ r ≤ 2) (hv : 0 ≤ v ∧ v ≤ 3) :
    F_impl_CondHolds p o (⟨1, t, r, v, ()⟩ : Ximpl_Cond) = some (o.getD (3 * t.toNat + r.toNat) 0 == v) := by
  unfold F_impl_CondHolds
  rw [ovI hsz (by omega), hov, cv_is (by omega) hr hv, holds_is hp ho ht hr]
  rfl
theorem law18 {b : List Int} (hb : Bts b) : F_laws_FnCondTurn b = some true := by
  refine Ret.eq ?_
  unfold F_laws_FnCondTurn
  refine .bifD (fun _ => .pure rfl) fun _ => (draw17 hb).bind fun v ⟨hp, ho⟩ => ?_
  obtain ⟨p, o, i, k, x, y⟩ := v
  simp only at hp ho ⊢
  have hsz := goP_sz hp
  have hpl := (goP_iff.1 hp).1
  rcases turn_cases hsz (o := o) (by omega) i k x y with ⟨e1, e2⟩ | ⟨a, e1, e2, e3, hl, hov, hova, hi, hk, hr⟩
  · rw [e1, e2]
    refine Ret.bind (Ret.pure (P := (· = (([] : List Int), false))) rfl) fun v hv => Ret.bind (Ret.pure (P := (· = (([] : List Int), false))) rfl) fun v' hv' => ?_
    subst hv hv'
    refine Ret.bind (P := (· = false)) (.bif (fun h => by simp at h) fun _ => (wmInts_ret [] (by simp)).bind fun s hs => .pure (by rw [hs]; rfl)) fun s hs => ?_
    subst hs
    refine Ret.bind (P := (· = true)) (.bif (fun h => by simp at h) fun _ => .pure rfl) fun s hs => ?_
    subst hs
    refine .bif (fun _ => ?_) fun h => by simp at h
    exact Ret.bind (P := (· = true)) (.bif (fun _ => (wmInts_ret [] (by simp)).bind fun s hs => .pure hs) fun h => by simp at h) fun s hs => .pure hs
  · rw [e1, e2]
    refine Ret.bind (Ret.pure (P := (· = (a, true))) rfl) fun v hv => Ret.bind (Ret.pure (P := (· = (a, true))) rfl) fun v' hv' => ?_
    subst hv hv'
    refine Ret.bind (P := (· = false)) (.bif (fun h => by simp at h) fun _ => (wmInts_ret a (by omega)).bind fun s hs => .pure (by rw [hs]; rfl)) fun s hs => ?_
    subst hs
    refine Ret.bind (P := (· = false)) (.bif (fun h => by simp at h) fun _ => .pure rfl) fun s hs => ?_
    subst hs
    refine .bif (fun h => by simp at h) fun _ => ?_
    have hol : o.length = 3 * p.length + 3 := by
      unfold ovB at hov
      simp only [Bool.and_eq_true, decide_eq_true_eq] at hov
      exact hov.2.1
    have hal : a.length = 3 * p.length + 3 := hl.trans hol
    refine Ret.sum (PS := fun _ => True) (PW := (· = true)) ?_ fun _ _ => .pure rfl
    refine Ret.loop (fun r => 0 ≤ r ∧ r ≤ 3) (fun r => (3 - r).toNat) ⟨Int.le_refl _, by decide⟩ fun r ⟨r1, r2⟩ => ?_
    unfold F_laws_FnCondTurn_L16
    refine .bifD (fun hr2 => ?_) fun _ => .pure trivial
    refine Ret.sum (PS := fun _ : Unit => True) ?_ ?_
    rotate_left
    · intro _ _
      exact .gdI (by omega) (.pure ⟨⟨by omega, by omega⟩, by omega⟩)
    refine Ret.loop (fun v => 0 ≤ v ∧ v ≤ 4) (fun v => (4 - v).toNat) ⟨Int.le_refl _, by decide⟩ fun v ⟨v1, v2⟩ => ?_
    unfold F_laws_FnCondTurn_L20
    refine .bifD (fun hv2 => ?_) fun _ => .pure trivial
    have c1 := ch_is hsz hpl hov hol hi ⟨r1, hr2⟩ ⟨v1, hv2⟩
    have c2 := ch_is hsz hpl hova hal hk ⟨r1, hr2⟩ ⟨v1, hv2⟩
    rw [hr r.toNat (by omega)] at c2
    refine (Ret.of (P := (· = (o.getD (3 * i.toNat + r.toNat) 0 == v))) c1 rfl).bind fun w1 hw1 => (Ret.of (P := (· = (o.getD (3 * i.toNat + r.toNat) 0 == v))) c2 rfl).bind fun w2 hw2 => ?_
    subst hw1 hw2
    exact .bif (fun h => by simp at h) fun _ => .gdI (by omega) (.pure ⟨⟨by omega, by omega⟩, by omega⟩)
end Go.Proofs.Ytjogdblionfmiaa
