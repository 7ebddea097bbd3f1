/-
  FnTurnOutcome's plain function is true at every code. Plain theorems. No conditions.
-/
import Derived.Test.YtjogdblionfmiaaD17f
import Derived.Test.YtjogdblionfmiaaS17d
namespace Go.Proofs.Ytjogdblionfmiaa
open Go.RowKit
set_option maxRecDepth 100000
theorem law17 {b : List Int} (hb : Bts b) : F_laws_FnTurnOutcome b = some true := by
  refine Ret.eq ?_
  unfold F_laws_FnTurnOutcome
  refine .bifD (fun _ => .pure rfl) fun _ => (draw17 hb).bind fun v ⟨hp, ho⟩ => ?_
  obtain ⟨p, o, i, k, x, y⟩ := v
  simp only at hp ho ⊢
  have hsz := goP_sz hp
  have hpl := goP_iff.1 hp
  rcases turn_cases hsz (o := o) (by omega) i k x y with ⟨e1, e2⟩ | ⟨a, e1, e2, e3, hl, hov, hova, hi, hk, hr⟩
  · rw [e1, e2]
    refine Ret.bind (Ret.pure (P := (· = (([] : List Int), false))) rfl) fun v hv => Ret.bind (Ret.pure (P := (· = (([] : List Int), false))) rfl) fun v' hv' => ?_
    subst hv hv'
    refine Ret.bind (P := (· = false)) (.bif (fun h => by simp at h) fun _ => (wmInts_ret [] (by simp)).bind fun s hs => .pure (by rw [hs]; rfl)) fun s hs => ?_
    subst hs
    refine Ret.bind (P := (· = true)) (.bif (fun h => by simp at h) fun _ => .pure rfl) fun s hs => ?_
    subst hs
    refine .bif (fun _ => ?_) fun h => by simp at h
    exact Ret.bind (P := (· = true)) (.bif (fun _ => (wmInts_ret [] (by simp)).bind fun s hs => .pure hs) fun h => by simp at h) fun s hs => .pure hs
  · rw [e1, e2]
    refine Ret.bind (Ret.pure (P := (· = (a, true))) rfl) fun v hv => Ret.bind (Ret.pure (P := (· = (a, true))) rfl) fun v' hv' => ?_
    subst hv hv'
    refine Ret.bind (P := (· = false)) (.bif (fun h => by simp at h) fun _ => (wmInts_ret a (by omega)).bind fun s hs => .pure (by rw [hs]; rfl)) fun s hs => ?_
    subst hs
    refine Ret.bind (P := (· = false)) (.bif (fun h => by simp at h) fun _ => .pure rfl) fun s hs => ?_
    subst hs
    refine .bif (fun h => by simp at h) fun _ => ?_
    simp only
    rw [e3]
    refine Ret.bind (Ret.pure (P := (· = (o, true))) rfl) fun v hv => ?_
    subst hv
    have hv : validB (toP p) = true := by
      unfold ovB at hov
      simp only [Bool.and_eq_true] at hov
      exact hov.1
    have htl : (toP p).length = p.length := by simp [toP]
    obtain ⟨q, t1, t2, tp⟩ := turnR_twice (p := toP p) (i := i) (k := k) hv (by rw [htl]; exact hi) (by rw [htl]; exact hk)
    have f1 : F_impl_TurnThreads p i k = some (ofP q, true) := by
      unfold F_impl_TurnThreads
      rw [t1]
      exact gdD_eq hsz rfl
    have hq : (ofP q).length ≤ 1048576 ∧ total (ofP q) ≤ 1048576 := by
      have h1 : (ofP q).length = p.length := by
        have := tp.length_eq
        simpa [ofP, toP] using this
      have h2 : total (ofP q) = total p := by
        unfold total
        rw [ofP_lens, (tp.map List.length).sum_nat, toP_lens]
      rw [h1, h2]
      exact hsz
    have f2 : F_impl_TurnThreads (ofP q) i k = some (p, true) := by
      unfold F_impl_TurnThreads
      rw [toP_ofP, t2]
      simp only [ofP_toP]
      exact gdD_eq hq rfl
    refine (Ret.of (P := (· = (ofP q, true))) f1 rfl).bind fun v hv => ?_
    subst hv
    refine (Ret.of (P := (· = (p, true))) f2 rfl).bind fun v hv => ?_
    subst hv
    refine Ret.bind (P := (· = true)) (.bif (fun _ => (wmInts_ret o (by omega)).bind fun s hs => .pure hs) fun h => by simp at h) fun s hs => ?_
    subst hs
    refine Ret.bind (P := (· = true)) (.bif (fun _ => .pure rfl) fun h => by simp at h) fun s hs => ?_
    subst hs
    refine Ret.bind (P := (· = true)) (.bif (fun _ => .pure rfl) fun h => by simp at h) fun s hs => ?_
    subst hs
    refine Ret.bind (P := (· = true)) (.bif (fun _ => (same_ret p hsz.1 fun r hr => ?_).bind fun s hs => .pure hs) fun h => by simp at h) fun s hs => .pure hs
    have := (hpl.2 r hr).1
    omega
end Go.Proofs.Ytjogdblionfmiaa
