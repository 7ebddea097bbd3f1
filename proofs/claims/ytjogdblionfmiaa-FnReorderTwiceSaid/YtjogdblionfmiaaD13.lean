/-
  FnReorderTwice's plain function is true at every code. Plain theorems. No conditions.
-/
import Derived.Test.YtjogdblionfmiaaDq
import Derived.Test.YtjogdblionfmiaaPs
import Derived.Test.YtjogdblionfmiaaS13d
import Derived.Test.YtjogdblionfmiaaS13c
import Derived.Test.YtjogdblionfmiaaDv
namespace Go.Proofs.Ytjogdblionfmiaa
open Go.RowKit
set_option maxRecDepth 100000
theorem getD_len {p q : List (List Ximpl_Instr)} (h : q.map List.length = p.map List.length) (i : Nat) : (q.getD i default).length = (p.getD i default).length := by
  have h1 : ∀ l : List (List Ximpl_Instr), (l.getD i default).length = (l.map List.length).getD i 0 := fun l => by
    by_cases hi : i < l.length
    · simp [hi]
    · rw [List.getD_eq_getElem?_getD, List.getD_eq_getElem?_getD, List.getElem?_eq_none (by omega), List.getElem?_eq_none (by simpa using hi)]
      rfl
  rw [h1, h1, h]
theorem cs_congr {p q : List (List Ximpl_Instr)} (h : q.map List.length = p.map List.length) : F_impl_CountSchedules_T q = F_impl_CountSchedules_T p := by
  have hl : q.length = p.length := by have := congrArg List.length h; simpa using this
  have e : F_impl_CountSchedules_L10 q = F_impl_CountSchedules_L10 p := by
    funext s4 s9
    unfold F_impl_CountSchedules_L10
    rw [getD_len h]
  have e2 : F_impl_CountSchedules_L5 q = F_impl_CountSchedules_L5 p := by
    funext s
    unfold F_impl_CountSchedules_L5
    rw [hl, e]
  unfold F_impl_CountSchedules_T
  rw [e2]
def mkP (l : List Nat) : List (List Ximpl_Instr) := l.map fun n => List.replicate n default
theorem mkP_lens (l : List Nat) : (mkP l).map List.length = l := by
  simp only [mkP, List.map_map]
  have : (List.length ∘ fun n => List.replicate n (default : Ximpl_Instr)) = (id : Nat → Nat) := by
    funext n
    simp
  rw [this, List.map_id]
theorem cs_all : ((List.range 8).all fun a => ((C_impl_CountSchedules_T (mkP [a])).isSome && (List.range 8).all fun b => ((C_impl_CountSchedules_T (mkP [a, b])).isSome && (List.range 8).all fun c => (C_impl_CountSchedules_T (mkP [a, b, c])).isSome))) = true := by decide +kernel
theorem cs_some {x : Option Int} {y : Option Int} (h : x.isSome = true) (hl : Le x y) : Ret y fun _ => True := by
  cases hx : x with
  | none => rw [hx] at h; cases h
  | some v => exact ⟨v, hl v hx, trivial⟩
theorem cs_ret {p : List (List Ximpl_Instr)} (h : validB (toP p) = true) : Ret (F_impl_CountSchedules_T p) fun _ => True := by
  have hb : p.length ≤ 3 ∧ 0 < p.length ∧ ∀ r ∈ p, r.length ≤ 7 := by
    simp only [validB, shapeB, Bool.and_eq_true, decide_eq_true_eq, List.all_eq_true, rowOk] at h
    refine ⟨by simpa using h.1.1.1.1, by simpa using h.1.2, fun r hr => ?_⟩
    have := (h.1.1.1.2 (r.map toIns) (List.mem_map.2 ⟨r, hr, rfl⟩)).1
    simpa using this
  obtain ⟨h1, h2, h3⟩ := hb
  rw [← cs_congr (p := p) (mkP_lens (p.map List.length))]
  have hall := cs_all
  simp only [List.all_eq_true, Bool.and_eq_true, List.mem_range] at hall
  refine cs_some ?_ (C_impl_CountSchedules_T_le _)
  match p, h1, h2 with
  | [a], _, _ => exact (hall a.length (by have := h3 a (by simp); omega)).1
  | [a, b], _, _ => exact ((hall a.length (by have := h3 a (by simp); omega)).2 b.length (by have := h3 b (by simp); omega)).1
  | [a, b, c], _, _ => exact ((hall a.length (by have := h3 a (by simp); omega)).2 b.length (by have := h3 b (by simp); omega)).2 c.length (by have := h3 c (by simp); omega)
theorem cs_eq {p : List (List Ximpl_Instr)} (hs : p.length ≤ 1048576 ∧ total p ≤ 1048576) : F_impl_CountSchedules p = bif !validB (toP p) then some 0 else F_impl_CountSchedules_T p := by
  unfold F_impl_CountSchedules
  rw [show F_impl_ProgramValid p = some (validB (toP p)) from gdD_eq hs rfl]
  rfl
theorem draw13 {b : List Int} (hb : Bts b) : Ret (F_spec_DrawReorderInstr b) fun v => Sm v.1 := by
  unfold F_spec_DrawReorderInstr
  refine Ret.bind (P := fun v : List (List Ximpl_Instr) × Int × Int => Sm v.1) ?_ fun v hv => .pure hv
  unfold F_spec_l12Two
  exact (open_ret hb).bind fun r h => (l8Small_ret h.mk' (by omega)).bind fun v ⟨a1, a2⟩ => (l1Mutate_ret a1.mk' (by omega) a2).bind fun u ⟨b1, b2⟩ => (num_ret b1.mk' (by omega) _ (by simp)).bind fun x ⟨c1, _⟩ => (num_ret c1.mk' (by omega) _ (by simp)).bind fun y _ => .pure b2
theorem lens_sz {p q : List (List Ximpl_Instr)} (h : q.map List.length = p.map List.length) (hp : Sm p) : (q.length ≤ 1048576 ∧ total q ≤ 1048576) ∧ ∀ r ∈ q, r.length ≤ 1048576 := by
  have hl : q.length = p.length := by have := congrArg List.length h; simpa using this
  have ht : total q = total p := by unfold total; rw [h]
  obtain ⟨h1, h2⟩ := hp.sz
  refine ⟨⟨by omega, by omega⟩, fun r hr => ?_⟩
  have h3 : r.length ∈ p.map List.length := by rw [← h]; exact List.mem_map.2 ⟨r, hr, rfl⟩
  obtain ⟨r', hr', e⟩ := List.mem_map.1 h3
  have := (hp.2 r' hr').1
  omega
theorem law13 {b : List Int} (hb : Bts b) : F_laws_FnReorderTwice b = some true := by
  refine Ret.eq ?_
  unfold F_laws_FnReorderTwice
  refine .bifD (fun _ => .pure rfl) fun _ => (draw13 hb).bind fun v hp => ?_
  obtain ⟨p, t, i⟩ := v
  simp only at hp ⊢
  have hsz := hp.sz
  have hi : ∀ q : List (List Ximpl_Instr), q.length ≤ 1048576 ∧ total q ≤ 1048576 → F_impl_ReorderInstr q t i = some (ofP (reordR (toP q) t i).1, (reordR (toP q) t i).2) := fun q hq => gdD_eq hq rfl
  have hsp : F_spec_ReorderInstr p t i = some (ofP (reordR (toP p) t i).1, (reordR (toP p) t i).2) := gdD_eq hsz rfl
  refine (Ret.of (P := (· = (ofP (reordR (toP p) t i).1, (reordR (toP p) t i).2))) (hi p hsz) rfl).bind fun v hv => (Ret.of (P := (· = v)) (hsp.trans (by rw [hv])) rfl).bind fun v' hv' => ?_
  subst hv'
  subst hv
  by_cases hn : nbB (toP p) t i = true
  · have h2 : (reordR (toP p) t i).2 = true := by unfold reordR; rw [if_pos hn]
    have hq : (ofP (reordR (toP p) t i).1).map List.length = p.map List.length := by
      obtain ⟨a, b', ha, rfl, rfl, hab⟩ := nbB_open hn
      have e : reordR (toP p) a b' = (swapP (toP p) a b', true) := by
        unfold reordR
        rw [if_pos hn]
        rfl
      rw [e, ofP_lens, swapP_lens ha, toP_lens]
    have hval : validB (reordR (toP p) t i).1 = validB (toP p) := by
      obtain ⟨a, b', ha, rfl, rfl, hab⟩ := nbB_open hn
      have e : reordR (toP p) a b' = (swapP (toP p) a b', true) := by
        unfold reordR
        rw [if_pos hn]
        rfl
      rw [e]
      exact swapP_valid ha hab
    have hv1 : validB (toP p) = true := by
      simp only [nbB, thrB, Bool.and_eq_true] at hn
      exact hn.1.1
    have htw := reordR_twice hn
    rw [h2]
    generalize hR : (reordR (toP p) t i).1 = Q at hq hval htw
    obtain ⟨z1, z2⟩ := lens_sz hq hp
    obtain ⟨z3, z4⟩ := lens_sz (p := p) rfl hp
    refine Ret.bind (P := (· = false)) (.bif (fun h => by simp at h) fun _ => (same_ret _ z1.1 z2).bind fun s hs => .pure (by rw [hs]; rfl)) fun s hs => ?_
    subst hs
    refine Ret.bind (P := (· = false)) (.bif (fun h => by simp at h) fun _ => .pure rfl) fun s hs => ?_
    subst hs
    refine .bif (fun h => by simp at h) fun _ => ?_
    have hi2 := hi (ofP Q) z1
    rw [toP_ofP, htw] at hi2
    refine (Ret.of (P := (· = (ofP (toP p), true))) hi2 rfl).bind fun w hw => ?_
    subst hw
    refine Ret.bind (P := (· = true)) (.bif (fun _ => ?_) fun h => by simp at h) fun s hs => ?_
    · simp only [ofP_toP]
      exact (same_ret _ z3.1 z4).bind fun s hs => .pure hs
    subst hs
    refine Ret.bind (P := (· = true)) (.bif (fun _ => ?_) fun h => by simp at h) fun s hs => .pure hs
    rw [cs_eq z1, cs_eq z3, toP_ofP, hval, hv1, cs_congr hq]
    obtain ⟨n, e, _⟩ := cs_ret hv1
    simp only [Bool.not_true, cond_false, e]
    exact .pure (by simp)
  · have h2 : reordR (toP p) t i = ([], false) := by unfold reordR; rw [if_neg hn]
    rw [h2]
    refine Ret.bind (P := (· = false)) (.bif (fun h => by simp at h) fun _ => (same_ret _ (by simp [ofP]) (by simp [ofP])).bind fun s hs => .pure (by rw [hs]; rfl)) fun s hs => ?_
    subst hs
    refine Ret.bind (P := (· = true)) (.bif (fun h => by simp at h) fun _ => .pure rfl) fun s hs => ?_
    subst hs
    refine .bif (fun _ => ?_) fun h => by simp at h
    exact Ret.bind (P := (· = true)) (.bif (fun _ => (same_ret _ (by simp [ofP]) (by simp [ofP])).bind fun s hs => .pure hs) fun h => by simp at h) fun s hs => .pure hs
end Go.Proofs.Ytjogdblionfmiaa
