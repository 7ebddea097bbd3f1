/-
  Validity does not see the order of a thread. Plain theorems. No conditions.
-/
import Derived.Test.YtjogdblionfmiaaBr2
import Derived.Test.YtjogdblionfmiaaReorder2
namespace Go.Proofs.Ytjogdblionfmiaa
open Go.RowKit
set_option maxRecDepth 100000
theorem set_map {α β : Type} (p : List α) (t : Nat) (x d : α) (g : α → β) (h : g x = g (p.getD t d)) : (p.set t x).map g = p.map g := by
  refine List.ext_getElem (by simp) fun k h1 h2 => ?_
  rw [List.getElem_map, List.getElem_map, List.getElem_set]
  split
  · rename_i e
    subst e
    have hk : t < p.length := by simpa using h2
    rw [h]
    simp [hk]
  · rfl
theorem valid_set {p : List (List Ins)} {t : Nat} {r : List Ins} (hr : r.Perm (p.getD t [])) : validB (p.set t r) = validB p := by
  have hc : ∀ f, cntP f (p.set t r) = cntP f p := fun f => by
    unfold cntP
    rw [set_map p t r [] (List.countP f) (hr.countP_eq f)]
  have ho : rowOk r = rowOk (p.getD t []) := by
    unfold rowOk
    rw [hr.length_eq]
    congr 1
    rw [Bool.eq_iff_iff, List.all_eq_true, List.all_eq_true]
    exact ⟨fun h x hx => h x (hr.mem_iff.2 hx), fun h x hx => h x (hr.mem_iff.1 hx)⟩
  have ha : (p.set t r).all rowOk = p.all rowOk := by
    have e : ∀ l : List (List Ins), l.all rowOk = (l.map rowOk).all id := fun l => by rw [List.all_map]; rfl
    rw [e, e, set_map p t r [] rowOk ho]
  have he : execsT (p.set t r) = execsT p := by
    unfold execsT
    simp only [pT, locF, cw, cr, hc]
  have hn := hc notF
  unfold validB shapeB
  rw [ha, hn, he, List.length_set]
theorem swapRow_perm {xs : List Ins} {b : Nat} (h : b + 1 < xs.length) : (swapRow xs b).Perm xs := by
  have e1 : xs.getD (b + 1) default = xs[b + 1] := by simp [h]
  have e2 : xs.getD b default = xs[b] := by simp [show b < xs.length by omega]
  unfold swapRow
  rw [e1, e2]
  exact List.set_set_perm (by omega) h
theorem swapRow_swap {xs : List Ins} {b : Nat} (h : b + 1 < xs.length) : swapRow (swapRow xs b) b = xs := by
  have hl := swapRow_length xs b
  have hl2 := swapRow_length (swapRow xs b) b
  refine List.ext_getElem (by omega) fun k h1 h2 => ?_
  by_cases e1 : k = b
  · subst e1
    rw [swapRow_fst _ _ (by omega)]
    exact swapRow_snd xs k h _
  · by_cases e2 : k = b + 1
    · subst e2
      rw [swapRow_snd _ _ (by omega)]
      exact swapRow_fst xs b h _
    · rw [swapRow_far _ _ _ _ (by omega) e1 e2]
      exact swapRow_far xs b k _ h2 e1 e2
theorem swapP_swap {p : List (List Ins)} {a b : Nat} (ha : a < p.length) (h : b + 1 < p[a].length) : swapP (swapP p a b) a b = p := by
  unfold swapP
  have e1 : p.getD a [] = p[a] := by simp [ha]
  have e2 : (p.set a (swapRow (p.getD a []) b)).getD a [] = swapRow p[a] b := by simp [ha]
  rw [e2, e1, List.set_set, swapRow_swap h, List.set_getElem_self]
theorem swapP_valid {p : List (List Ins)} {a b : Nat} (ha : a < p.length) (h : b + 1 < p[a].length) : validB (swapP p a b) = validB p := by
  have e1 : p.getD a [] = p[a] := by simp [ha]
  unfold swapP
  exact valid_set (by rw [e1]; exact swapRow_perm h)
theorem swapP_lens {p : List (List Ins)} {a b : Nat} (ha : a < p.length) : (swapP p a b).map List.length = p.map List.length := by
  unfold swapP
  exact set_map p a _ [] List.length (by rw [swapRow_length])
theorem reordR_twice {p : List (List Ins)} {t i : Int} (h : nbB p t i = true) : reordR (reordR p t i).1 t i = (p, true) := by
  obtain ⟨a, b, ha, rfl, rfl, hab⟩ := nbB_open h
  have e : reordR p a b = (swapP p a b, true) := by
    unfold reordR
    rw [if_pos h]
    rfl
  rw [e]
  have hl : (swapP p a b).length = p.length := by simp [swapP]
  have hr : ((swapP p a b).getD a []).length = (p.getD a []).length := by
    unfold swapP
    simp [ha, swapRow_length]
  have h2 : nbB (swapP p a b) a b = true := by
    unfold nbB thrB at h ⊢
    simp only [Int.toNat_natCast] at h ⊢
    rw [swapP_valid ha hab, hl, hr]
    exact h
  unfold reordR
  rw [if_pos h2]
  simp only [Int.toNat_natCast]
  rw [swapP_swap ha hab]
theorem toP_ofP (p : List (List Ins)) : toP (ofP p) = p := by
  simp only [toP, ofP, List.map_map]
  have : (List.map toIns ∘ List.map ofIns) = (id : List Ins → List Ins) := by
    funext l
    simp only [Function.comp, List.map_map]
    have : (toIns ∘ ofIns) = (id : Ins → Ins) := rfl
    rw [this, List.map_id, id]
  show List.map ((fun r => List.map toIns r) ∘ fun r => List.map ofIns r) p = p
  rw [show ((fun r => List.map toIns r) ∘ fun r => List.map ofIns r) = (id : List Ins → List Ins) from this, List.map_id]
theorem ofP_toP (p : List (List Ximpl_Instr)) : ofP (toP p) = p := by
  simp only [toP, ofP, List.map_map]
  have : ((fun r => List.map ofIns r) ∘ fun r => List.map toIns r) = (id : List Ximpl_Instr → List Ximpl_Instr) := by
    funext l
    simp only [Function.comp, List.map_map]
    have : (ofIns ∘ toIns) = (id : Ximpl_Instr → Ximpl_Instr) := rfl
    rw [this, List.map_id, id]
  rw [this, List.map_id]
theorem ofP_lens (p : List (List Ins)) : (ofP p).map List.length = p.map List.length := by simp [ofP, Function.comp_def]
theorem toP_lens (p : List (List Ximpl_Instr)) : (toP p).map List.length = p.map List.length := by simp [toP, Function.comp_def]
end Go.Proofs.Ytjogdblionfmiaa
