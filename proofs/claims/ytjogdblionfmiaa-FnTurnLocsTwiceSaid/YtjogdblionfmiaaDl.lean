/-
  Validity and the number of executions do not see which location is which. Plain theorems. No conditions.
-/
import Derived.Test.YtjogdblionfmiaaBr2
import Derived.Test.YtjogdblionfmiaaLocs
namespace Go.Proofs.Ytjogdblionfmiaa
open Go.RowKit
set_option maxRecDepth 100000
theorem cntP_map (f : Ins → Bool) (g : Ins → Ins) (p : List (List Ins)) : cntP f (p.map (List.map g)) = cntP (fun x => f (g x)) p := by
  unfold cntP
  rw [List.map_map]
  congr 1
  refine List.map_congr_left fun r _ => ?_
  show List.countP f (r.map g) = _
  rw [List.countP_map]
  rfl
theorem cntP_congr {f g : Ins → Bool} (h : ∀ x, f x = g x) (p : List (List Ins)) : cntP f p = cntP g p := by
  rw [show f = g from funext h]
theorem inB_turn {a i k : Int} (hi : inB i 2 = true) (hk : inB k 2 = true) : inB (turnI a i k) 2 = inB a 2 := by
  unfold turnI
  split
  · rename_i h
    subst h
    rw [hi, hk]
  · split
    · rename_i h
      subst h
      rw [hi, hk]
    · rfl
theorem insOk_turn {i k : Int} (hi : inB i 2 = true) (hk : inB k 2 = true) (x : Ins) : insOk (tlocF i k x) = insOk x := by
  unfold tlocF
  split
  · rfl
  · rename_i h
    simp only [insOk, inB_turn hi hk, h, if_false]
theorem op_turn (i k : Int) (x : Ins) : (tlocF i k x).op = x.op := by
  unfold tlocF
  split <;> rfl
theorem rd_turn (i k : Int) (x : Ins) : rdB (tlocF i k x) = rdB x := by unfold rdB; rw [op_turn]
theorem wr_turn (i k : Int) (x : Ins) : wrB (tlocF i k x) = wrB x := by unfold wrB; rw [op_turn]
theorem turnI_eq (a l i k : Int) : (turnI a i k == l) = (a == turnI l i k) := by
  unfold turnI
  rw [Bool.eq_iff_iff, beq_iff_eq, beq_iff_eq]
  split <;> split <;> (try split) <;> (try split) <;> omega
theorem atLoc_turn (l i k : Int) (f : Ins → Bool) (hf : ∀ x, f (tlocF i k x) = f x) (h4 : ∀ x : Ins, x.op = 4 → f x = false) (x : Ins) : atLoc l f (tlocF i k x) = atLoc (turnI l i k) f x := by
  unfold atLoc
  rw [hf]
  by_cases h : x.op = 4
  · rw [h4 x h, Bool.and_false, Bool.and_false]
  · unfold tlocF
    rw [if_neg h, turnI_eq]
theorem cw_turn (i k : Int) (p : List (List Ins)) (l : Int) : cw (p.map (List.map (tlocF i k))) l = cw p (turnI l i k) := by
  unfold cw
  rw [cntP_map]
  exact cntP_congr (atLoc_turn l i k wrB (wr_turn i k) fun x h => by unfold wrB; rw [h]; rfl) p
theorem cr_turn (i k : Int) (p : List (List Ins)) (l : Int) : cr (p.map (List.map (tlocF i k))) l = cr p (turnI l i k) := by
  unfold cr
  rw [cntP_map]
  exact cntP_congr (atLoc_turn l i k rdB (rd_turn i k) fun x h => by unfold rdB; rw [h]; rfl) p
/-- as locF, at a number -/
def locI (p : List (List Ins)) (l : Int) : Nat := (cw p l + 1) ^ (cr p l) * fct (cw p l)
theorem execsT_I (p : List (List Ins)) : execsT p = 1 * locI p 0 * locI p 1 * locI p 2 := rfl
theorem execsT_turn {i k : Int} (hi : inB i 2 = true) (hk : inB k 2 = true) (p : List (List Ins)) : execsT (p.map (List.map (tlocF i k))) = execsT p := by
  have e : ∀ l, locI (p.map (List.map (tlocF i k))) l = locI p (turnI l i k) := fun l => by
    unfold locI
    rw [cw_turn, cr_turn]
  rw [execsT_I, execsT_I, e, e, e]
  simp only [inB, Bool.and_eq_true, decide_eq_true_eq] at hi hk
  have hi' : i = 0 ∨ i = 1 ∨ i = 2 := by omega
  have hk' : k = 0 ∨ k = 1 ∨ k = 2 := by omega
  have c0 : ∀ a b c d : Int, turnI a b c = d → locI p (turnI a b c) = locI p d := fun a b c d h => by rw [h]
  rcases hi' with rfl | rfl | rfl <;> rcases hk' with rfl | rfl | rfl
  · rfl
  · rw [c0 0 0 1 1 rfl, c0 1 0 1 0 rfl, c0 2 0 1 2 rfl]; ac_rfl
  · rw [c0 0 0 2 2 rfl, c0 1 0 2 1 rfl, c0 2 0 2 0 rfl]; ac_rfl
  · rw [c0 0 1 0 1 rfl, c0 1 1 0 0 rfl, c0 2 1 0 2 rfl]; ac_rfl
  · rfl
  · rw [c0 0 1 2 0 rfl, c0 1 1 2 2 rfl, c0 2 1 2 1 rfl]; ac_rfl
  · rw [c0 0 2 0 2 rfl, c0 1 2 0 1 rfl, c0 2 2 0 0 rfl]; ac_rfl
  · rw [c0 0 2 1 0 rfl, c0 1 2 1 2 rfl, c0 2 2 1 1 rfl]; ac_rfl
  · rfl
theorem valid_turn {i k : Int} (hi : inB i 2 = true) (hk : inB k 2 = true) (p : List (List Ins)) : validB (p.map (List.map (tlocF i k))) = validB p := by
  have hr : ∀ r, rowOk (r.map (tlocF i k)) = rowOk r := fun r => by
    unfold rowOk
    rw [List.length_map, List.all_map]
    congr 1
    exact congrArg (r.all ·) (funext fun x => insOk_turn hi hk x)
  have ha : (p.map (List.map (tlocF i k))).all rowOk = p.all rowOk := by
    rw [List.all_map]
    exact congrArg (p.all ·) (funext hr)
  have hn : cntP notF (p.map (List.map (tlocF i k))) = cntP notF p := by
    rw [cntP_map]
    exact cntP_congr (fun x => by unfold notF; rw [op_turn]) p
  unfold validB shapeB
  rw [ha, hn, execsT_turn hi hk, List.length_map]
theorem tloc_tloc (i k : Int) (x : Ins) : tlocF i k (tlocF i k x) = x := by
  unfold tlocF
  split
  · rfl
  · rename_i h
    simp only [h, if_false]
    have : turnI (turnI x.loc i k) i k = x.loc := by
      unfold turnI
      split <;> split <;> (try split) <;> omega
    rw [this]
theorem locR_twice {p : List (List Ins)} {i k : Int} (h : (locR p i k).2 = true) : locR (locR p i k).1 i k = (p, true) ∧ (locR p i k).1 = p.map (List.map (tlocF i k)) ∧ validB p = true ∧ inB i 2 = true ∧ inB k 2 = true := by
  unfold locR at h ⊢
  split at h
  · rename_i hc
    rw [if_pos hc]
    have hc' := hc
    simp only [Bool.and_eq_true] at hc'
    obtain ⟨h1, h2, h3⟩ := hc'
    rw [if_pos (by rw [valid_turn h2 h3]; exact hc)]
    refine ⟨?_, rfl, h1, h2, h3⟩
    rw [List.map_map]
    have : (List.map (tlocF i k) ∘ List.map (tlocF i k)) = (id : List Ins → List Ins) := by
      funext r
      simp only [Function.comp, List.map_map]
      have : (tlocF i k ∘ tlocF i k) = (id : Ins → Ins) := funext fun x => tloc_tloc i k x
      rw [this, List.map_id, id]
    rw [this, List.map_id]
  · cases h
end Go.Proofs.Ytjogdblionfmiaa
