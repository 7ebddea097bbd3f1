/-
 A candidate that a call hands back to be written, in memory. Plain theorems. No conditions.
-/
import Derived.Test.YtlmjnhnpahicmaaXOwn
import Derived.Test.YtlmjnhnpahicmaaL15
namespace Go.Proofs.Ytlmjnhnpahicmaa
open Go.ChangeShapes Go.WideShapes Go.ChangeAt Go.RowKit
set_option maxRecDepth 100000
def OwnX (tyI tyS : TypeId) (e : Ximpl_Exec) : AV → AH → Prop := fun r G =>
 ∃ bF gF vF bO vO gh K, ∃ S : AH, G = S ++ K ∧ r = .agg [hS gF bF vF 1 e.From.length, hS false bO vO 1 e.Order.length] ∧ (gF = true → e.From = []) ∧ S[bF]? = some (bE gF vF 1 tyI (e.From.map cI)) ∧ S[bO]? = some (bE false vO 1 tyS (nrs S.length gh 1 e.Order)) ∧ NN K gh 1 tyI cI e.Order ∧ bF ≠ bO
theorem calls_of_ownX {P : Program} {f : FuncId} {ars : List AV} {tyI tyS : TypeId} {e : Ximpl_Exec} {w : World} {vs : Array Value} (h : BCall P f ars [] (OwnX tyI tyS e)) (hl : vs.size = ars.length)
  (hrel : ∀ (i : Nat) (a : AV) (v : Value), ars[i]? = some a → vs[i]? = some v → FRel w (fun g => g < w.heap.size) a v) (hF : 0 < e.From.length) (hO0 : 0 < e.Order.length) (hO : ∀ i, i < e.Order.length → 0 < (e.Order.getD i []).length) :
  Calls P f vs w fun x w' => (∃ v0, x = .returned v0 ∧ OwX w' w.heap.size w'.heap.size v0 e) ∧ Below w.heap.size w w' := by
 let c : Cx := { w := w, fz := fun g => g < w.heap.size, H := [], φ := fun _ => (0, 0) }
 have hni : ∀ b k, ¬ c.live b k := fun b k hl => by
  have hl' : ([] : AH)[b]? = some (some k) := hl
  simp at hl'
 have hr : HRel c := ⟨fun g hg => hg, fun b k hl => absurd hl (hni b k), fun b b' k k' hl => absurd hl (hni b k)⟩
 refine (h.2 c vs rfl hr ⟨hl, fun i a v ha hv => .fr (hrel i a v ha hv)⟩).mono fun x w' ⟨v, c', r, he, hw, ⟨bF, gF, vF, bO, vO, gh, K, S, hG, hr0, hgF, hSF, hSO, hN, hne⟩, hr', hx, hv⟩ => ?_
 subst hw hr0
 have hbel : Below w.heap.size w c'.w := ⟨hx.os, hx.tape, hx.output, hx.size, fun g hg => hx.keep g hg fun b k hl => absurd hl (hni b k)⟩
 refine ⟨⟨v, he, ?_⟩, hbel⟩
 obtain ⟨us, rfl, hus, _, hu⟩ := rel_agg hv
 obtain ⟨us⟩ := us
 have hgf : gF = false := by
  cases gF with
  | false => rfl
  | true => rw [hgF rfl] at hF; simp at hF
 subst hgf
 match us, hus with
 | [v1, v2], _ =>
  have h1 := hu 0 _ v1 rfl rfl
  have h2 := hu 1 _ v2 rfl rfl
  have liveS : ∀ {b : Nat} {k : ABlk}, S[b]? = some (some k) → c'.live b k := fun {b k} hb => by
   show c'.H[b]? = _
   rw [hG, List.getElem?_append_left (List.getElem?_eq_some_iff.1 hb).1]
   exact hb
  have new : ∀ {b : Nat} {k : ABlk}, c'.live b k → w.heap.size ≤ (c'.φ b).1 ∧ (c'.φ b).1 < c'.w.heap.size := fun {b k} hb => by
   refine ⟨?_, hr'.live_lt hb⟩
   rcases hx.liveNew b _ hb with h1 | ⟨b0, k0, h1, _⟩
   ·exact h1
   ·exact absurd h1 (hni b0 k0)
  have lF := liveS hSF
  have lO := liveS hSO
  have gR : ∀ i, i < e.Order.length → (gh i).1 = false := fun i hi => by
   cases hg : (gh i).1 with
   | false => rfl
   | true =>
    have := hN.nil_ hi hg
    have := hO i hi
    simp_all
  have lR : ∀ i, i < e.Order.length → c'.live ((gh i).2.1 + S.length) ⟨(gh i).2.2, 1, tyI, (e.Order.getD i []).map cI⟩ := fun i hi => by
   show c'.H[_]? = _
   rw [hG, List.getElem?_append_right (by omega), Nat.add_sub_cancel]
   have := hN.at_ hi
   rw [gR i hi] at this
   exact this
  have nF := new lF
  have nO := new lO
  change VRel c'.w c'.fz c'.born c'.hd (.hs bO vO 1 0 e.Order.length) v2 at h2
  cases h2 with
  | fr h => cases h
  | @hs _ _ _ _ _ cap A hb hc hm ha h =>
   obtain ⟨cs, fr, hB⟩ := hr'.blk bO _ lO
   obtain ⟨f, rfl, hat, hd⟩ := hB.cells lO fun x hx => (h x hx).1
   obtain ⟨g1, g2, g3, g4⟩ := h _ hd
   have hA := g3 (by omega)
   simp only [Nat.zero_mul, Nat.add_zero, Nat.mul_one] at hA g4
   have row : ∀ i, i < e.Order.length → ∃ u, cs[(c'.φ bO).2 + i]? = some u ∧ c'.rel (hS false ((gh i).2.1 + S.length) (gh i).2.2 1 (e.Order.getD i []).length) u := fun i hi => by
    obtain ⟨u, q1, _, q2⟩ := hB.rel i _ 0 _ (nrs_get hi) rfl
    rw [gR i hi] at q2
    exact ⟨u, by simpa using q1, q2⟩
   refine ⟨v1, _, (c'.φ bF).1, (c'.φ bF).1 + 1, (c'.φ bO).1, fun i => (c'.φ ((gh i).2.1 + S.length)).1, fun i => if hi : i < e.Order.length then (row i hi).choose else v1, rfl, ownF hr' lF h1, ⟨A, cap, (c'.φ bO).2, rfl, hc, hm, fun _ => ⟨hA, nO.2⟩, fun i hi => ?_, fun i j hi hj hij => ?_⟩, ⟨nF.1, nF.2, nF.2⟩, fun _ => ⟨nO.1, nO.2, ?_⟩, fun i hi => ⟨new (lR i hi), ?_⟩⟩
   ·simp only [dif_pos hi]
    obtain ⟨q1, q2⟩ := (row i hi).choose_spec
    refine ⟨?_, ownF hr' (lR i hi) q2, hr'.inj _ _ _ _ (lR i hi) lO ?_, (new (lR i hi)).2⟩
    ·rw [cell_of_row c'.w _ _ cs _ f hat]
     exact q1
    ·have := (List.getElem?_eq_some_iff.1 hSO).1
     omega
   ·exact hr'.inj _ _ _ _ (lR i hi) (lR j hj) (by have := hN.nk.sep i j hi hj hij; omega)
   ·have := hr'.inj _ _ _ _ lF lO hne
    omega
   ·have hne2 : (gh i).2.1 + S.length ≠ bF := by
     have := (List.getElem?_eq_some_iff.1 hSF).1
     omega
    have := hr'.inj _ _ _ _ (lR i hi) lF hne2
    simp only []
    omega
end Go.Proofs.Ytlmjnhnpahicmaa
