/-
  PROVED: OutcomeValid, of impl and of spec, computes the function over plain values. No conditions.
-/
import Derived.Test.YtjjkgemgomfmdaaBrOd
import Derived.Test.YtjjkgemgomfmdaaBrN
namespace Go.Proofs.Ytjjkgemgomfmdaa
open Go.RowKit
set_option maxRecDepth 100000
theorem args2 {vs : Array Value} {a b : AV} (hl : vs.size = [a, b].length) : ∃ u v, vs = #[u, v] := by
  obtain ⟨l⟩ := vs
  match l, hl with
  | [u, v], _ => exact ⟨u, v, rfl⟩
theorem ints_of_frel {w : World} {fz : Nat → Prop} {v : Value} {l : List Int} (h : FRel w fz (eL cI l) v) : Sl int1 1 w 0 w.heap.size v l := by
  have := sl_of_frel (f := int1) (s := 1) (c := cI) (e := id) (fun _ => rfl) (fun _ => rfl) h
  rwa [List.map_id] at this
theorem F_impl_OutcomeValid_P (p : List (List Ximpl_Instr)) (o : List Int) {q : Bool} (h : F_impl_OutcomeValid p o = some q) : PCall Try.prog 84 [eL (cL Ximpl_Instr.c) p, eL cI o] (Bo q) := by
  unfold F_impl_OutcomeValid at h
  obtain ⟨⟨h1, h2, h3⟩, h⟩ := gdD h
  obtain rfl := Option.some.inj h
  refine ⟨by kernel_rfl, fun w fz vs hlt hl hrel => ?_⟩
  obtain ⟨u, v, rfl⟩ := args2 hl
  have hs := slsl_of_frel (f := Ins.cells) (s := 4) (e := toIns) (fun _ => rfl) (fun _ => rfl) (hrel 0 _ u rfl rfl)
  refine (impl_OutcomeValid_any hs (Nat.le_refl _) (by rw [total_map]; exact h2) (by rw [List.length_map]; exact h1) (ints_of_frel (hrel 1 _ v rfl rfl)) (Nat.le_refl _) h3).mono fun e w' ⟨he, hb⟩ => ?_
  exact ⟨_, fz, he, hb, .v rfl, fun g hg => hg, fun g hg => .inl hg, fun g hg => Nat.lt_of_lt_of_le (hlt g hg) hb.size⟩
theorem F_spec_OutcomeValid_P (p : List (List Ximpl_Instr)) (o : List Int) {q : Bool} (h : F_spec_OutcomeValid p o = some q) : PCall Try.prog 82 [eL (cL Ximpl_Instr.c) p, eL cI o] (Bo q) := by
  unfold F_spec_OutcomeValid at h
  obtain ⟨⟨h1, h2, h3⟩, h⟩ := gdD h
  obtain rfl := Option.some.inj h
  refine ⟨by kernel_rfl, fun w fz vs hlt hl hrel => ?_⟩
  obtain ⟨u, v, rfl⟩ := args2 hl
  have hs := slsl_of_frel (f := Ins.cells) (s := 4) (e := toIns) (fun _ => rfl) (fun _ => rfl) (hrel 0 _ u rfl rfl)
  refine (spec_OutcomeValid_any hs (Nat.le_refl _) (by rw [total_map]; exact h2) (by rw [List.length_map]; exact h1) (ints_of_frel (hrel 1 _ v rfl rfl)) (Nat.le_refl _) h3).mono fun e w' ⟨he, hb⟩ => ?_
  exact ⟨_, fz, he, hb, .v rfl, fun g hg => hg, fun g hg => .inl hg, fun g hg => Nat.lt_of_lt_of_le (hlt g hg) hb.size⟩
end Go.Proofs.Ytjjkgemgomfmdaa
