/-
  PROVED: impl.NumberOfTest computes the function over plain values. No conditions.
-/
import Derived.Test.YtjogdblionfmiaaBrNd
import Derived.Test.YtjogdblionfmiaaSf
import Derived.Test.YtjogdblionfmiaaBr
namespace Go.Proofs.Ytjogdblionfmiaa
open Go.RowKit
set_option maxRecDepth 100000
theorem total_map {α β : Type} (e : α → β) (p : List (List α)) : total (p.map fun r => r.map e) = total p := by
  unfold total
  rw [List.map_map]
  congr 1
  exact List.map_congr_left fun r _ => List.length_map _
theorem F_impl_NumberOfTest_P (p : List (List Ximpl_Instr)) {q : Int × Bool} (h : F_impl_NumberOfTest p = some q) : PCall Try.prog 12 [eL (cL Ximpl_Instr.c) p] (.tup [I q.1, Bo q.2]) := by
  unfold F_impl_NumberOfTest at h
  obtain ⟨⟨h1, h2⟩, h⟩ := gdD h
  obtain rfl := Option.some.inj h
  refine ⟨by kernel_rfl, fun w fz vs hlt hl hrel => ?_⟩
  obtain ⟨v, rfl⟩ : ∃ v, vs = #[v] := by
    obtain ⟨l⟩ := vs
    match l, hl with
    | [v], _ => exact ⟨v, rfl⟩
  have hv : FRel w fz (eL (cL Ximpl_Instr.c) p) v := hrel 0 _ v rfl rfl
  have hs := slsl_of_frel (f := Ins.cells) (s := 4) (e := toIns) (fun _ => rfl) (fun _ => rfl) hv
  refine (impl_NumberOfTest_any hs (Nat.le_refl _) (by rw [List.length_map]; exact h1) (by rw [total_map]; exact h2)).mono fun e w' ⟨he, hb⟩ => ?_
  exact ⟨_, fz, he, hb, .tup rfl fun i c u hc hu => by
    match i with
    | 0 =>
      obtain rfl := Option.some.inj hc
      obtain rfl : Value.int .i64 _ = u := by simpa using hu
      exact .v rfl
    | 1 =>
      obtain rfl := Option.some.inj hc
      obtain rfl : Value.bool _ = u := by simpa using hu
      exact .v rfl
    | i + 2 => simp at hc, fun g hg => hg, fun g hg => .inl hg, fun g hg => Nat.lt_of_lt_of_le (hlt g hg) hb.size⟩
end Go.Proofs.Ytjogdblionfmiaa
