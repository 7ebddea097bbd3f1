/-
  PROVED: spec.NumberOfTest computes the function over plain values. No conditions.
-/
import Derived.Test.YtjogdblionfmiaaBrMd
import Derived.Test.YtjogdblionfmiaaBrN
import Derived.Test.YtjogdblionfmiaaNumberS
namespace Go.Proofs.Ytjogdblionfmiaa
open Go.RowKit
set_option maxRecDepth 100000
theorem F_spec_NumberOfTest_P (p : List (List Ximpl_Instr)) {q : Int × Bool} (h : F_spec_NumberOfTest p = some q) : PCall Try.prog 13 [eL (cL Ximpl_Instr.c) p] (.tup [I q.1, Bo q.2]) := by
  unfold F_spec_NumberOfTest at h
  obtain ⟨⟨h1, h2⟩, h⟩ := gdD h
  obtain rfl := Option.some.inj h
  refine ⟨by kernel_rfl, fun w fz vs hlt hl hrel => ?_⟩
  obtain ⟨v, rfl⟩ : ∃ v, vs = #[v] := by
    obtain ⟨l⟩ := vs
    match l, hl with
    | [v], _ => exact ⟨v, rfl⟩
  have hv : FRel w fz (eL (cL Ximpl_Instr.c) p) v := hrel 0 _ v rfl rfl
  have hs := slsl_of_frel (f := Ins.cells) (s := 4) (e := toIns) (fun _ => rfl) (fun _ => rfl) hv
  refine (spec_NumberOfTest_any hs).mono fun e w' ⟨he, hb⟩ => ?_
  exact ⟨_, fz, he, hb, .tup rfl fun i c u hc hu => by
    match i with
    | 0 =>
      obtain rfl := Option.some.inj hc
      obtain rfl : Value.int .i64 _ = u := by simpa using hu
      exact .v rfl
    | 1 =>
      obtain rfl := Option.some.inj hc
      obtain rfl : Value.bool _ = u := by simpa using hu
      exact .v rfl
    | i + 2 => simp at hc, fun g hg => hg, fun g hg => .inl hg, fun g hg => Nat.lt_of_lt_of_le (hlt g hg) hb.size⟩
end Go.Proofs.Ytjogdblionfmiaa
