/-
  PROVED: FnExactSmallTest: for every number the law returns true, and memory that was there is as it was. No conditions.
-/
import Derived.Test.YtjjkgemgomfmdaaSmall3
import Derived.Test.YtjjkgemgomfmdaaRow
import Derived.OpenShut
namespace Go.Proofs.Ytjjkgemgomfmdaa
open Go.ChangeShapes Go.WideShapes Go.ChangeAt Go.RowKit
set_option maxRecDepth 100000

theorem total_nil {α : Type} : total ([] : List (List α)) = 0 := rfl
theorem smallR_total (n : Int) : total (smallR n).1 ≤ 1000 ∧ (smallR n).1.length ≤ 1000 := by
  unfold smallR
  split
  · rename_i h
    have hp := smallP_eq (n.toNat / 216) (n.toNat / 36 % 6) (n.toNat / 6 % 6) (n.toNat % 6) (by omega) (by omega) (by omega) (by omega)
    rw [show 216 * (n.toNat / 216) + 36 * (n.toNat / 36 % 6) + 6 * (n.toNat / 6 % 6) + n.toNat % 6 = n.toNat from by omega] at hp
    simp [hp, total]
  · simp [total]

theorem law_SmallTest (n : Int) (_ : (Lit.int .i64 n).wf = true) (w : World) :
    Calls Try.prog 4 #[.int .i64 n] w fun e w' => e = .returned (.bool true) ∧ Below w.heap.size w w' := by
  have hT := smallR_total n
  have IM := fun W => impl_SmallTest_any n W
  have SP := fun W => spec_SmallTest_any n W
  generalize smallR n = R at *
  obtain ⟨q, bb⟩ := R
  simp only at IM SP hT
  obtain ⟨ht, hl⟩ := hT
  have HIM := Lib.hid IM; clear IM
  have HSP := Lib.hid SP; clear SP
  go_enter Try.func4, Try.ntmps4
  go_wp2_with fail
  refine (HSP.out _).mono ?_
  rintro e w1 ⟨⟨v0, rfl, ho0⟩, hb1⟩
  have S0 := Lib.hid ho0.sl; clear ho0
  go_wp2_with fail
  refine (HIM.out _).mono ?_
  rintro e w2 ⟨⟨v1, rfl, ho1⟩, hb2⟩
  have O1 := Lib.hid ho1; clear ho1
  go_wp2_with fail
  refine (eqInstrSS_any O1.out.sl (S0.out.below hb2 (Nat.le_refl _)) (Nat.le_refl _) hb2.size).mono ?_
  rintro e w3 ⟨rfl, hb3⟩
  have d1 : decide (q = q) = true := by simp
  go_wp2_with fail
  refine (markInstrSS_any (O1.out.below hb3 (Nat.le_refl _)) (by decide) (by omega) (by omega) (by omega)).mono ?_
  rintro e w4 ⟨rfl, ho4, hf4⟩
  have O4 := Lib.hid ho4; clear ho4
  have F4 := Lib.hid hf4; clear hf4
  have hs4 := F4.out.size
  go_wp2_with fail
  refine (heldInstrSS_any (O4.out.sl) (Nat.le_trans hb3.size hs4) (by omega) (by omega)).mono ?_
  rintro e w5 ⟨rfl, hb5⟩
  have d2 : ¬ (1 + 4 * (total q : Int)) < 0 := by omega
  go_wp2_with fail
  refine (HIM.out _).mono ?_
  rintro e w6 ⟨⟨v2, rfl, ho2⟩, hb6⟩
  have O6 := Lib.hid ho2; clear ho2
  have hs15 : w1.heap.size ≤ w5.heap.size := Nat.le_trans hb2.size (Nat.le_trans hb3.size (Nat.le_trans hs4 hb5.size))
  have hs25 : w2.heap.size ≤ w5.heap.size := Nat.le_trans hb3.size (Nat.le_trans hs4 hb5.size)
  go_wp2_with fail
  refine (eqInstrSS_any O6.out.sl (((((S0.out.below hb2 (Nat.le_refl _)).below hb3 hb2.size).fr F4.out (.inl (Nat.le_refl _))).below hb5 (Nat.le_trans hb2.size (Nat.le_trans hb3.size hs4))).below hb6 hs15) (Nat.le_refl _) (Nat.le_trans hs15 hb6.size)).mono ?_
  rintro e w7 ⟨rfl, hb7⟩
  go_wp2_with fail
  refine (heldInstrSS_any (((O4.out.sl.below hb5 (Nat.le_trans hb3.size hs4)).below hb6 hs25).below hb7 (Nat.le_trans hs25 hb6.size)) (Nat.le_trans hs25 (Nat.le_trans hb6.size hb7.size)) (by omega) (by omega)).mono ?_
  rintro e w8 ⟨rfl, hb8⟩
  go_wp2_with fail
  go_ret
  refine ⟨rfl, ?_⟩
  have g2 := hb1.trans (hb2.mono hb1.size)
  have g3 := g2.trans (hb3.mono g2.size)
  have g4 := g3.trans (F4.out.below hb1.size g3.size)
  have g5 := g4.trans (hb5.mono g4.size)
  have g6 := g5.trans (hb6.mono g5.size)
  have g7 := g6.trans (hb7.mono g6.size)
  exact g7.trans (hb8.mono g7.size)

namespace fnExactSmallTest
theorem own : ownKnob Try.prog.godebug = none := by kernel_rfl
theorem laidOut : laidOutB Try.prog = true := by kernel_rfl
theorem readableB : ([3].all fun t => Try.prog.readableRec t && decide (t < Try.prog.types.size)) = true := by kernel_rfl
theorem readable : ∀ t ∈ ([3] : List TypeId), Try.prog.readableRec t = true ∧ t < Try.prog.types.size := fun t ht => by
  have := List.all_eq_true.1 readableB t ht
  simpa using this
theorem lifted (os : Os) (started : os.Started) (H : Type) (enc : TypeId × Value → H) :
    ReturnsInHanded {} Try.checked os 4 .any (Rows.fnExactSmallTestSpec.pre6 enc Try.prog Try.f4 Rows.fnExactSmallTestRow.domain false) (Rows.fnExactSmallTestSpec.post enc Try.prog Try.f4 false true false false) := by
  refine returnsInHanded_of_change (C := Try.checked) own started (by kernel_rfl) Try.func4
    (ChangeSpec.witness6 (enc := enc) (C := Try.checked) false ⟨#[], #[.int .i64 0], []⟩ 8 (by kernel_rfl) (by kernel_rfl) (by kernel_rfl) (by kernel_rfl)) ?_
  intro W base args ds gs before hval0 hW hcnd _
  have hval : ∀ (j : Nat) t v, Try.f4.params[j]? = some t → args[j]? = some v → Value.okWide Try.prog W .any base t v := hval0
  have hW' := hW
  obtain ⟨p, q, hA0, hV, rfl, hfz, hnd⟩ := hW
  have hA : DataW.TrodAll enc Try.prog W 0 (fun _ => true) true Try.f4.params.toList args.toList ds p := hA0
  rw [Try.params4] at hA hval
  have hA1 := hA
  obtain ⟨v0, vs0, d0, ds0, p0, q0, hargs0, rfl, rfl, h0, r0⟩ := trodAll_cons hA
  obtain ⟨rfl, rfl, rfl⟩ := trodAll_nil r0
  obtain rfl : args = #[v0] := by cases args; simp_all
  obtain ⟨rfl, rfl⟩ := trodVars_none hV
  obtain ⟨a0, rfl, _, _, w0⟩ := open_int Try.underlying3 (hval 0 3 v0 rfl rfl) h0
  clear hA0 hval0
  simp only [List.append_nil] at hW'
  have hlt := fun x hx => hW'.lt x hx
  refine (law_SmallTest a0 w0 W).mono fun e W' ⟨he, hg⟩ => ?_
  subst he
  exact ⟨_, rfl, post_of_below (pv := []) hW' (fun _ _ _ => trodAll_cons_mk (shut_bool Try.underlying4 _) trodAll_mk0) (fun sp hsp => trodAll_below laidOut hg _ _ _ _ readable hA1 (by simpa using hlt) (by simpa using hsp)) (fun _ _ => rfl) (by simp)
    hg (ok_one (by kernel_rfl) rfl (okWide_bool_mk Try.underlying4 _))⟩

theorem over : Rows.fnExactSmallTestRow.holds Try.pinned (OpenSpec.ofChange Rows.fnExactSmallTestSpec) :=
  OpenClaim.holds_of_wide 4 Try.f4 rfl rfl rfl rfl rfl rfl rfl ⟨rfl, rfl, rfl, rfl, rfl⟩ rfl rfl rfl rfl rfl (by kernel_rfl) Try.func4 (by kernel_rfl)
    (of_decide_eq_true (by kernel_rfl)) (by unfold Func.isWrapper; first | (rw [if_pos (by decide +kernel)]; kernel_rfl) | (rw [if_neg (by decide +kernel)]; exact ⟨rfl, rfl⟩))
    (fun os started H enc _ => lifted os started H enc)
theorem proved : Rows.FnExactSmallTestSaid := over
end fnExactSmallTest
end Go.Proofs.Ytjjkgemgomfmdaa
