/-
  PROVED: FnExactNumberOfTest: for every program the law returns true, and memory that was there is as it was. No conditions.
-/
import Derived.Test.YtjjkgemgomfmdaaNumberS
import Derived.Test.YtjjkgemgomfmdaaLawBase
namespace Go.Proofs.Ytjjkgemgomfmdaa
open Go.ChangeShapes Go.WideShapes Go.ChangeAt Go.RowKit
set_option maxRecDepth 100000

theorem implN {lo hi : Nat} {u : Value} {p : List (List Ins)} {w : World} (hu : SlSl Ins.cells 4 w lo hi u p) (hhi : hi ≤ w.heap.size) (ht : total p ≤ 1048576) (hpl : p.length ≤ 1048576) :
    Calls Try.prog 25 #[u] w fun e w' => e = .returned (.tuple #[.int .i64 (numR p).1, .bool (numR p).2]) ∧ Below w.heap.size w w' := impl_NumberOfTest_any hu hhi hpl ht
theorem specN {lo hi : Nat} {u : Value} {p : List (List Ins)} {w : World} (hu : SlSl Ins.cells 4 w lo hi u p) (_ : hi ≤ w.heap.size) (_ : total p ≤ 1048576) (_ : p.length ≤ 1048576) :
    Calls Try.prog 23 #[u] w fun e w' => e = .returned (.tuple #[.int .i64 (numR p).1, .bool (numR p).2]) ∧ Below w.heap.size w w' := spec_NumberOfTest_any hu
set_option maxHeartbeats 1000000 in
theorem law_FnExactNumberOfTest {u : Value} {p : List (List Ins)}  {w : World} (hu : SlSl Ins.cells 4 w 0 w.heap.size u p) :
    Calls Try.prog 5 #[u] w fun e w' => e = .returned (.bool true) ∧ Below w.heap.size w w' := by
  have RP := Lib.hid hu; clear hu
  have G := Lib.hid (Below.refl w.heap.size w)
  go_enter Try.func5, Try.ntmps5
  go_wp2_with fail
  refine (szInstrSS_any RP.out).mono ?_
  rintro e w1 ⟨⟨r, rfl, hr⟩, hb1⟩
  have s1 := hb1.size
  replace RP := Lib.hid (RP.out.below hb1 (by omega))
  replace G := Lib.hid (G.out.trans (hb1.mono G.out.size))
  rcases hr with hr | ⟨hr0, hsz⟩
  · go_wp2_with fail
    go_ret
    exact ⟨rfl, G.out⟩
  have hr1 : ¬ r < 0 := by omega
  have ht : total p ≤ 1048576 := by omega
  have hpl : p.length ≤ 1048576 := by omega
  clear hr0 hsz
  have IM := fun (W : World) lo hi v (h : SlSl Ins.cells 4 W lo hi v p) hh => implN (w := W)  h hh ht hpl
  have SP := fun (W : World) lo hi v (h : SlSl Ins.cells 4 W lo hi v p) hh => specN (w := W)  h hh ht hpl
  generalize numR p  = RR at *
  obtain ⟨nn, bb⟩ := RR
  simp only at IM SP
  have HIM := Lib.hid IM; clear IM
  have HSP := Lib.hid SP; clear SP
  have d2 : decide (p = p) = true := by simp
  go_wp2_with fail
  refine (toInstrSS_any RP.out (by omega) hpl ht).mono ?_
  rintro e w2 ⟨⟨t2, rfl, hT2⟩, hb2⟩
  have T2 := Lib.hid hT2; clear hT2
  have s2 := hb2.size
  replace RP := Lib.hid (RP.out.below hb2 (by omega))
  replace G := Lib.hid (G.out.trans (hb2.mono G.out.size))
  go_wp2_with fail
  refine (HSP.out _ _ _ _ T2.out.sl (by omega)).mono ?_
  rintro e w3 ⟨rfl, hb3⟩
  have s3 := hb3.size
  replace RP := Lib.hid (RP.out.below hb3 (by omega))
  replace T2 := Lib.hid (T2.out.below hb3 (by omega))
  replace G := Lib.hid (G.out.trans (hb3.mono G.out.size))
  clear T2
  go_wp2_with fail
  refine (toInstrSS_any RP.out (by omega) hpl ht).mono ?_
  rintro e w4 ⟨⟨x0, rfl, hX0⟩, hb4⟩
  have X0 := Lib.hid hX0; clear hX0
  have s4 := hb4.size
  replace RP := Lib.hid (RP.out.below hb4 (by omega))
  replace G := Lib.hid (G.out.trans (hb4.mono G.out.size))
  go_wp2_with fail
  refine (HIM.out _ _ _ _ X0.out.sl (by omega)).mono ?_
  rintro e w5 ⟨rfl, hb5⟩
  have s5 := hb5.size
  replace RP := Lib.hid (RP.out.below hb5 (by omega))
  replace X0 := Lib.hid (X0.out.below hb5 (by omega))
  replace G := Lib.hid (G.out.trans (hb5.mono G.out.size))
  go_wp2_with fail
  refine (toInstrSS_any RP.out (by omega) hpl ht).mono ?_
  rintro e w6 ⟨⟨y0, rfl, hY0⟩, hb6⟩
  have Y0 := Lib.hid hY0; clear hY0
  have s6 := hb6.size
  replace RP := Lib.hid (RP.out.below hb6 (by omega))
  replace X0 := Lib.hid (X0.out.below hb6 (by omega))
  replace G := Lib.hid (G.out.trans (hb6.mono G.out.size))
  go_wp2_with fail
  refine (eqInstrSS_any X0.out.sl Y0.out.sl (by omega) (by omega)).mono ?_
  rintro e w7 ⟨rfl, hb7⟩
  have s7 := hb7.size
  replace RP := Lib.hid (RP.out.below hb7 (by omega))
  replace X0 := Lib.hid (X0.out.below hb7 (by omega))
  replace Y0 := Lib.hid (Y0.out.below hb7 (by omega))
  replace G := Lib.hid (G.out.trans (hb7.mono G.out.size))
  clear Y0
  go_wp2_with fail
  go_ret
  exact ⟨rfl, G.out⟩
theorem lawr_NumberOfTest {w : World} (v : Value) (p : List (List Ins)) (h : SlSl Ins.cells 4 w 0 w.heap.size v p) :
    Calls Try.prog 5 #[v] w fun e w' => e = .returned (.bool true) ∧ Below w.heap.size w w' :=
  law_FnExactNumberOfTest h

namespace fnExactNumberOfTest
theorem own : ownKnob Try.prog.godebug = none := by kernel_rfl
theorem laidOut : laidOutB Try.prog = true := by kernel_rfl
theorem readableB : ([30].all fun t => Try.prog.readableRec t && decide (t < Try.prog.types.size)) = true := by kernel_rfl
theorem readable : ∀ t ∈ ([30] : List TypeId), Try.prog.readableRec t = true ∧ t < Try.prog.types.size := fun t ht => by
  have := List.all_eq_true.1 readableB t ht
  simpa using this
theorem lifted (os : Os) (started : os.Started) (H : Type) (enc : TypeId × Value → H) :
    ReturnsInHanded {} Try.checked os 5 .any (Rows.fnExactNumberOfTestSpec.pre6 enc Try.prog Try.f5 Rows.fnExactNumberOfTestRow.domain false) (Rows.fnExactNumberOfTestSpec.post enc Try.prog Try.f5 false true false false) := by
  refine returnsInHanded_of_change (C := Try.checked) own started (by kernel_rfl) Try.func5
    (ChangeSpec.witness6 (enc := enc) (C := Try.checked) false ⟨#[], #[.slice none 0 0], []⟩ 8 (by kernel_rfl) (by kernel_rfl) (by kernel_rfl) (by kernel_rfl)) ?_
  intro W base args ds gs before hval0 hW hcnd _
  have hval : ∀ (j : Nat) t v, Try.f5.params[j]? = some t → args[j]? = some v → Value.okWide Try.prog W .any base t v := hval0
  have hW' := hW
  obtain ⟨p, q, hA0, hV, rfl, hfz, hnd⟩ := hW
  have hA : DataW.TrodAll enc Try.prog W 0 (fun _ => true) true Try.f5.params.toList args.toList ds p := hA0
  rw [Try.params5] at hA hval
  have hA1 := hA
  obtain ⟨v0, vs0, d0, ds0, p0, q0, hargs0, rfl, rfl, h0, r0⟩ := trodAll_cons hA
  obtain ⟨rfl, rfl, rfl⟩ := trodAll_nil r0
  obtain rfl : args = #[v0] := by cases args; simp_all
  obtain ⟨rfl, rfl⟩ := trodVars_none hV
  obtain ⟨a0, w0⟩ : ∃ p : List (List Ins), SlSl Ins.cells 4 W 0 W.heap.size v0 p := by
    obtain ⟨fuel, hf⟩ := h0
    obtain ⟨v, hv, p, hp, _⟩ := rd_sliceS (f := Ins.cells) (s := 4) (Good := fun _ => True) (by kernel_rfl) (by omega) (by kernel_rfl) Try.underlying30 Try.underlying64 (fun fuel cs x h => rd_ins Try.underlying89 Try.underlying3 ⟨rfl, rfl⟩ ⟨rfl, rfl⟩ ⟨rfl, rfl⟩ ⟨rfl, rfl⟩ (by kernel_rfl) (by kernel_rfl) fuel cs x h) hf
    rw [one_cell hv (okWide_slice Try.underlying30 (hval 0 30 v0 rfl rfl))]
    exact ⟨p, hp⟩
  clear hA0 hval0
  simp only [List.append_nil] at hW'
  have hlt := fun x hx => hW'.lt x hx
  refine (lawr_NumberOfTest v0 a0 w0).mono fun e W' ⟨he, hg⟩ => ?_
  subst he
  exact ⟨_, rfl, post_of_below (pv := []) hW' (fun _ _ _ => trodAll_cons_mk (shut_bool Try.underlying4 _) trodAll_mk0) (fun sp hsp => trodAll_below laidOut hg _ _ _ _ readable hA1 (by simpa using hlt) (by simpa using hsp)) (fun _ _ => rfl) (by simp)
    hg (ok_one (by kernel_rfl) rfl (okWide_bool_mk Try.underlying4 _))⟩

theorem over : Rows.fnExactNumberOfTestRow.holds Try.pinned (OpenSpec.ofChange Rows.fnExactNumberOfTestSpec) :=
  OpenClaim.holds_of_wide 5 Try.f5 rfl rfl rfl rfl rfl rfl rfl ⟨rfl, rfl, rfl, rfl, rfl⟩ rfl rfl rfl rfl rfl (by kernel_rfl) Try.func5 (by kernel_rfl)
    (of_decide_eq_true (by kernel_rfl)) (by unfold Func.isWrapper; first | (rw [if_pos (by decide +kernel)]; kernel_rfl) | (rw [if_neg (by decide +kernel)]; exact ⟨rfl, rfl⟩))
    (fun os started H enc _ => lifted os started H enc)
theorem proved : Rows.FnExactNumberOfTestSaid := over
end fnExactNumberOfTest
end Go.Proofs.Ytjjkgemgomfmdaa
