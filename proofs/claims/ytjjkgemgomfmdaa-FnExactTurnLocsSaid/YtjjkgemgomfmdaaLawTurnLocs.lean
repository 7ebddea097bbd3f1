/-
  PROVED: FnExactTurnLocs: for every program and every two numbers the law returns true, and memory that was there is as it was. No conditions.
-/
import Derived.Test.YtjjkgemgomfmdaaLocs3
import Derived.Test.YtjjkgemgomfmdaaLawBase
namespace Go.Proofs.Ytjjkgemgomfmdaa
open Go.ChangeShapes Go.WideShapes Go.ChangeAt Go.RowKit
set_option maxRecDepth 100000

theorem locR_small {p : List (List Ins)} (i k : Int) (_ : total p ≤ 1048576) : total (locR p i k).1 ≤ 1000 ∧ (locR p i k).1.length ≤ 1000 := by
  unfold locR
  split
  · rename_i h
    simp only [Bool.and_eq_true] at h
    obtain ⟨h3, h7⟩ := vB_small h.1
    refine valid_total ⟨by simpa using h3, fun j hj => ?_⟩
    simp only [List.length_map] at hj
    simpa using h7 j hj
  · simp [total]

set_option maxHeartbeats 1000000 in
theorem law_FnExactTurnLocs {u : Value} {p : List (List Ins)} (i k : Int) {w : World} (hu : SlSl Ins.cells 4 w 0 w.heap.size u p) :
    Calls Try.prog 11 #[u, .int .i64 i, .int .i64 k] w fun e w' => e = .returned (.bool true) ∧ Below w.heap.size w w' := by
  have RP := Lib.hid hu; clear hu
  have G := Lib.hid (Below.refl w.heap.size w)
  go_enter Try.func11, Try.ntmps11
  go_wp2_with fail
  refine (szInstrSS_any RP.out).mono ?_
  rintro e w1 ⟨⟨r, rfl, hr⟩, hb1⟩
  have s1 := hb1.size
  replace RP := Lib.hid (RP.out.below hb1 (by omega))
  replace G := Lib.hid (G.out.trans (hb1.mono G.out.size))
  rcases hr with hr | ⟨hr0, hsz⟩
  · go_wp2_with fail
    go_ret
    exact ⟨rfl, G.out⟩
  have hr1 : ¬ r < 0 := by omega
  have ht : total p ≤ 1048576 := by omega
  have hpl : p.length ≤ 1048576 := by omega
  clear hr0 hsz
  have hT := locR_small (p := p) i k ht
  have IM := fun (W : World) lo hi v (h : SlSl Ins.cells 4 W lo hi v p) hh => impl_TurnLocs_any (w := W) i k h hh ht hpl
  have SP := fun (W : World) lo hi v (h : SlSl Ins.cells 4 W lo hi v p) hh => spec_TurnLocs_any (w := W) i k h hh ht hpl
  generalize locR p i k = R at *
  obtain ⟨q, bb⟩ := R
  simp only at IM SP hT
  obtain ⟨hq1, hq2⟩ := hT
  have HIM := Lib.hid IM; clear IM
  have HSP := Lib.hid SP; clear SP
  have d1 : decide (q = q) = true := by simp
  have d2 : decide (p = p) = true := by simp
  go_wp2_with fail
  refine (toInstrSS_any RP.out (by omega) hpl ht).mono ?_
  rintro e w2 ⟨⟨t2, rfl, hT2⟩, hb2⟩
  have T2 := Lib.hid hT2; clear hT2
  have s2 := hb2.size
  replace RP := Lib.hid (RP.out.below hb2 (by omega))
  replace G := Lib.hid (G.out.trans (hb2.mono G.out.size))
  go_wp2_with fail
  refine (HSP.out _ _ _ _ T2.out.sl (by omega)).mono ?_
  rintro e w3 ⟨⟨v0, rfl, hV0⟩, hb3⟩
  have V0 := Lib.hid hV0; clear hV0
  have s3 := hb3.size
  replace RP := Lib.hid (RP.out.below hb3 (by omega))
  replace T2 := Lib.hid (T2.out.below hb3 (by omega))
  replace G := Lib.hid (G.out.trans (hb3.mono G.out.size))
  clear T2
  go_wp2_with fail
  refine (toInstrSS_any RP.out (by omega) hpl ht).mono ?_
  rintro e w4 ⟨⟨x0, rfl, hX0⟩, hb4⟩
  have X0 := Lib.hid hX0; clear hX0
  have s4 := hb4.size
  replace RP := Lib.hid (RP.out.below hb4 (by omega))
  replace V0 := Lib.hid (V0.out.below hb4 (by omega))
  replace G := Lib.hid (G.out.trans (hb4.mono G.out.size))
  go_wp2_with fail
  refine (HIM.out _ _ _ _ X0.out.sl (by omega)).mono ?_
  rintro e w5 ⟨⟨g0, rfl, hG0⟩, hb5⟩
  have G0 := Lib.hid hG0; clear hG0
  have s5 := hb5.size
  replace RP := Lib.hid (RP.out.below hb5 (by omega))
  replace V0 := Lib.hid (V0.out.below hb5 (by omega))
  replace X0 := Lib.hid (X0.out.below hb5 (by omega))
  replace G := Lib.hid (G.out.trans (hb5.mono G.out.size))
  go_wp2_with fail
  refine (eqInstrSS_any G0.out.sl V0.out.sl (by omega) (by omega)).mono ?_
  rintro e w6 ⟨rfl, hb6⟩
  have s6 := hb6.size
  replace RP := Lib.hid (RP.out.below hb6 (by omega))
  replace V0 := Lib.hid (V0.out.below hb6 (by omega))
  replace X0 := Lib.hid (X0.out.below hb6 (by omega))
  replace G0 := Lib.hid (G0.out.below hb6 (by omega))
  replace G := Lib.hid (G.out.trans (hb6.mono G.out.size))
  go_wp2_with fail
  refine (toInstrSS_any RP.out (by omega) hpl ht).mono ?_
  rintro e w7 ⟨⟨y0, rfl, hY0⟩, hb7⟩
  have Y0 := Lib.hid hY0; clear hY0
  have s7 := hb7.size
  replace RP := Lib.hid (RP.out.below hb7 (by omega))
  replace V0 := Lib.hid (V0.out.below hb7 (by omega))
  replace X0 := Lib.hid (X0.out.below hb7 (by omega))
  replace G0 := Lib.hid (G0.out.below hb7 (by omega))
  replace G := Lib.hid (G.out.trans (hb7.mono G.out.size))
  go_wp2_with fail
  refine (eqInstrSS_any X0.out.sl Y0.out.sl (by omega) (by omega)).mono ?_
  rintro e w8 ⟨rfl, hb8⟩
  have s8 := hb8.size
  replace RP := Lib.hid (RP.out.below hb8 (by omega))
  replace V0 := Lib.hid (V0.out.below hb8 (by omega))
  replace X0 := Lib.hid (X0.out.below hb8 (by omega))
  replace G0 := Lib.hid (G0.out.below hb8 (by omega))
  replace Y0 := Lib.hid (Y0.out.below hb8 (by omega))
  replace G := Lib.hid (G.out.trans (hb8.mono G.out.size))
  clear Y0
  go_wp2_with fail
  refine (markInstrSS_any X0.out (by decide) (by omega) (by omega) (by omega)).mono ?_
  rintro e w9 ⟨rfl, _, hb9⟩
  have s9 := hb9.size
  replace RP := Lib.hid (RP.out.fr hb9 (by omega))
  replace V0 := Lib.hid (V0.out.fr hb9 (by omega))
  replace G0 := Lib.hid (G0.out.fr hb9 (by omega))
  replace G := Lib.hid (G.out.trans (hb9.below (by omega) G.out.size))
  have d3 : ¬ (1 + 4 * (total p : Int)) < 0 := by omega
  go_wp2_with fail
  refine (eqInstrSS_any G0.out.sl V0.out.sl (by omega) (by omega)).mono ?_
  rintro e w10 ⟨rfl, hb10⟩
  have s10 := hb10.size
  replace RP := Lib.hid (RP.out.below hb10 (by omega))
  replace V0 := Lib.hid (V0.out.below hb10 (by omega))
  replace G0 := Lib.hid (G0.out.below hb10 (by omega))
  replace G := Lib.hid (G.out.trans (hb10.mono G.out.size))
  go_wp2_with fail
  refine (markInstrSS_any G0.out (by decide) (by omega) (by omega) (by omega)).mono ?_
  rintro e w11 ⟨rfl, hM0, hb11⟩
  have M0 := Lib.hid hM0; clear hM0
  have s11 := hb11.size
  replace RP := Lib.hid (RP.out.fr hb11 (by omega))
  replace V0 := Lib.hid (V0.out.fr hb11 (by omega))
  replace G := Lib.hid (G.out.trans (hb11.below (by omega) G.out.size))
  go_wp2_with fail
  refine (heldInstrSS_any M0.out.sl (by omega) (by omega) (by omega)).mono ?_
  rintro e w12 ⟨rfl, hb12⟩
  have s12 := hb12.size
  replace RP := Lib.hid (RP.out.below hb12 (by omega))
  replace V0 := Lib.hid (V0.out.below hb12 (by omega))
  replace M0 := Lib.hid (M0.out.below hb12 (by omega))
  replace G := Lib.hid (G.out.trans (hb12.mono G.out.size))
  have d4 : ¬ (1 + 4 * (total q : Int)) < 0 := by omega
  go_wp2_with fail
  refine (toInstrSS_any RP.out (by omega) hpl ht).mono ?_
  rintro e w13 ⟨⟨t3, rfl, hT3⟩, hb13⟩
  have T3 := Lib.hid hT3; clear hT3
  have s13 := hb13.size
  replace RP := Lib.hid (RP.out.below hb13 (by omega))
  replace V0 := Lib.hid (V0.out.below hb13 (by omega))
  replace M0 := Lib.hid (M0.out.below hb13 (by omega))
  replace G := Lib.hid (G.out.trans (hb13.mono G.out.size))
  go_wp2_with fail
  refine (HIM.out _ _ _ _ T3.out.sl (by omega)).mono ?_
  rintro e w14 ⟨⟨h0, rfl, hH0⟩, hb14⟩
  have H0 := Lib.hid hH0; clear hH0
  have s14 := hb14.size
  replace RP := Lib.hid (RP.out.below hb14 (by omega))
  replace V0 := Lib.hid (V0.out.below hb14 (by omega))
  replace M0 := Lib.hid (M0.out.below hb14 (by omega))
  replace T3 := Lib.hid (T3.out.below hb14 (by omega))
  replace G := Lib.hid (G.out.trans (hb14.mono G.out.size))
  clear T3
  go_wp2_with fail
  refine (eqInstrSS_any H0.out.sl V0.out.sl (by omega) (by omega)).mono ?_
  rintro e w15 ⟨rfl, hb15⟩
  have s15 := hb15.size
  replace RP := Lib.hid (RP.out.below hb15 (by omega))
  replace V0 := Lib.hid (V0.out.below hb15 (by omega))
  replace M0 := Lib.hid (M0.out.below hb15 (by omega))
  replace H0 := Lib.hid (H0.out.below hb15 (by omega))
  replace G := Lib.hid (G.out.trans (hb15.mono G.out.size))
  go_wp2_with fail
  refine (heldInstrSS_any M0.out.sl (by omega) (by omega) (by omega)).mono ?_
  rintro e w16 ⟨rfl, hb16⟩
  have s16 := hb16.size
  replace RP := Lib.hid (RP.out.below hb16 (by omega))
  replace V0 := Lib.hid (V0.out.below hb16 (by omega))
  replace M0 := Lib.hid (M0.out.below hb16 (by omega))
  replace H0 := Lib.hid (H0.out.below hb16 (by omega))
  replace G := Lib.hid (G.out.trans (hb16.mono G.out.size))
  go_wp2_with fail
  go_ret
  exact ⟨rfl, G.out⟩
theorem lawr_TurnLocs {w : World} (v : Value) (p : List (List Ins)) (h : SlSl Ins.cells 4 w 0 w.heap.size v p) (i : Int) (_ : (Lit.int .i64 i).wf = true) (k : Int) (_ : (Lit.int .i64 k).wf = true) :
    Calls Try.prog 11 #[v, .int .i64 i, .int .i64 k] w fun e w' => e = .returned (.bool true) ∧ Below w.heap.size w w' :=
  law_FnExactTurnLocs i k h

namespace fnExactTurnLocs
theorem own : ownKnob Try.prog.godebug = none := by kernel_rfl
theorem laidOut : laidOutB Try.prog = true := by kernel_rfl
theorem readableB : ([30, 3, 3].all fun t => Try.prog.readableRec t && decide (t < Try.prog.types.size)) = true := by kernel_rfl
theorem readable : ∀ t ∈ ([30, 3, 3] : List TypeId), Try.prog.readableRec t = true ∧ t < Try.prog.types.size := fun t ht => by
  have := List.all_eq_true.1 readableB t ht
  simpa using this
theorem lifted (os : Os) (started : os.Started) (H : Type) (enc : TypeId × Value → H) :
    ReturnsInHanded {} Try.checked os 11 .any (Rows.fnExactTurnLocsSpec.pre6 enc Try.prog Try.f11 Rows.fnExactTurnLocsRow.domain false) (Rows.fnExactTurnLocsSpec.post enc Try.prog Try.f11 false true false false) := by
  refine returnsInHanded_of_change (C := Try.checked) own started (by kernel_rfl) Try.func11
    (ChangeSpec.witness6 (enc := enc) (C := Try.checked) false ⟨#[], #[.slice none 0 0, .int .i64 0, .int .i64 0], []⟩ 8 (by kernel_rfl) (by kernel_rfl) (by kernel_rfl) (by kernel_rfl)) ?_
  intro W base args ds gs before hval0 hW hcnd _
  have hval : ∀ (j : Nat) t v, Try.f11.params[j]? = some t → args[j]? = some v → Value.okWide Try.prog W .any base t v := hval0
  have hW' := hW
  obtain ⟨p, q, hA0, hV, rfl, hfz, hnd⟩ := hW
  have hA : DataW.TrodAll enc Try.prog W 0 (fun _ => true) true Try.f11.params.toList args.toList ds p := hA0
  rw [Try.params11] at hA hval
  have hA1 := hA
  obtain ⟨v0, vs0, d0, ds0, p0, q0, hargs0, rfl, rfl, h0, r0⟩ := trodAll_cons hA
  obtain ⟨v1, vs1, d1, ds1, p1, q1, rfl, rfl, rfl, h1, r1⟩ := trodAll_cons r0
  obtain ⟨v2, vs2, d2, ds2, p2, q2, rfl, rfl, rfl, h2, r2⟩ := trodAll_cons r1
  obtain ⟨rfl, rfl, rfl⟩ := trodAll_nil r2
  obtain rfl : args = #[v0, v1, v2] := by cases args; simp_all
  obtain ⟨rfl, rfl⟩ := trodVars_none hV
  obtain ⟨a0, w0⟩ : ∃ p : List (List Ins), SlSl Ins.cells 4 W 0 W.heap.size v0 p := by
    obtain ⟨fuel, hf⟩ := h0
    obtain ⟨v, hv, p, hp, _⟩ := rd_sliceS (f := Ins.cells) (s := 4) (Good := fun _ => True) (by kernel_rfl) (by omega) (by kernel_rfl) Try.underlying30 Try.underlying64 (fun fuel cs x h => rd_ins Try.underlying89 Try.underlying3 ⟨rfl, rfl⟩ ⟨rfl, rfl⟩ ⟨rfl, rfl⟩ ⟨rfl, rfl⟩ (by kernel_rfl) (by kernel_rfl) fuel cs x h) hf
    rw [one_cell hv (okWide_slice Try.underlying30 (hval 0 30 v0 rfl rfl))]
    exact ⟨p, hp⟩
  obtain ⟨a1, rfl, _, _, w1⟩ := open_int Try.underlying3 (hval 1 3 v1 rfl rfl) h1
  obtain ⟨a2, rfl, _, _, w2⟩ := open_int Try.underlying3 (hval 2 3 v2 rfl rfl) h2
  clear hA0 hval0
  simp only [List.append_nil] at hW'
  have hlt := fun x hx => hW'.lt x hx
  refine (lawr_TurnLocs v0 a0 w0 a1 w1 a2 w2).mono fun e W' ⟨he, hg⟩ => ?_
  subst he
  exact ⟨_, rfl, post_of_below (pv := []) hW' (fun _ _ _ => trodAll_cons_mk (shut_bool Try.underlying4 _) trodAll_mk0) (fun sp hsp => trodAll_below laidOut hg _ _ _ _ readable hA1 (by simpa using hlt) (by simpa using hsp)) (fun _ _ => rfl) (by simp)
    hg (ok_one (by kernel_rfl) rfl (okWide_bool_mk Try.underlying4 _))⟩

theorem over : Rows.fnExactTurnLocsRow.holds Try.pinned (OpenSpec.ofChange Rows.fnExactTurnLocsSpec) :=
  OpenClaim.holds_of_wide 11 Try.f11 rfl rfl rfl rfl rfl rfl rfl ⟨rfl, rfl, rfl, rfl, rfl⟩ rfl rfl rfl rfl rfl (by kernel_rfl) Try.func11 (by kernel_rfl)
    (of_decide_eq_true (by kernel_rfl)) (by unfold Func.isWrapper; first | (rw [if_pos (by decide +kernel)]; kernel_rfl) | (rw [if_neg (by decide +kernel)]; exact ⟨rfl, rfl⟩))
    (fun os started H enc _ => lifted os started H enc)
theorem proved : Rows.FnExactTurnLocsSaid := over
end fnExactTurnLocs
end Go.Proofs.Ytjjkgemgomfmdaa
