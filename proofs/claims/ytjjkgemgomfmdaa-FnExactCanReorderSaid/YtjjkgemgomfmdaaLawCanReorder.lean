/-
  PROVED: FnExactCanReorder: for every program, every two numbers and every name the law returns true, and memory that was there is as it was. No conditions.
-/
import Derived.Test.YtjjkgemgomfmdaaCanRe3
import Derived.Test.YtjjkgemgomfmdaaLawBase
import Derived.ChangeMaps5
namespace Go.Proofs.Ytjjkgemgomfmdaa
open Go.ChangeShapes Go.WideShapes Go.ChangeAt Go.RowKit
set_option maxRecDepth 100000

set_option maxHeartbeats 1000000 in
theorem law_FnExactCanReorder {u : Value} {p : List (List Ins)} (t i : Int) (s : ByteArray) {w : World} (hu : SlSl Ins.cells 4 w 0 w.heap.size u p) :
    Calls Try.prog 7 #[u, .int .i64 t, .int .i64 i, .string s] w fun e w' => e = .returned (.bool true) ∧ Below w.heap.size w w' := by
  have RP := Lib.hid hu; clear hu
  have G := Lib.hid (Below.refl w.heap.size w)
  by_cases hls : (s.size : Int) > 1048576
  · go_enter Try.func7, Try.ntmps7
    go_wp2_with fail
    go_ret
    exact ⟨rfl, G.out⟩
  go_enter Try.func7, Try.ntmps7
  go_wp2_with fail
  refine (szInstrSS_any RP.out).mono ?_
  rintro e w1 ⟨⟨r, rfl, hr⟩, hb1⟩
  have s1 := hb1.size
  replace RP := Lib.hid (RP.out.below hb1 (by omega))
  replace G := Lib.hid (G.out.trans (hb1.mono G.out.size))
  rcases hr with hr | ⟨hr0, hsz⟩
  · go_wp2_with fail
    go_ret
    exact ⟨rfl, G.out⟩
  have hr1 : ¬ r < 0 := by omega
  have ht : total p ≤ 1048576 := by omega
  have hpl : p.length ≤ 1048576 := by omega
  clear hr0 hsz
  have IM := fun (W : World) lo hi v (h : SlSl Ins.cells 4 W lo hi v p) hh => impl_CanReorder_any (w := W) t i s h hh ht hpl
  have SP := fun (W : World) lo hi v (h : SlSl Ins.cells 4 W lo hi v p) hh => spec_CanReorder_any (w := W) t i s h hh ht hpl
  generalize canR p t i s = bb at *
  have HIM := Lib.hid IM; clear IM
  have HSP := Lib.hid SP; clear SP
  have d2 : decide (p = p) = true := by simp
  go_wp2_with fail
  refine (toInstrSS_any RP.out (by omega) hpl ht).mono ?_
  rintro e w2 ⟨⟨t2, rfl, hT2⟩, hb2⟩
  have T2 := Lib.hid hT2; clear hT2
  have s2 := hb2.size
  replace RP := Lib.hid (RP.out.below hb2 (by omega))
  replace G := Lib.hid (G.out.trans (hb2.mono G.out.size))
  go_wp2_with fail
  refine (HSP.out _ _ _ _ T2.out.sl (by omega)).mono ?_
  rintro e w3 ⟨rfl, hb3⟩
  have s3 := hb3.size
  replace RP := Lib.hid (RP.out.below hb3 (by omega))
  replace T2 := Lib.hid (T2.out.below hb3 (by omega))
  replace G := Lib.hid (G.out.trans (hb3.mono G.out.size))
  clear T2
  go_wp2_with fail
  refine (toInstrSS_any RP.out (by omega) hpl ht).mono ?_
  rintro e w4 ⟨⟨x0, rfl, hX0⟩, hb4⟩
  have X0 := Lib.hid hX0; clear hX0
  have s4 := hb4.size
  replace RP := Lib.hid (RP.out.below hb4 (by omega))
  replace G := Lib.hid (G.out.trans (hb4.mono G.out.size))
  go_wp2_with fail
  refine (HIM.out _ _ _ _ X0.out.sl (by omega)).mono ?_
  rintro e w5 ⟨rfl, hb5⟩
  have s5 := hb5.size
  replace RP := Lib.hid (RP.out.below hb5 (by omega))
  replace X0 := Lib.hid (X0.out.below hb5 (by omega))
  replace G := Lib.hid (G.out.trans (hb5.mono G.out.size))
  go_wp2_with fail
  refine (toInstrSS_any RP.out (by omega) hpl ht).mono ?_
  rintro e w6 ⟨⟨y0, rfl, hY0⟩, hb6⟩
  have Y0 := Lib.hid hY0; clear hY0
  have s6 := hb6.size
  replace RP := Lib.hid (RP.out.below hb6 (by omega))
  replace X0 := Lib.hid (X0.out.below hb6 (by omega))
  replace G := Lib.hid (G.out.trans (hb6.mono G.out.size))
  go_wp2_with fail
  refine (eqInstrSS_any X0.out.sl Y0.out.sl (by omega) (by omega)).mono ?_
  rintro e w7 ⟨rfl, hb7⟩
  have s7 := hb7.size
  replace RP := Lib.hid (RP.out.below hb7 (by omega))
  replace X0 := Lib.hid (X0.out.below hb7 (by omega))
  replace Y0 := Lib.hid (Y0.out.below hb7 (by omega))
  replace G := Lib.hid (G.out.trans (hb7.mono G.out.size))
  clear Y0
  go_wp2_with fail
  go_ret
  exact ⟨rfl, G.out⟩
theorem lawr_CanReorder {w : World} (v : Value) (p : List (List Ins)) (h : SlSl Ins.cells 4 w 0 w.heap.size v p) (t : Int) (_ : (Lit.int .i64 t).wf = true) (i : Int) (_ : (Lit.int .i64 i).wf = true) (s : ByteArray) (_ : s.size ≤ maxLen) :
    Calls Try.prog 7 #[v, .int .i64 t, .int .i64 i, .string s] w fun e w' => e = .returned (.bool true) ∧ Below w.heap.size w w' :=
  law_FnExactCanReorder t i s h

namespace fnExactCanReorder
theorem own : ownKnob Try.prog.godebug = none := by kernel_rfl
theorem laidOut : laidOutB Try.prog = true := by kernel_rfl
theorem readableB : ([30, 3, 3, 9].all fun t => Try.prog.readableRec t && decide (t < Try.prog.types.size)) = true := by kernel_rfl
theorem readable : ∀ t ∈ ([30, 3, 3, 9] : List TypeId), Try.prog.readableRec t = true ∧ t < Try.prog.types.size := fun t ht => by
  have := List.all_eq_true.1 readableB t ht
  simpa using this
theorem lifted (os : Os) (started : os.Started) (H : Type) (enc : TypeId × Value → H) :
    ReturnsInHanded {} Try.checked os 7 .any (Rows.fnExactCanReorderSpec.pre6 enc Try.prog Try.f7 Rows.fnExactCanReorderRow.domain false) (Rows.fnExactCanReorderSpec.post enc Try.prog Try.f7 false true false false) := by
  refine returnsInHanded_of_change (C := Try.checked) own started (by kernel_rfl) Try.func7
    (ChangeSpec.witness6 (enc := enc) (C := Try.checked) false ⟨#[], #[.slice none 0 0, .int .i64 0, .int .i64 0, .string ByteArray.empty], []⟩ 8 (by kernel_rfl) (by kernel_rfl) (by kernel_rfl) (by kernel_rfl)) ?_
  intro W base args ds gs before hval0 hW hcnd _
  have hval : ∀ (j : Nat) t v, Try.f7.params[j]? = some t → args[j]? = some v → Value.okWide Try.prog W .any base t v := hval0
  have hW' := hW
  obtain ⟨p, q, hA0, hV, rfl, hfz, hnd⟩ := hW
  have hA : DataW.TrodAll enc Try.prog W 0 (fun _ => true) true Try.f7.params.toList args.toList ds p := hA0
  rw [Try.params7] at hA hval
  have hA1 := hA
  obtain ⟨v0, vs0, d0, ds0, p0, q0, hargs0, rfl, rfl, h0, r0⟩ := trodAll_cons hA
  obtain ⟨v1, vs1, d1, ds1, p1, q1, rfl, rfl, rfl, h1, r1⟩ := trodAll_cons r0
  obtain ⟨v2, vs2, d2, ds2, p2, q2, rfl, rfl, rfl, h2, r2⟩ := trodAll_cons r1
  obtain ⟨v3, vs3, d3, ds3, p3, q3, rfl, rfl, rfl, h3, r3⟩ := trodAll_cons r2
  obtain ⟨rfl, rfl, rfl⟩ := trodAll_nil r3
  obtain rfl : args = #[v0, v1, v2, v3] := by cases args; simp_all
  obtain ⟨rfl, rfl⟩ := trodVars_none hV
  obtain ⟨a0, w0⟩ : ∃ p : List (List Ins), SlSl Ins.cells 4 W 0 W.heap.size v0 p := by
    obtain ⟨fuel, hf⟩ := h0
    obtain ⟨v, hv, p, hp, _⟩ := rd_sliceS (f := Ins.cells) (s := 4) (Good := fun _ => True) (by kernel_rfl) (by omega) (by kernel_rfl) Try.underlying30 Try.underlying64 (fun fuel cs x h => rd_ins Try.underlying89 Try.underlying3 ⟨rfl, rfl⟩ ⟨rfl, rfl⟩ ⟨rfl, rfl⟩ ⟨rfl, rfl⟩ (by kernel_rfl) (by kernel_rfl) fuel cs x h) hf
    rw [one_cell hv (okWide_slice Try.underlying30 (hval 0 30 v0 rfl rfl))]
    exact ⟨p, hp⟩
  obtain ⟨a1, rfl, _, _, w1⟩ := open_int Try.underlying3 (hval 1 3 v1 rfl rfl) h1
  obtain ⟨a2, rfl, _, _, w2⟩ := open_int Try.underlying3 (hval 2 3 v2 rfl rfl) h2
  obtain ⟨a3, rfl, _, _, w3⟩ := Go.ChangeMaps.open_string Try.underlying9 (hval 3 9 v3 rfl rfl) h3
  clear hA0 hval0
  simp only [List.append_nil] at hW'
  have hlt := fun x hx => hW'.lt x hx
  refine (lawr_CanReorder v0 a0 w0 a1 w1 a2 w2 a3 w3).mono fun e W' ⟨he, hg⟩ => ?_
  subst he
  exact ⟨_, rfl, post_of_below (pv := []) hW' (fun _ _ _ => trodAll_cons_mk (shut_bool Try.underlying4 _) trodAll_mk0) (fun sp hsp => trodAll_below laidOut hg _ _ _ _ readable hA1 (by simpa using hlt) (by simpa using hsp)) (fun _ _ => rfl) (by simp)
    hg (ok_one (by kernel_rfl) rfl (okWide_bool_mk Try.underlying4 _))⟩

theorem over : Rows.fnExactCanReorderRow.holds Try.pinned (OpenSpec.ofChange Rows.fnExactCanReorderSpec) :=
  OpenClaim.holds_of_wide 7 Try.f7 rfl rfl rfl rfl rfl rfl rfl ⟨rfl, rfl, rfl, rfl, rfl⟩ rfl rfl rfl rfl rfl (by kernel_rfl) Try.func7 (by kernel_rfl)
    (of_decide_eq_true (by kernel_rfl)) (by unfold Func.isWrapper; first | (rw [if_pos (by decide +kernel)]; kernel_rfl) | (rw [if_neg (by decide +kernel)]; exact ⟨rfl, rfl⟩))
    (fun os started H enc _ => lifted os started H enc)
theorem proved : Rows.FnExactCanReorderSaid := over
end fnExactCanReorder
end Go.Proofs.Ytjjkgemgomfmdaa
