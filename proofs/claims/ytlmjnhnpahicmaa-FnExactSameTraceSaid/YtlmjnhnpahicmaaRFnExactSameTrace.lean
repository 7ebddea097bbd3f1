/-
  PROVED: FnExactSameTrace: for every program and all schedules the law returns true, and memory that was there is as it was. No conditions.
-/
import Derived.Test.YtlmjnhnpahicmaaDgz
import Derived.Test.YtlmjnhnpahicmaaS263
import Derived.Test.YtlmjnhnpahicmaaBr
import Derived.Test.YtlmjnhnpahicmaaBr2
import Derived.Test.YtlmjnhnpahicmaaRow
import Derived.OpenShut
namespace Go.Proofs.Ytlmjnhnpahicmaa
open Go.ChangeShapes Go.WideShapes Go.ChangeAt Go.RowKit
set_option maxRecDepth 100000
def ofL (x : Ins) : Xlaws_Instr := ⟨x.op, x.loc, x.reg, x.val⟩
theorem args_pab {w : World} {fz : Nat → Prop} {a b c : AV} {u x y : Value} (ha : FRel w fz a u) (hb : FRel w fz b x) (hc : FRel w fz c y) : ∀ (j : Nat) (d : AV) (z : Value), [a, b, c][j]? = some d → #[u, x, y][j]? = some z → FRel w fz d z := by
  intro j d z hd hz
  match j with
  | 0 =>
    obtain rfl := Option.some.inj hd
    obtain rfl : u = z := by simpa using hz
    exact ha
  | 1 =>
    obtain rfl := Option.some.inj hd
    obtain rfl : x = z := by simpa using hz
    exact hb
  | 2 =>
    obtain rfl := Option.some.inj hd
    obtain rfl : y = z := by simpa using hz
    exact hc
  | j + 3 => simp at hd
theorem lawr_FnExactSameTrace {w : World} (v : Value) (p : List (List Ins)) (h : SlSl Ins.cells 4 w 0 w.heap.size v p) (v1 : Value) (xs : List Int) (h1 : Sl int1 1 w 0 w.heap.size v1 xs) (_ : ∀ y ∈ xs, (Lit.int .i64 y).wf = true) (v2 : Value) (ys : List Int) (h2 : Sl int1 1 w 0 w.heap.size v2 ys) (_ : ∀ y ∈ ys, (Lit.int .i64 y).wf = true) :
    Calls Try.prog 5 #[v, v1, v2] w fun e w' => e = .returned (.bool true) ∧ Below w.heap.size w w' := by
  have hl : ((p.map (List.map ofL)).length : Int) ≤ 9223372036854775807 ∧ ∀ r ∈ p.map (List.map ofL), (r.length : Int) ≤ 9223372036854775807 := by
    obtain ⟨vs, ⟨A, c, e1, e2, e3, _⟩, h2, h3⟩ := h
    refine ⟨by rw [List.length_map]; omega, fun r hr => ?_⟩
    obtain ⟨r', hr', rfl⟩ := List.mem_map.1 hr
    obtain ⟨k, hk, rfl⟩ := List.getElem_of_mem hr'
    obtain ⟨A', c', e1', e2', e3', _⟩ := h3 k (by omega) hk
    rw [List.length_map]
    omega
  have hf := frel_slslI (f := Ins.cells) (s := 4) (c := Xlaws_Instr.c) (e := ofL) (fun _ => rfl) (fun _ => rfl) (fun x u hu => by simp [Ins.cells] at hu; rcases hu with rfl | rfl | rfl | rfl <;> rfl) (fz := fun g => g < w.heap.size) (fun g _ hg => hg) h
  exact law_of_pure (F_laws_FnExactSameTrace_P _ xs ys (law26 _ xs ys hl)) rfl (args_pab hf (frel_ints h1) (frel_ints h2))

namespace fnExactSameTrace
theorem own : ownKnob Try.prog.godebug = none := by kernel_rfl
theorem laidOut : laidOutB Try.prog = true := by kernel_rfl
theorem readableB : ([22, 23, 23].all fun t => Try.prog.readableRec t && decide (t < Try.prog.types.size)) = true := by kernel_rfl
theorem readable : ∀ t ∈ ([22, 23, 23] : List TypeId), Try.prog.readableRec t = true ∧ t < Try.prog.types.size := fun t ht => by
  have := List.all_eq_true.1 readableB t ht
  simpa using this
theorem lifted (os : Os) (started : os.Started) (H : Type) (enc : TypeId × Value → H) :
    ReturnsInHanded {} Try.checked os 5 .any (Rows.fnExactSameTraceSpec.pre6 enc Try.prog Try.f5 Rows.fnExactSameTraceRow.domain false) (Rows.fnExactSameTraceSpec.post enc Try.prog Try.f5 false true false false) := by
  refine returnsInHanded_of_change (C := Try.checked) own started (by kernel_rfl) Try.func5
    (ChangeSpec.witness6 (enc := enc) (C := Try.checked) false ⟨#[], #[.slice none 0 0, .slice none 0 0, .slice none 0 0], []⟩ 8 (by kernel_rfl) (by kernel_rfl) (by kernel_rfl) (by kernel_rfl)) ?_
  intro W base args ds gs before hval0 hW hcnd _
  have hval : ∀ (j : Nat) t v, Try.f5.params[j]? = some t → args[j]? = some v → Value.okWide Try.prog W .any base t v := hval0
  have hW' := hW
  obtain ⟨p, q, hA0, hV, rfl, hfz, hnd⟩ := hW
  have hA : DataW.TrodAll enc Try.prog W 0 (fun _ => true) true Try.f5.params.toList args.toList ds p := hA0
  rw [Try.params5] at hA hval
  have hA1 := hA
  obtain ⟨v0, vs0, d0, ds0, p0, q0, hargs0, rfl, rfl, h0, r0⟩ := trodAll_cons hA
  obtain ⟨v1, vs1, d1, ds1, p1, q1, rfl, rfl, rfl, h1, r1⟩ := trodAll_cons r0
  obtain ⟨v2, vs2, d2, ds2, p2, q2, rfl, rfl, rfl, h2, r2⟩ := trodAll_cons r1
  obtain ⟨rfl, rfl, rfl⟩ := trodAll_nil r2
  obtain rfl : args = #[v0, v1, v2] := by cases args; simp_all
  obtain ⟨rfl, rfl⟩ := trodVars_none hV
  obtain ⟨a0, w0⟩ : ∃ p : List (List Ins), SlSl Ins.cells 4 W 0 W.heap.size v0 p := by
    obtain ⟨fuel, hf⟩ := h0
    obtain ⟨v, hv, p, hp, _⟩ := rd_sliceS (f := Ins.cells) (s := 4) (Good := fun _ => True) (by kernel_rfl) (by omega) (by kernel_rfl) Try.underlying22 Try.underlying64 (fun fuel cs x h => rd_ins Try.underlying93 Try.underlying3 ⟨rfl, rfl⟩ ⟨rfl, rfl⟩ ⟨rfl, rfl⟩ ⟨rfl, rfl⟩ (by kernel_rfl) (by kernel_rfl) fuel cs x h) hf
    rw [one_cell hv (okWide_slice Try.underlying22 (hval 0 22 v0 rfl rfl))]
    exact ⟨p, hp⟩
  obtain ⟨a1, w1, g1⟩ : ∃ xs : List Int, Sl int1 1 W 0 W.heap.size v1 xs ∧ ∀ y ∈ xs, (Lit.int .i64 y).wf = true := by
    obtain ⟨fuel, hf⟩ := h1
    obtain ⟨v, hv, p, hp, hg⟩ := rd_slice (f := int1) (s := 1) (by kernel_rfl) (by omega) Try.underlying23 (fun fuel cs x h => rd_int Try.underlying3 fuel cs x h) hf
    rw [one_cell hv (okWide_slice Try.underlying23 (hval 1 23 v1 rfl rfl))]
    exact ⟨p, hp, hg⟩
  obtain ⟨a2, w2, g2⟩ : ∃ xs : List Int, Sl int1 1 W 0 W.heap.size v2 xs ∧ ∀ y ∈ xs, (Lit.int .i64 y).wf = true := by
    obtain ⟨fuel, hf⟩ := h2
    obtain ⟨v, hv, p, hp, hg⟩ := rd_slice (f := int1) (s := 1) (by kernel_rfl) (by omega) Try.underlying23 (fun fuel cs x h => rd_int Try.underlying3 fuel cs x h) hf
    rw [one_cell hv (okWide_slice Try.underlying23 (hval 2 23 v2 rfl rfl))]
    exact ⟨p, hp, hg⟩
  clear hA0 hval0
  simp only [List.append_nil] at hW'
  have hlt := fun x hx => hW'.lt x hx
  refine (lawr_FnExactSameTrace v0 a0 w0 v1 a1 w1 g1 v2 a2 w2 g2).mono fun e W' ⟨he, hg⟩ => ?_
  subst he
  exact ⟨_, rfl, post_of_below (pv := []) hW' (fun _ _ _ => trodAll_cons_mk (shut_bool Try.underlying4 _) trodAll_mk0) (fun sp hsp => trodAll_below laidOut hg _ _ _ _ readable hA1 (by simpa using hlt) (by simpa using hsp)) (fun _ _ => rfl) (by simp)
    hg (ok_one (by kernel_rfl) rfl (okWide_bool_mk Try.underlying4 _))⟩

theorem over : Rows.fnExactSameTraceRow.holds Try.pinned (OpenSpec.ofChange Rows.fnExactSameTraceSpec) :=
  OpenClaim.holds_of_wide 5 Try.f5 rfl rfl rfl rfl rfl rfl rfl ⟨rfl, rfl, rfl, rfl, rfl⟩ rfl rfl rfl rfl rfl (by kernel_rfl) Try.func5 (by kernel_rfl)
    (of_decide_eq_true (by kernel_rfl)) (by unfold Func.isWrapper; first | (rw [if_pos (by decide +kernel)]; kernel_rfl) | (rw [if_neg (by decide +kernel)]; exact ⟨rfl, rfl⟩))
    (fun os started H enc _ => lifted os started H enc)
theorem proved : Rows.FnExactSameTraceSaid := over
end fnExactSameTrace
end Go.Proofs.Ytlmjnhnpahicmaa
