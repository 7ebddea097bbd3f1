/-
  PROVED: FnExactEventText: for every program and every number the law returns true, and memory that was there is as it was. No conditions.
-/
import Derived.Test.YtjogdblionfmiaaDoorD15
import Derived.Test.YtjogdblionfmiaaDoorS151
import Derived.Test.YtjogdblionfmiaaDoorBr
import Derived.Test.YtjogdblionfmiaaDoorBr2
import Derived.Test.YtjogdblionfmiaaDoorRow
import Derived.OpenShut
import Derived.Test.YtjogdblionfmiaaDoorCards
import Derived.Test.YtjogdblionfmiaaDoorTie
import Derived.ProofKit
import Derived.LaidMore
import Derived.SevenTiedAt
namespace Go.Proofs.YtjogdblionfmiaaDoor
open Go.ChangeShapes Go.WideShapes Go.ChangeAt Go.RowKit
set_option maxRecDepth 100000
def ofL (x : Ins) : Xlaws_Instr := ⟨x.op, x.loc, x.reg, x.val⟩
theorem args_pi {w : World} {fz : Nat → Prop} {a : AV} {u : Value} {i : Int} (ha : FRel w fz a u) : ∀ (j : Nat) (c : AV) (z : Value), [a, I i][j]? = some c → #[u, .int .i64 i][j]? = some z → FRel w fz c z := by
  intro j c z hc hz
  match j with
  | 0 =>
    obtain rfl := Option.some.inj hc
    obtain rfl : u = z := by simpa using hz
    exact ha
  | 1 =>
    obtain rfl := Option.some.inj hc
    obtain rfl : Value.int .i64 i = z := by simpa using hz
    exact .v rfl
  | j + 2 => simp at hc
theorem lawr_FnExactEventText {w : World} (v : Value) (p : List (List Ins)) (h : SlSl Ins.cells 4 w 0 w.heap.size v p) (i : Int) (_ : (Lit.int .i64 i).wf = true) :
    Calls Tryd.prog 3 #[v, .int .i64 i] w fun e w' => e = .returned (.bool true) ∧ Below w.heap.size w w' := by
  have hl : ((p.map (List.map ofL)).length : Int) ≤ 9223372036854775807 ∧ ∀ r ∈ p.map (List.map ofL), (r.length : Int) ≤ 9223372036854775807 := by
    obtain ⟨vs, ⟨A, c, e1, e2, e3, _⟩, h2, h3⟩ := h
    refine ⟨by rw [List.length_map]; omega, fun r hr => ?_⟩
    obtain ⟨r', hr', rfl⟩ := List.mem_map.1 hr
    obtain ⟨k, hk, rfl⟩ := List.getElem_of_mem hr'
    obtain ⟨A', c', e1', e2', e3', _⟩ := h3 k (by omega) hk
    rw [List.length_map]
    omega
  have hf := frel_slslI (f := Ins.cells) (s := 4) (c := Xlaws_Instr.c) (e := ofL) (fun _ => rfl) (fun _ => rfl) (fun x u hu => by simp [Ins.cells] at hu; rcases hu with rfl | rfl | rfl | rfl <;> rfl) (fz := fun g => g < w.heap.size) (fun g _ hg => hg) h
  exact law_of_pure (F_laws_FnExactEventText_P _ i (law15 _ i hl)) rfl (args_pi hf)

namespace fnExactEventText
theorem own : ownKnob Tryd.prog.godebug = none := by kernel_rfl
theorem laidOut : laidOutB Tryd.prog = true := by kernel_rfl
theorem readableB : ([22, 3].all fun t => Tryd.prog.readableRec t && decide (t < Tryd.prog.types.size)) = true := by kernel_rfl
theorem readable : ∀ t ∈ ([22, 3] : List TypeId), Tryd.prog.readableRec t = true ∧ t < Tryd.prog.types.size := fun t ht => by
  have := List.all_eq_true.1 readableB t ht
  simpa using this
theorem door_met (os : Os) (args : Array Value) : laidMetH Tryd.prog Rows.fnExactEventTextRow.laid ((World.doorLaid Tryd.prog 400 os).forCall (fun _ _ => 0) ⟨#[], args, []⟩).memory :=
  laidMetH_of_parts3 (fuel := 8) (laidMet_of_run' 8 (by kernel_rfl) (by kernel_rfl)) (by kernel_rfl) (by kernel_rfl)
theorem lifted (os : Os) (started : os.Started) (H : Type) (enc : TypeId × Value → H) :
    ReturnsInHanded {} Tryd.checked os 3 .any (fun w args => (Rows.fnExactEventTextSpec.pre enc Tryd.prog Tryd.f3 [] false w args ∧ laidMetH Tryd.prog Rows.fnExactEventTextRow.laid w) ∧ sizedMet enc Tryd.prog Tryd.f3 (OpenSpec.ofChange Rows.fnExactEventTextSpec) false w args) (Rows.fnExactEventTextSpec.post enc Tryd.prog Tryd.f3 false true false false) := by
  refine returnsInHanded_of_change_and (C := Tryd.checked) (X := fun w _ => laidMetH Tryd.prog Rows.fnExactEventTextRow.laid w) (fun _ _ _ hh h => h.of_heap hh) own started (by kernel_rfl) Tryd.func3
    (ChangeSpec.witness_shaped (enc := enc) (C := Tryd.checked) (os := os) (X := fun w _ => laidMetH Tryd.prog Rows.fnExactEventTextRow.laid w) false (World.doorLaid Tryd.prog 400 os) #[.slice none 0 0, .int .i64 0] 8 rfl (World.shaped_of_RefB (by kernel_rfl) (by kernel_rfl)) (by kernel_rfl) (by kernel_rfl) (by kernel_rfl) (door_met os _)) ?_
  intro W base args ds gs before hval0 hW hcnd _ hL _
  have hval : ∀ (j : Nat) t v, Tryd.f3.params[j]? = some t → args[j]? = some v → Value.okWide Tryd.prog W .any base t v := hval0
  have hW' := hW
  obtain ⟨p, q, hA0, hV, rfl, hfz, hnd⟩ := hW
  have hA : DataW.TrodAll enc Tryd.prog W 0 (fun _ => true) true Tryd.f3.params.toList args.toList ds p := hA0
  rw [Tryd.params3] at hA hval
  have hA1 := hA
  obtain ⟨v0, vs0, d0, ds0, p0, q0, hargs0, rfl, rfl, h0, r0⟩ := trodAll_cons hA
  obtain ⟨v1, vs1, d1, ds1, p1, q1, rfl, rfl, rfl, h1, r1⟩ := trodAll_cons r0
  obtain ⟨rfl, rfl, rfl⟩ := trodAll_nil r1
  obtain rfl : args = #[v0, v1] := by cases args; simp_all
  obtain ⟨rfl, rfl⟩ := trodVars_none hV
  obtain ⟨a0, w0⟩ : ∃ p : List (List Ins), SlSl Ins.cells 4 W 0 W.heap.size v0 p := by
    obtain ⟨fuel, hf⟩ := h0
    obtain ⟨v, hv, p, hp, _⟩ := rd_sliceS (f := Ins.cells) (s := 4) (Good := fun _ => True) (by kernel_rfl) (by omega) (by kernel_rfl) Tryd.underlying22 Tryd.underlying42 (fun fuel cs x h => rd_ins Tryd.underlying58 Tryd.underlying3 ⟨rfl, rfl⟩ ⟨rfl, rfl⟩ ⟨rfl, rfl⟩ ⟨rfl, rfl⟩ (by kernel_rfl) (by kernel_rfl) fuel cs x h) hf
    rw [one_cell hv (okWide_slice Tryd.underlying22 (hval 0 22 v0 rfl rfl))]
    exact ⟨p, hp⟩
  obtain ⟨a1, rfl, _, _, w1⟩ := open_int Tryd.underlying3 (hval 1 3 v1 rfl rfl) h1
  clear hA0 hval0
  simp only [List.append_nil] at hW'
  have hlt := fun x hx => hW'.lt x hx
  refine (lawr_FnExactEventText v0 a0 w0 a1 w1).mono fun e W' ⟨he, hg⟩ => ?_
  subst he
  exact ⟨_, rfl, post_of_below (pv := []) hW' (fun _ _ _ => trodAll_cons_mk (shut_bool Tryd.underlying4 _) trodAll_mk0) (fun sp hsp => trodAll_below laidOut hg _ _ _ _ readable hA1 (by simpa using hlt) (by simpa using hsp)) (fun _ _ => rfl) (by simp)
    hg (ok_one (by kernel_rfl) rfl (okWide_bool_mk Tryd.underlying4 _))⟩

theorem over : Rows.fnExactEventTextRow.holds Tryd.pinned (OpenSpec.ofChange Rows.fnExactEventTextSpec) :=
  OpenClaim.holds_of_wide 3 Tryd.f3 rfl rfl rfl rfl rfl rfl rfl ⟨rfl, rfl, rfl, rfl, rfl⟩ rfl rfl rfl rfl rfl (by kernel_rfl) Tryd.func3 (by kernel_rfl)
    (of_decide_eq_true (by kernel_rfl)) (by unfold Func.isWrapper; first | (rw [if_pos (by decide +kernel)]; kernel_rfl) | (rw [if_neg (by decide +kernel)]; exact ⟨rfl, rfl⟩))
    (fun os started H enc _ => lifted os started H enc)
theorem proved : Rows.FnExactEventTextCardSaid :=
  Claim7.holds_tied_plain_at .later [] [.data, .data, .data] true (true, "6f815b3066973f4e404c039c5fb5ceacafb37c5b0377cd5a34fa603d3f5e766c") false
    over (fun _ h => by cases h) (by kernel_rfl) (fun _ h => by cases h) fnExactEventText_row_tie rfl ⟨rfl, rfl⟩ (by kernel_rfl) rfl
    (fun f fn hf hfn => by
      obtain rfl : f = 3 := Option.some.inj ((show Tryd.prog.funcNamed "loop.example/weakmemory/laws.FnExactEventText" = some 3 by kernel_rfl).symm.trans hf) |>.symm
      obtain rfl : fn = Tryd.f3 := (Option.some.inj (Tryd.func3.symm.trans hfn)).symm
      exact ⟨by kernel_rfl, fun j t ht => by
        rw [Tryd.params3] at ht
        have hm : t ∈ [22, 3] := by simpa using Array.mem_of_getElem? ht
        have hall : ([22, 3].all fun u => !Tryd.prog.wantsStandIn u) = true := by kernel_rfl
        exact (show Tryd.prog.wantsStandIn t = false by simpa using List.all_eq_true.1 hall t hm)⟩)
    (by kernel_rfl)
end fnExactEventText
end Go.Proofs.YtjogdblionfmiaaDoor
