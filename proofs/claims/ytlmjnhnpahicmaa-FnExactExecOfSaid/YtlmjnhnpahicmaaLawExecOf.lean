/-
 PROVED: FnExactExecOf: for every program and every schedule the law returns true, and memory that was there is as it was. No conditions.
-/
import Derived.Test.YtlmjnhnpahicmaaBrW
import Derived.Test.YtlmjnhnpahicmaaD27
import Derived.Test.YtlmjnhnpahicmaaS271
import Derived.Laws.ResultCell
import Derived.Laws.Rows
namespace Go.Proofs.Ytlmjnhnpahicmaa
open Go.ChangeShapes Go.WideShapes Go.ChangeAt Go.RowKit
set_option maxRecDepth 100000
theorem args2 {w : World} {fz : Nat → Prop} {a b : AV} {x y : Value} (ha : FRel w fz a x) (hb : FRel w fz b y) : ∀ (j : Nat) (d : AV) (z : Value), [a, b][j]? = some d → #[x, y][j]? = some z → FRel w fz d z := by
 intro j d z hd hz
 match j with
 | 0 =>
  obtain rfl := Option.some.inj hd
  obtain rfl : x = z := by simpa using hz
  exact ha
 | 1 =>
  obtain rfl := Option.some.inj hd
  obtain rfl : y = z := by simpa using hz
  exact hb
 | j + 2 => simp at hd
def ofP (p : List (List Ins)) : List (List ZIn) := p.map fun r => r.map ofIns
theorem eqEx {w : World} {lo hi lo' hi' : Nat} {v v' : Value} {x : Ximpl_Exec} (hx : EB x) (h : SlX w lo hi v x) (h' : SlX w lo' hi' v' x) :
  Calls Try.prog 27 #[v, v'] w fun e w' => e = .returned (.bool true) ∧ Below w.heap.size w w' :=
 law_of_pure (F_laws_eqExec_P _ _ (eqExec_ret hx).eq) rfl (args2 (frel_x h) (frel_x h'))
theorem heldEx {w : World} {lo hi : Nat} {v : Value} {x : Ximpl_Exec} {k : Int} (hk0 : 0 ≤ k) (hk1 : k + x.From.length + total x.Order ≤ 1000000000) (hrl : x.Order.length ≤ 1000000000) (h : SlX w lo hi v (markedX k x)) :
  Calls Try.prog 34 #[v, .int .i64 k] w fun e w' => e = .returned (.int .i64 (k + x.From.length + total x.Order)) ∧ Below w.heap.size w w' := by
 refine (calls_of_pure (F_laws_heldExec_P _ _ (heldExec_ret hk0 hk1 hrl).eq) #[v, .int .i64 k] rfl (args2 (frel_x h) (.v rfl))).mono fun e w' ⟨v, fz', he, hb, hv⟩ => ⟨?_, hb⟩
 rw [he, frel_v hv]
theorem specEx {W : World} {p : List (List Ins)} {o : List Int} {x : Ximpl_Exec} {bb : Bool} {lo hi lo' hi' : Nat} {a c : Value} (hS : F_spec_ExecOf (ofP p) o = some (x, bb)) (h : SlSl Ins.cells 4 W lo hi a p) (h' : Sl int1 1 W lo' hi' c o) :
  Calls Try.prog 32 #[a, c] W fun e w' => (∃ A1 n1 c1 A2 n2 c2, e = .returned (.tuple #[.agg #[.slice A1 n1 c1, .slice A2 n2 c2], .bool bb]) ∧ SlX w' 0 w'.heap.size (.agg #[.slice A1 n1 c1, .slice A2 n2 c2]) x) ∧ Below W.heap.size W w' := by
 refine (calls_of_pure (F_spec_ExecOf_P _ _ hS) _ rfl (args2 (frel_ins h) (frel_intsL h'))).mono fun e w' ⟨v, fz', he, hb, hv⟩ => ⟨?_, hb⟩
 cases hv with
 | @tup _ us hus hu =>
  obtain ⟨us⟩ := us
  match us, hus with
  | [v0, v1], _ =>
   have h0 := hu 0 _ v0 rfl rfl
   obtain rfl := frel_v (hu 1 _ v1 rfl rfl)
   have h1 := slx_of_frel h0
   obtain ⟨A1, n1, c1, A2, n2, c2, rfl⟩ := h1.form
   exact ⟨A1, n1, c1, A2, n2, c2, he, h1⟩
theorem runI {W : World} {p : List (List Ins)} {o q : List Int} {bb : Bool} {lo hi lo' hi' : Nat} {a c : Value} (hR : F_impl_RunSchedule (ofP p) o = some (q, bb)) (h : SlSl Ins.cells 4 W lo hi a p) (h' : Sl int1 1 W lo' hi' c o) :
  Calls Try.prog 40 #[a, c] W fun e w' => (∃ v0, e = .returned (.tuple #[v0, .bool bb])) ∧ Below W.heap.size W w' := by
 refine (calls_of_pure (F_impl_RunSchedule_P _ _ hR) _ rfl (args2 (frel_ins h) (frel_intsL h'))).mono fun e w' ⟨v, fz', he, hb, hv⟩ => ⟨?_, hb⟩
 cases hv with
 | @tup _ us hus hu =>
  obtain ⟨us⟩ := us
  match us, hus with
  | [v0, v1], _ =>
   obtain rfl := frel_v (hu 1 _ v1 rfl rfl)
   exact ⟨v0, he⟩
theorem ret_row {P : Program} {fn : Func} {p u : Tmp} {ty : TypeId} (h : fn.results = #[.cell p ty, .tmp u]) {tmps : Array Value} {w : World} {g : Nat} {t : TypeId} {cs : Array Value} {fr : Nat × Nat} {d : TypeDesc} (hp : tmps.getD p undef = .pointer (some ⟨g, 0, none⟩))
  (hg : w.heap[g]? = some (.cells cs t fr)) (hu : P.underlying ty = some d) (hd : (match d with | .struct _ | .array _ _ => true | _ => false) = true) (hi : (P.info? ty).map (·.size) = some cs.size) :
  (results fn tmps).run P w = .ok (.tuple #[.agg cs, tmps.getD u undef]) w := by
 rw [results_cell_tmp h, hp]
 simp [asAddr, Result.andThen, run_loadVar_row w g t ty cs fr d hg hu hd hi]
theorem implEx {W : World} {p : List (List Ins)} {o q : List Int} {bb : Bool} {x : Ximpl_Exec} {lo hi lo' hi' : Nat} {a c : Value} (hhi : hi ≤ W.heap.size) (hhi' : hi' ≤ W.heap.size) (hR : F_impl_RunSchedule (ofP p) o = some (q, bb))
  (hE : bb = true → F_impl_execOf (ofP p) o = some x ∧ 0 < x.From.length ∧ 0 < x.Order.length ∧ ∀ i, i < x.Order.length → 0 < (x.Order.getD i []).length) (hN : bb = false → x = ⟨[], []⟩) (h : SlSl Ins.cells 4 W lo hi a p) (h' : Sl int1 1 W lo' hi' c o) :
  Calls Try.prog 33 #[a, c] W fun e w' => (∃ A1 n1 c1 A2 n2 c2, e = .returned (.tuple #[.agg #[.slice A1 n1 c1, .slice A2 n2 c2], .bool bb]) ∧ OwX w' W.heap.size w'.heap.size (.agg #[.slice A1 n1 c1, .slice A2 n2 c2]) x) ∧ Below W.heap.size W w' := by
 have RP := Lib.hid (fun ob : Obj => h.below ((Below.refl W.heap.size W).alloc (Nat.le_refl _) ob) hhi); clear h
 have RO := Lib.hid (fun ob : Obj => h'.below ((Below.refl W.heap.size W).alloc (Nat.le_refl _) ob) hhi'); clear h'
 have BK := Lib.hid (fun (cs : Array Value) (t : TypeId) => show Blk (W.alloc (.cells cs t)) W.heap.size t cs from Array.getElem?_push_size)
 have BA := Lib.hid (fun ob : Obj => (Below.refl W.heap.size W).alloc (Nat.le_refl _) ob)
 have HR := Lib.hid hR; clear hR
 have HE := Lib.hid hE; clear hE
 go_enter Try.func33, Try.ntmps33
 go_wp2_with fail
 refine (runI HR.out (RP.out _) (RO.out _)).mono ?_
 rintro e w1 ⟨⟨v0, rfl⟩, hb1⟩
 have B1 := Lib.hid ((hb1.block W.heap.size (by simp)).trans (BK.out _ _))
 have HB1 := Lib.hid ((BA.out _).trans (hb1.mono (by simp)))
 have RP1 := Lib.hid ((RP.out _).below hb1 (by simp; omega))
 have RO1 := Lib.hid ((RO.out _).below hb1 (by simp; omega))
 have s1 : W.heap.size < w1.heap.size := by
  have := hb1.size
  simp at this
  omega
 clear hb1
 have f0 := Blk.frozen B1.out 0
 have f1 := Blk.frozen B1.out 1
 have c0 := Blk.cell B1.out 0
 have c1 := Blk.cell B1.out 1
 cases bb with
 | false =>
  obtain rfl := hN rfl
  go_wp2_with fail
  try simp only [Exit.inBlock, Exit.then]
  refine bodyPost_ret (ret_row rfl rfl (cs := #[.slice none 0 0, .slice none 0 0]) (Blk.set_ (Blk.set_ B1.out 0 _) 1 _) Try.underlying43 rfl (by kernel_rfl)) rfl ?_
  exact ⟨⟨_, _, _, _, _, _, rfl, OwX.nil _ _ _ (by simp [World.setCell]; omega) (by simp [World.setCell]; omega)⟩, (HB1.out.setCell (Nat.le_refl _) _).setCell (Nat.le_refl _) _⟩
 | true =>
  obtain ⟨e1, e2, e3, e4⟩ := HE.out rfl
  have E := Lib.hid e1; clear e1
  have E2 := Lib.hid e2; clear e2
  have E3 := Lib.hid e3; clear e3
  have E4 := Lib.hid e4; clear e4
  go_wp2_with fail
  refine (calls_of_ownX (F_impl_execOf_OX _ _ E.out) rfl (args2 (frel_ins RP1.out) (frel_intsL RO1.out)) E2.out E3.out E4.out).mono ?_
  rintro e w2 ⟨⟨v2, rfl, hX⟩, hb2⟩
  obtain ⟨A1, n1, d1, A2, n2, d2, rfl⟩ := hX.form
  have HX := Lib.hid hX; clear hX
  have B2 := Lib.hid ((hb2.block W.heap.size s1).trans B1.out)
  have HB2 := Lib.hid hb2; clear hb2
  clear f0 f1 c0 c1
  have f0 := Blk.frozen B2.out 0
  have f1 := Blk.frozen B2.out 1
  have c0 := Blk.cell B2.out 0
  have c1 := Blk.cell B2.out 1
  go_wp2_with fail
  try simp only [Exit.inBlock, Exit.then]
  refine bodyPost_ret (ret_row rfl rfl (cs := #[.slice A1 n1 d1, .slice A2 n2 d2]) (Blk.set_ (Blk.set_ B2.out 0 _) 1 _) Try.underlying43 rfl (by kernel_rfl)) rfl ?_
  refine ⟨⟨_, _, _, _, _, _, rfl, ?_⟩, ((HB1.out.trans (HB2.out.mono (by omega))).setCell (Nat.le_refl _) _).setCell (Nat.le_refl _) _⟩
  have hf := ((HX.out.fr (((Fr.refl W.heap.size (W.heap.size + 1) w2).setCell (p := ⟨W.heap.size, 0, none⟩) ⟨Nat.le_refl _, Nat.lt_succ_self _⟩ (.slice A1 n1 d1)).setCell (p := ⟨W.heap.size, 1, none⟩) ⟨Nat.le_refl _, Nat.lt_succ_self _⟩ (.slice A2 n2 d2)) (by omega)).wide (lo' := W.heap.size) (by omega))
  have e : (((w2.setCell ⟨W.heap.size, 0, none⟩ (.slice A1 n1 d1)).setCell ⟨W.heap.size, 1, none⟩ (.slice A2 n2 d2))).heap.size = w2.heap.size := by simp [World.setCell]
  rw [e]
  exact hf
set_option maxHeartbeats 2000000 in
theorem law_FnExactExecOf {u v : Value} {p : List (List Ins)} {o : List Int} {w : World} (hu : SlSl Ins.cells 4 w 0 w.heap.size u p) (hv : Sl int1 1 w 0 w.heap.size v o) :
  Calls Try.prog 6 #[u, v] w fun e w' => e = .returned (.bool true) ∧ Below w.heap.size w w' := by
 have hv' := hv
 obtain ⟨A, ca, rfl, hca, hma, hA⟩ := hv'.ints
 clear hA hma hca
 have RP := Lib.hid hu; clear hu
 have RO := Lib.hid hv; clear hv
 have G := Lib.hid (Below.refl w.heap.size w)
 by_cases hlo : (o.length : Int) > 1048576
 ·go_enter Try.func6, Try.ntmps6
  go_wp2_with fail
  go_ret
  exact ⟨rfl, G.out⟩
 have hol : o.length ≤ 1048576 := by omega
 go_enter Try.func6, Try.ntmps6
 go_wp2_with fail
 refine (szInstrSS_any RP.out).mono ?_
 rintro e w1 ⟨⟨r, rfl, hr⟩, hb1⟩
 have s1 := hb1.size
 replace RP := Lib.hid (RP.out.below hb1 (by omega))
 replace RO := Lib.hid (RO.out.below hb1 (by omega))
 replace G := Lib.hid (G.out.trans (hb1.mono G.out.size))
 rcases hr with hr | ⟨hr0, hsz⟩
 ·go_wp2_with fail
  go_ret
  exact ⟨rfl, G.out⟩
 have hr1 : ¬ r < 0 := by omega
 have ht : total p ≤ 1048576 := by omega
 have hpl : p.length ≤ 1048576 := by omega
 clear hr0 hsz
 obtain ⟨q, bb, hR, hE, hS, hEB, hz1, hz2⟩ := ex_all (p := ofP p) (s := o) ⟨by unfold ofP; rw [List.length_map]; exact hpl, by unfold ofP; rw [total_map]; exact ht⟩ hol
 generalize hx : exOf (ofP p) o bb = x at hE hS hEB hz1 hz2
 have HIM := Lib.hid (fun (W : World) lo hi a (h : SlSl Ins.cells 4 W lo hi a p) (k : hi ≤ W.heap.size) lo' hi' c (h' : Sl int1 1 W lo' hi' c o) (k' : hi' ≤ W.heap.size) => implEx (x := x) (W := W) k k' hR hE (fun hb => hx ▸ by subst hb; rfl) h h')
 have HSP := Lib.hid (fun (W : World) lo hi a (h : SlSl Ins.cells 4 W lo hi a p) lo' hi' c (h' : Sl int1 1 W lo' hi' c o) => specEx (W := W) hS h h')
 have HEB := Lib.hid hEB; clear hEB hE hS hR hx
 have d1 : (bb == bb) = true := by simp
 have d2 : decide (p = p) = true := by simp
 have d3 : decide (o = o) = true := by simp
 have d6 : (bb != bb) = false := by simp
 go_wp2_with fail
 refine (toInstrSS_any RP.out (by omega) hpl ht).mono ?_
 rintro e w2 ⟨⟨t2, rfl, hT2⟩, hb2⟩
 have T2 := Lib.hid hT2; clear hT2
 have s2 := hb2.size
 replace RP := Lib.hid (RP.out.below hb2 (by omega))
 replace RO := Lib.hid (RO.out.below hb2 (by omega))
 replace G := Lib.hid (G.out.trans (hb2.mono G.out.size))
 go_wp2_with fail
 refine (toIntS_any RO.out hol).mono ?_
 rintro e w3 ⟨⟨t3, rfl, hT3⟩, hb3⟩
 have T3 := Lib.hid hT3; clear hT3
 have s3 := hb3.size
 replace RP := Lib.hid (RP.out.below hb3 (by omega))
 replace RO := Lib.hid (RO.out.below hb3 (by omega))
 replace T2 := Lib.hid (T2.out.below hb3 (by omega))
 replace G := Lib.hid (G.out.trans (hb3.mono G.out.size))
 go_wp2_with fail
 refine (HSP.out _ _ _ _ T2.out.sl _ _ _ T3.out.sl).mono ?_
 rintro e w4 ⟨⟨a0, b0, c0, d0, e0, f0, rfl, hV0⟩, hb4⟩
 have V0 := Lib.hid hV0; clear hV0
 have s4 := hb4.size
 replace RP := Lib.hid (RP.out.below hb4 (by omega))
 replace RO := Lib.hid (RO.out.below hb4 (by omega))
 replace T2 := Lib.hid (T2.out.below hb4 (by omega))
 replace T3 := Lib.hid (T3.out.below hb4 (by omega))
 replace G := Lib.hid (G.out.trans (hb4.mono G.out.size))
 clear T2
 clear T3
 go_wp2_with fail
 obtain ⟨w5, hw5⟩ : ∃ x, x = w4.alloc (Obj.cells #[.slice a0 b0 c0, .slice d0 e0 f0] 43) := ⟨_, rfl⟩
 rw [← hw5]
 have hb5 : Below w4.heap.size w4 w5 := hw5 ▸ (Below.refl _ _).alloc (Nat.le_refl _) _
 have LW := Lib.hid (show Blk w5 w4.heap.size 43 #[.slice a0 b0 c0, .slice d0 e0 f0] from hw5 ▸ Blk.new _ _ _)
 clear hw5
 have s5 := hb5.size
 have sl5 := Blk.lt LW.out
 replace RP := Lib.hid (RP.out.below hb5 (by omega))
 replace RO := Lib.hid (RO.out.below hb5 (by omega))
 replace V0 := Lib.hid (V0.out.below hb5 (by omega))
 replace G := Lib.hid (G.out.trans (hb5.mono G.out.size))
 have LW0 : w5.cell? ⟨w4.heap.size, 0, none⟩ = some (.slice a0 b0 c0) := Blk.cell LW.out 0
 have LW1 : w5.cell? ⟨w4.heap.size, 1, none⟩ = some (.slice d0 e0 f0) := Blk.cell LW.out 1
 have LW2 := Blk.frozen LW.out 0
 have LW3 := Blk.frozen LW.out 1
 have LW4 : ∀ ob : Obj, (w5.alloc ob).cell? ⟨w4.heap.size, 0, none⟩ = some (.slice a0 b0 c0) := fun ob => Blk.cell (Blk.alloc LW.out ob) 0
 have LW5 : ∀ ob : Obj, (w5.alloc ob).cell? ⟨w4.heap.size, 1, none⟩ = some (.slice d0 e0 f0) := fun ob => Blk.cell (Blk.alloc LW.out ob) 1
 try (go_wp2_with fail)
 clear LW0 LW1 LW2 LW3 LW4 LW5
 refine (toInstrSS_any RP.out (by omega) hpl ht).mono ?_
 rintro e w6 ⟨⟨x0, rfl, hX0⟩, hb6⟩
 have X0 := Lib.hid hX0; clear hX0
 have s6 := hb6.size
 replace RP := Lib.hid (RP.out.below hb6 (by omega))
 replace RO := Lib.hid (RO.out.below hb6 (by omega))
 replace V0 := Lib.hid (V0.out.below hb6 (by omega))
 replace LW := Lib.hid (LW.out.below hb6 (by omega))
 replace G := Lib.hid (G.out.trans (hb6.mono G.out.size))
 have LW0 : w6.cell? ⟨w4.heap.size, 0, none⟩ = some (.slice a0 b0 c0) := Blk.cell LW.out 0
 have LW1 : w6.cell? ⟨w4.heap.size, 1, none⟩ = some (.slice d0 e0 f0) := Blk.cell LW.out 1
 have LW2 := Blk.frozen LW.out 0
 have LW3 := Blk.frozen LW.out 1
 have LW4 : ∀ ob : Obj, (w6.alloc ob).cell? ⟨w4.heap.size, 0, none⟩ = some (.slice a0 b0 c0) := fun ob => Blk.cell (Blk.alloc LW.out ob) 0
 have LW5 : ∀ ob : Obj, (w6.alloc ob).cell? ⟨w4.heap.size, 1, none⟩ = some (.slice d0 e0 f0) := fun ob => Blk.cell (Blk.alloc LW.out ob) 1
 go_wp2_with fail
 clear LW0 LW1 LW2 LW3 LW4 LW5
 refine (toIntS_any RO.out hol).mono ?_
 rintro e w7 ⟨⟨x1, rfl, hX1⟩, hb7⟩
 have X1 := Lib.hid hX1; clear hX1
 have s7 := hb7.size
 replace RP := Lib.hid (RP.out.below hb7 (by omega))
 replace RO := Lib.hid (RO.out.below hb7 (by omega))
 replace V0 := Lib.hid (V0.out.below hb7 (by omega))
 replace LW := Lib.hid (LW.out.below hb7 (by omega))
 replace X0 := Lib.hid (X0.out.below hb7 (by omega))
 replace G := Lib.hid (G.out.trans (hb7.mono G.out.size))
 have LW0 : w7.cell? ⟨w4.heap.size, 0, none⟩ = some (.slice a0 b0 c0) := Blk.cell LW.out 0
 have LW1 : w7.cell? ⟨w4.heap.size, 1, none⟩ = some (.slice d0 e0 f0) := Blk.cell LW.out 1
 have LW2 := Blk.frozen LW.out 0
 have LW3 := Blk.frozen LW.out 1
 have LW4 : ∀ ob : Obj, (w7.alloc ob).cell? ⟨w4.heap.size, 0, none⟩ = some (.slice a0 b0 c0) := fun ob => Blk.cell (Blk.alloc LW.out ob) 0
 have LW5 : ∀ ob : Obj, (w7.alloc ob).cell? ⟨w4.heap.size, 1, none⟩ = some (.slice d0 e0 f0) := fun ob => Blk.cell (Blk.alloc LW.out ob) 1
 go_wp2_with fail
 clear LW0 LW1 LW2 LW3 LW4 LW5
 refine (HIM.out _ _ _ _ X0.out.sl (by omega) _ _ _ X1.out.sl (by omega)).mono ?_
 rintro e w8 ⟨⟨a1, b1, c1, d1, e1, f1, rfl, hG0⟩, hb8⟩
 have G0 := Lib.hid hG0; clear hG0
 have s8 := hb8.size
 replace RP := Lib.hid (RP.out.below hb8 (by omega))
 replace RO := Lib.hid (RO.out.below hb8 (by omega))
 replace V0 := Lib.hid (V0.out.below hb8 (by omega))
 replace LW := Lib.hid (LW.out.below hb8 (by omega))
 replace X0 := Lib.hid (X0.out.below hb8 (by omega))
 replace X1 := Lib.hid (X1.out.below hb8 (by omega))
 replace G := Lib.hid (G.out.trans (hb8.mono G.out.size))
 have LW0 : w8.cell? ⟨w4.heap.size, 0, none⟩ = some (.slice a0 b0 c0) := Blk.cell LW.out 0
 have LW1 : w8.cell? ⟨w4.heap.size, 1, none⟩ = some (.slice d0 e0 f0) := Blk.cell LW.out 1
 have LW2 := Blk.frozen LW.out 0
 have LW3 := Blk.frozen LW.out 1
 have LW4 : ∀ ob : Obj, (w8.alloc ob).cell? ⟨w4.heap.size, 0, none⟩ = some (.slice a0 b0 c0) := fun ob => Blk.cell (Blk.alloc LW.out ob) 0
 have LW5 : ∀ ob : Obj, (w8.alloc ob).cell? ⟨w4.heap.size, 1, none⟩ = some (.slice d0 e0 f0) := fun ob => Blk.cell (Blk.alloc LW.out ob) 1
 go_wp2_with fail
 clear LW0 LW1 LW2 LW3 LW4 LW5
 obtain ⟨w9, hw9⟩ : ∃ x, x = w8.alloc (Obj.cells #[.slice a1 b1 c1, .slice d1 e1 f1] 43) := ⟨_, rfl⟩
 rw [← hw9]
 have hb9 : Below w8.heap.size w8 w9 := hw9 ▸ (Below.refl _ _).alloc (Nat.le_refl _) _
 have LG := Lib.hid (show Blk w9 w8.heap.size 43 #[.slice a1 b1 c1, .slice d1 e1 f1] from hw9 ▸ Blk.new _ _ _)
 clear hw9
 have s9 := hb9.size
 have sl9 := Blk.lt LG.out
 replace RP := Lib.hid (RP.out.below hb9 (by omega))
 replace RO := Lib.hid (RO.out.below hb9 (by omega))
 replace V0 := Lib.hid (V0.out.below hb9 (by omega))
 replace LW := Lib.hid (LW.out.below hb9 (by omega))
 replace X0 := Lib.hid (X0.out.below hb9 (by omega))
 replace X1 := Lib.hid (X1.out.below hb9 (by omega))
 replace G0 := Lib.hid (G0.out.below hb9 (by omega))
 replace G := Lib.hid (G.out.trans (hb9.mono G.out.size))
 have LW0 : w9.cell? ⟨w4.heap.size, 0, none⟩ = some (.slice a0 b0 c0) := Blk.cell LW.out 0
 have LW1 : w9.cell? ⟨w4.heap.size, 1, none⟩ = some (.slice d0 e0 f0) := Blk.cell LW.out 1
 have LW2 := Blk.frozen LW.out 0
 have LW3 := Blk.frozen LW.out 1
 have LW4 : ∀ ob : Obj, (w9.alloc ob).cell? ⟨w4.heap.size, 0, none⟩ = some (.slice a0 b0 c0) := fun ob => Blk.cell (Blk.alloc LW.out ob) 0
 have LW5 : ∀ ob : Obj, (w9.alloc ob).cell? ⟨w4.heap.size, 1, none⟩ = some (.slice d0 e0 f0) := fun ob => Blk.cell (Blk.alloc LW.out ob) 1
 have LG0 : w9.cell? ⟨w8.heap.size, 0, none⟩ = some (.slice a1 b1 c1) := Blk.cell LG.out 0
 have LG1 : w9.cell? ⟨w8.heap.size, 1, none⟩ = some (.slice d1 e1 f1) := Blk.cell LG.out 1
 have LG2 := Blk.frozen LG.out 0
 have LG3 := Blk.frozen LG.out 1
 have LG4 : ∀ ob : Obj, (w9.alloc ob).cell? ⟨w8.heap.size, 0, none⟩ = some (.slice a1 b1 c1) := fun ob => Blk.cell (Blk.alloc LG.out ob) 0
 have LG5 : ∀ ob : Obj, (w9.alloc ob).cell? ⟨w8.heap.size, 1, none⟩ = some (.slice d1 e1 f1) := fun ob => Blk.cell (Blk.alloc LG.out ob) 1
 try (go_wp2_with fail)
 clear LW0 LW1 LW2 LW3 LW4 LW5
 clear LG0 LG1 LG2 LG3 LG4 LG5
 refine (eqEx HEB.out G0.out.slX V0.out).mono ?_
 rintro e w10 ⟨rfl, hb10⟩
 have s10 := hb10.size
 replace RP := Lib.hid (RP.out.below hb10 (by omega))
 replace RO := Lib.hid (RO.out.below hb10 (by omega))
 replace V0 := Lib.hid (V0.out.below hb10 (by omega))
 replace LW := Lib.hid (LW.out.below hb10 (by omega))
 replace X0 := Lib.hid (X0.out.below hb10 (by omega))
 replace X1 := Lib.hid (X1.out.below hb10 (by omega))
 replace G0 := Lib.hid (G0.out.below hb10 (by omega))
 replace LG := Lib.hid (LG.out.below hb10 (by omega))
 replace G := Lib.hid (G.out.trans (hb10.mono G.out.size))
 have LW0 : w10.cell? ⟨w4.heap.size, 0, none⟩ = some (.slice a0 b0 c0) := Blk.cell LW.out 0
 have LW1 : w10.cell? ⟨w4.heap.size, 1, none⟩ = some (.slice d0 e0 f0) := Blk.cell LW.out 1
 have LW2 := Blk.frozen LW.out 0
 have LW3 := Blk.frozen LW.out 1
 have LW4 : ∀ ob : Obj, (w10.alloc ob).cell? ⟨w4.heap.size, 0, none⟩ = some (.slice a0 b0 c0) := fun ob => Blk.cell (Blk.alloc LW.out ob) 0
 have LW5 : ∀ ob : Obj, (w10.alloc ob).cell? ⟨w4.heap.size, 1, none⟩ = some (.slice d0 e0 f0) := fun ob => Blk.cell (Blk.alloc LW.out ob) 1
 have LG0 : w10.cell? ⟨w8.heap.size, 0, none⟩ = some (.slice a1 b1 c1) := Blk.cell LG.out 0
 have LG1 : w10.cell? ⟨w8.heap.size, 1, none⟩ = some (.slice d1 e1 f1) := Blk.cell LG.out 1
 have LG2 := Blk.frozen LG.out 0
 have LG3 := Blk.frozen LG.out 1
 have LG4 : ∀ ob : Obj, (w10.alloc ob).cell? ⟨w8.heap.size, 0, none⟩ = some (.slice a1 b1 c1) := fun ob => Blk.cell (Blk.alloc LG.out ob) 0
 have LG5 : ∀ ob : Obj, (w10.alloc ob).cell? ⟨w8.heap.size, 1, none⟩ = some (.slice d1 e1 f1) := fun ob => Blk.cell (Blk.alloc LG.out ob) 1
 go_wp2_with fail
 clear LW0 LW1 LW2 LW3 LW4 LW5
 clear LG0 LG1 LG2 LG3 LG4 LG5
 refine (toInstrSS_any RP.out (by omega) hpl ht).mono ?_
 rintro e w11 ⟨⟨y0, rfl, hY0⟩, hb11⟩
 have Y0 := Lib.hid hY0; clear hY0
 have s11 := hb11.size
 replace RP := Lib.hid (RP.out.below hb11 (by omega))
 replace RO := Lib.hid (RO.out.below hb11 (by omega))
 replace V0 := Lib.hid (V0.out.below hb11 (by omega))
 replace LW := Lib.hid (LW.out.below hb11 (by omega))
 replace X0 := Lib.hid (X0.out.below hb11 (by omega))
 replace X1 := Lib.hid (X1.out.below hb11 (by omega))
 replace G0 := Lib.hid (G0.out.below hb11 (by omega))
 replace LG := Lib.hid (LG.out.below hb11 (by omega))
 replace G := Lib.hid (G.out.trans (hb11.mono G.out.size))
 have LW0 : w11.cell? ⟨w4.heap.size, 0, none⟩ = some (.slice a0 b0 c0) := Blk.cell LW.out 0
 have LW1 : w11.cell? ⟨w4.heap.size, 1, none⟩ = some (.slice d0 e0 f0) := Blk.cell LW.out 1
 have LW2 := Blk.frozen LW.out 0
 have LW3 := Blk.frozen LW.out 1
 have LW4 : ∀ ob : Obj, (w11.alloc ob).cell? ⟨w4.heap.size, 0, none⟩ = some (.slice a0 b0 c0) := fun ob => Blk.cell (Blk.alloc LW.out ob) 0
 have LW5 : ∀ ob : Obj, (w11.alloc ob).cell? ⟨w4.heap.size, 1, none⟩ = some (.slice d0 e0 f0) := fun ob => Blk.cell (Blk.alloc LW.out ob) 1
 have LG0 : w11.cell? ⟨w8.heap.size, 0, none⟩ = some (.slice a1 b1 c1) := Blk.cell LG.out 0
 have LG1 : w11.cell? ⟨w8.heap.size, 1, none⟩ = some (.slice d1 e1 f1) := Blk.cell LG.out 1
 have LG2 := Blk.frozen LG.out 0
 have LG3 := Blk.frozen LG.out 1
 have LG4 : ∀ ob : Obj, (w11.alloc ob).cell? ⟨w8.heap.size, 0, none⟩ = some (.slice a1 b1 c1) := fun ob => Blk.cell (Blk.alloc LG.out ob) 0
 have LG5 : ∀ ob : Obj, (w11.alloc ob).cell? ⟨w8.heap.size, 1, none⟩ = some (.slice d1 e1 f1) := fun ob => Blk.cell (Blk.alloc LG.out ob) 1
 go_wp2_with fail
 clear LW0 LW1 LW2 LW3 LW4 LW5
 clear LG0 LG1 LG2 LG3 LG4 LG5
 refine (eqInstrSS_any X0.out.sl Y0.out.sl (by omega) (by omega)).mono ?_
 rintro e w12 ⟨rfl, hb12⟩
 have s12 := hb12.size
 replace RP := Lib.hid (RP.out.below hb12 (by omega))
 replace RO := Lib.hid (RO.out.below hb12 (by omega))
 replace V0 := Lib.hid (V0.out.below hb12 (by omega))
 replace LW := Lib.hid (LW.out.below hb12 (by omega))
 replace X0 := Lib.hid (X0.out.below hb12 (by omega))
 replace X1 := Lib.hid (X1.out.below hb12 (by omega))
 replace G0 := Lib.hid (G0.out.below hb12 (by omega))
 replace LG := Lib.hid (LG.out.below hb12 (by omega))
 replace Y0 := Lib.hid (Y0.out.below hb12 (by omega))
 replace G := Lib.hid (G.out.trans (hb12.mono G.out.size))
 clear Y0
 have LW0 : w12.cell? ⟨w4.heap.size, 0, none⟩ = some (.slice a0 b0 c0) := Blk.cell LW.out 0
 have LW1 : w12.cell? ⟨w4.heap.size, 1, none⟩ = some (.slice d0 e0 f0) := Blk.cell LW.out 1
 have LW2 := Blk.frozen LW.out 0
 have LW3 := Blk.frozen LW.out 1
 have LW4 : ∀ ob : Obj, (w12.alloc ob).cell? ⟨w4.heap.size, 0, none⟩ = some (.slice a0 b0 c0) := fun ob => Blk.cell (Blk.alloc LW.out ob) 0
 have LW5 : ∀ ob : Obj, (w12.alloc ob).cell? ⟨w4.heap.size, 1, none⟩ = some (.slice d0 e0 f0) := fun ob => Blk.cell (Blk.alloc LW.out ob) 1
 have LG0 : w12.cell? ⟨w8.heap.size, 0, none⟩ = some (.slice a1 b1 c1) := Blk.cell LG.out 0
 have LG1 : w12.cell? ⟨w8.heap.size, 1, none⟩ = some (.slice d1 e1 f1) := Blk.cell LG.out 1
 have LG2 := Blk.frozen LG.out 0
 have LG3 := Blk.frozen LG.out 1
 have LG4 : ∀ ob : Obj, (w12.alloc ob).cell? ⟨w8.heap.size, 0, none⟩ = some (.slice a1 b1 c1) := fun ob => Blk.cell (Blk.alloc LG.out ob) 0
 have LG5 : ∀ ob : Obj, (w12.alloc ob).cell? ⟨w8.heap.size, 1, none⟩ = some (.slice d1 e1 f1) := fun ob => Blk.cell (Blk.alloc LG.out ob) 1
 go_wp2_with fail
 clear LW0 LW1 LW2 LW3 LW4 LW5
 clear LG0 LG1 LG2 LG3 LG4 LG5
 refine (toIntS_any RO.out hol).mono ?_
 rintro e w13 ⟨⟨y1, rfl, hY1⟩, hb13⟩
 have Y1 := Lib.hid hY1; clear hY1
 have s13 := hb13.size
 replace RP := Lib.hid (RP.out.below hb13 (by omega))
 replace RO := Lib.hid (RO.out.below hb13 (by omega))
 replace V0 := Lib.hid (V0.out.below hb13 (by omega))
 replace LW := Lib.hid (LW.out.below hb13 (by omega))
 replace X0 := Lib.hid (X0.out.below hb13 (by omega))
 replace X1 := Lib.hid (X1.out.below hb13 (by omega))
 replace G0 := Lib.hid (G0.out.below hb13 (by omega))
 replace LG := Lib.hid (LG.out.below hb13 (by omega))
 replace G := Lib.hid (G.out.trans (hb13.mono G.out.size))
 have LW0 : w13.cell? ⟨w4.heap.size, 0, none⟩ = some (.slice a0 b0 c0) := Blk.cell LW.out 0
 have LW1 : w13.cell? ⟨w4.heap.size, 1, none⟩ = some (.slice d0 e0 f0) := Blk.cell LW.out 1
 have LW2 := Blk.frozen LW.out 0
 have LW3 := Blk.frozen LW.out 1
 have LW4 : ∀ ob : Obj, (w13.alloc ob).cell? ⟨w4.heap.size, 0, none⟩ = some (.slice a0 b0 c0) := fun ob => Blk.cell (Blk.alloc LW.out ob) 0
 have LW5 : ∀ ob : Obj, (w13.alloc ob).cell? ⟨w4.heap.size, 1, none⟩ = some (.slice d0 e0 f0) := fun ob => Blk.cell (Blk.alloc LW.out ob) 1
 have LG0 : w13.cell? ⟨w8.heap.size, 0, none⟩ = some (.slice a1 b1 c1) := Blk.cell LG.out 0
 have LG1 : w13.cell? ⟨w8.heap.size, 1, none⟩ = some (.slice d1 e1 f1) := Blk.cell LG.out 1
 have LG2 := Blk.frozen LG.out 0
 have LG3 := Blk.frozen LG.out 1
 have LG4 : ∀ ob : Obj, (w13.alloc ob).cell? ⟨w8.heap.size, 0, none⟩ = some (.slice a1 b1 c1) := fun ob => Blk.cell (Blk.alloc LG.out ob) 0
 have LG5 : ∀ ob : Obj, (w13.alloc ob).cell? ⟨w8.heap.size, 1, none⟩ = some (.slice d1 e1 f1) := fun ob => Blk.cell (Blk.alloc LG.out ob) 1
 go_wp2_with fail
 clear LW0 LW1 LW2 LW3 LW4 LW5
 clear LG0 LG1 LG2 LG3 LG4 LG5
 refine (eqIntS_any X1.out.sl Y1.out.sl).mono ?_
 rintro e w14 ⟨rfl, hb14⟩
 have s14 := hb14.size
 replace RP := Lib.hid (RP.out.below hb14 (by omega))
 replace RO := Lib.hid (RO.out.below hb14 (by omega))
 replace V0 := Lib.hid (V0.out.below hb14 (by omega))
 replace LW := Lib.hid (LW.out.below hb14 (by omega))
 replace X0 := Lib.hid (X0.out.below hb14 (by omega))
 replace X1 := Lib.hid (X1.out.below hb14 (by omega))
 replace G0 := Lib.hid (G0.out.below hb14 (by omega))
 replace LG := Lib.hid (LG.out.below hb14 (by omega))
 replace Y1 := Lib.hid (Y1.out.below hb14 (by omega))
 replace G := Lib.hid (G.out.trans (hb14.mono G.out.size))
 clear Y1
 have LW0 : w14.cell? ⟨w4.heap.size, 0, none⟩ = some (.slice a0 b0 c0) := Blk.cell LW.out 0
 have LW1 : w14.cell? ⟨w4.heap.size, 1, none⟩ = some (.slice d0 e0 f0) := Blk.cell LW.out 1
 have LW2 := Blk.frozen LW.out 0
 have LW3 := Blk.frozen LW.out 1
 have LW4 : ∀ ob : Obj, (w14.alloc ob).cell? ⟨w4.heap.size, 0, none⟩ = some (.slice a0 b0 c0) := fun ob => Blk.cell (Blk.alloc LW.out ob) 0
 have LW5 : ∀ ob : Obj, (w14.alloc ob).cell? ⟨w4.heap.size, 1, none⟩ = some (.slice d0 e0 f0) := fun ob => Blk.cell (Blk.alloc LW.out ob) 1
 have LG0 : w14.cell? ⟨w8.heap.size, 0, none⟩ = some (.slice a1 b1 c1) := Blk.cell LG.out 0
 have LG1 : w14.cell? ⟨w8.heap.size, 1, none⟩ = some (.slice d1 e1 f1) := Blk.cell LG.out 1
 have LG2 := Blk.frozen LG.out 0
 have LG3 := Blk.frozen LG.out 1
 have LG4 : ∀ ob : Obj, (w14.alloc ob).cell? ⟨w8.heap.size, 0, none⟩ = some (.slice a1 b1 c1) := fun ob => Blk.cell (Blk.alloc LG.out ob) 0
 have LG5 : ∀ ob : Obj, (w14.alloc ob).cell? ⟨w8.heap.size, 1, none⟩ = some (.slice d1 e1 f1) := fun ob => Blk.cell (Blk.alloc LG.out ob) 1
 go_wp2_with fail
 clear LW0 LW1 LW2 LW3 LW4 LW5
 clear LG0 LG1 LG2 LG3 LG4 LG5
 refine (markInstrSS_any X0.out (by decide) (by omega) (by omega) (by omega)).mono ?_
 rintro e w15 ⟨rfl, _, hb15⟩
 have s15 := hb15.size
 replace RP := Lib.hid (RP.out.fr hb15 (by omega))
 replace RO := Lib.hid (RO.out.fr hb15 (by omega))
 replace V0 := Lib.hid (V0.out.fr hb15 (by omega))
 replace LW := Lib.hid (LW.out.fr hb15 (by omega))
 replace X1 := Lib.hid (X1.out.fr hb15 (by omega))
 replace G0 := Lib.hid (G0.out.fr hb15 (by omega))
 replace LG := Lib.hid (LG.out.fr hb15 (by omega))
 replace G := Lib.hid (G.out.trans (hb15.below (by omega) G.out.size))
 have LW0 : w15.cell? ⟨w4.heap.size, 0, none⟩ = some (.slice a0 b0 c0) := Blk.cell LW.out 0
 have LW1 : w15.cell? ⟨w4.heap.size, 1, none⟩ = some (.slice d0 e0 f0) := Blk.cell LW.out 1
 have LW2 := Blk.frozen LW.out 0
 have LW3 := Blk.frozen LW.out 1
 have LW4 : ∀ ob : Obj, (w15.alloc ob).cell? ⟨w4.heap.size, 0, none⟩ = some (.slice a0 b0 c0) := fun ob => Blk.cell (Blk.alloc LW.out ob) 0
 have LW5 : ∀ ob : Obj, (w15.alloc ob).cell? ⟨w4.heap.size, 1, none⟩ = some (.slice d0 e0 f0) := fun ob => Blk.cell (Blk.alloc LW.out ob) 1
 have LG0 : w15.cell? ⟨w8.heap.size, 0, none⟩ = some (.slice a1 b1 c1) := Blk.cell LG.out 0
 have LG1 : w15.cell? ⟨w8.heap.size, 1, none⟩ = some (.slice d1 e1 f1) := Blk.cell LG.out 1
 have LG2 := Blk.frozen LG.out 0
 have LG3 := Blk.frozen LG.out 1
 have LG4 : ∀ ob : Obj, (w15.alloc ob).cell? ⟨w8.heap.size, 0, none⟩ = some (.slice a1 b1 c1) := fun ob => Blk.cell (Blk.alloc LG.out ob) 0
 have LG5 : ∀ ob : Obj, (w15.alloc ob).cell? ⟨w8.heap.size, 1, none⟩ = some (.slice d1 e1 f1) := fun ob => Blk.cell (Blk.alloc LG.out ob) 1
 go_wp2_with fail
 clear LW0 LW1 LW2 LW3 LW4 LW5
 clear LG0 LG1 LG2 LG3 LG4 LG5
 refine (markIntS_any X1.out (by omega) (by omega)).mono ?_
 rintro e w16 ⟨rfl, _, hb16⟩
 have s16 := hb16.size
 replace RP := Lib.hid (RP.out.fr hb16 (by omega))
 replace RO := Lib.hid (RO.out.fr hb16 (by omega))
 replace V0 := Lib.hid (V0.out.fr hb16 (by omega))
 replace LW := Lib.hid (LW.out.fr hb16 (by omega))
 replace G0 := Lib.hid (G0.out.fr hb16 (by omega))
 replace LG := Lib.hid (LG.out.fr hb16 (by omega))
 replace G := Lib.hid (G.out.trans (hb16.below (by omega) G.out.size))
 have d4 : ¬ (1 + 4 * (total p : Int) + (o.length : Int)) < 0 := by omega
 have LW0 : w16.cell? ⟨w4.heap.size, 0, none⟩ = some (.slice a0 b0 c0) := Blk.cell LW.out 0
 have LW1 : w16.cell? ⟨w4.heap.size, 1, none⟩ = some (.slice d0 e0 f0) := Blk.cell LW.out 1
 have LW2 := Blk.frozen LW.out 0
 have LW3 := Blk.frozen LW.out 1
 have LW4 : ∀ ob : Obj, (w16.alloc ob).cell? ⟨w4.heap.size, 0, none⟩ = some (.slice a0 b0 c0) := fun ob => Blk.cell (Blk.alloc LW.out ob) 0
 have LW5 : ∀ ob : Obj, (w16.alloc ob).cell? ⟨w4.heap.size, 1, none⟩ = some (.slice d0 e0 f0) := fun ob => Blk.cell (Blk.alloc LW.out ob) 1
 have LG0 : w16.cell? ⟨w8.heap.size, 0, none⟩ = some (.slice a1 b1 c1) := Blk.cell LG.out 0
 have LG1 : w16.cell? ⟨w8.heap.size, 1, none⟩ = some (.slice d1 e1 f1) := Blk.cell LG.out 1
 have LG2 := Blk.frozen LG.out 0
 have LG3 := Blk.frozen LG.out 1
 have LG4 : ∀ ob : Obj, (w16.alloc ob).cell? ⟨w8.heap.size, 0, none⟩ = some (.slice a1 b1 c1) := fun ob => Blk.cell (Blk.alloc LG.out ob) 0
 have LG5 : ∀ ob : Obj, (w16.alloc ob).cell? ⟨w8.heap.size, 1, none⟩ = some (.slice d1 e1 f1) := fun ob => Blk.cell (Blk.alloc LG.out ob) 1
 go_wp2_with fail
 clear LW0 LW1 LW2 LW3 LW4 LW5
 clear LG0 LG1 LG2 LG3 LG4 LG5
 refine (eqEx HEB.out G0.out.slX V0.out).mono ?_
 rintro e w17 ⟨rfl, hb17⟩
 have s17 := hb17.size
 replace RP := Lib.hid (RP.out.below hb17 (by omega))
 replace RO := Lib.hid (RO.out.below hb17 (by omega))
 replace V0 := Lib.hid (V0.out.below hb17 (by omega))
 replace LW := Lib.hid (LW.out.below hb17 (by omega))
 replace G0 := Lib.hid (G0.out.below hb17 (by omega))
 replace LG := Lib.hid (LG.out.below hb17 (by omega))
 replace G := Lib.hid (G.out.trans (hb17.mono G.out.size))
 have LW0 : w17.cell? ⟨w4.heap.size, 0, none⟩ = some (.slice a0 b0 c0) := Blk.cell LW.out 0
 have LW1 : w17.cell? ⟨w4.heap.size, 1, none⟩ = some (.slice d0 e0 f0) := Blk.cell LW.out 1
 have LW2 := Blk.frozen LW.out 0
 have LW3 := Blk.frozen LW.out 1
 have LW4 : ∀ ob : Obj, (w17.alloc ob).cell? ⟨w4.heap.size, 0, none⟩ = some (.slice a0 b0 c0) := fun ob => Blk.cell (Blk.alloc LW.out ob) 0
 have LW5 : ∀ ob : Obj, (w17.alloc ob).cell? ⟨w4.heap.size, 1, none⟩ = some (.slice d0 e0 f0) := fun ob => Blk.cell (Blk.alloc LW.out ob) 1
 have LG0 : w17.cell? ⟨w8.heap.size, 0, none⟩ = some (.slice a1 b1 c1) := Blk.cell LG.out 0
 have LG1 : w17.cell? ⟨w8.heap.size, 1, none⟩ = some (.slice d1 e1 f1) := Blk.cell LG.out 1
 have LG2 := Blk.frozen LG.out 0
 have LG3 := Blk.frozen LG.out 1
 have LG4 : ∀ ob : Obj, (w17.alloc ob).cell? ⟨w8.heap.size, 0, none⟩ = some (.slice a1 b1 c1) := fun ob => Blk.cell (Blk.alloc LG.out ob) 0
 have LG5 : ∀ ob : Obj, (w17.alloc ob).cell? ⟨w8.heap.size, 1, none⟩ = some (.slice d1 e1 f1) := fun ob => Blk.cell (Blk.alloc LG.out ob) 1
 go_wp2_with fail
 clear LW0 LW1 LW2 LW3 LW4 LW5
 clear LG0 LG1 LG2 LG3 LG4 LG5
 refine (markExec_any G0.out (by decide) (by omega) (by omega)).mono ?_
 rintro e w18 ⟨rfl, hM0, hb18⟩
 have M0 := Lib.hid hM0; clear hM0
 have s18 := hb18.size
 replace RP := Lib.hid (RP.out.fr hb18 (by omega))
 replace RO := Lib.hid (RO.out.fr hb18 (by omega))
 replace V0 := Lib.hid (V0.out.fr hb18 (by omega))
 replace LW := Lib.hid (LW.out.fr hb18 (by omega))
 replace LG := Lib.hid (LG.out.fr hb18 (by omega))
 replace G := Lib.hid (G.out.trans (hb18.below (by omega) G.out.size))
 have LW0 : w18.cell? ⟨w4.heap.size, 0, none⟩ = some (.slice a0 b0 c0) := Blk.cell LW.out 0
 have LW1 : w18.cell? ⟨w4.heap.size, 1, none⟩ = some (.slice d0 e0 f0) := Blk.cell LW.out 1
 have LW2 := Blk.frozen LW.out 0
 have LW3 := Blk.frozen LW.out 1
 have LW4 : ∀ ob : Obj, (w18.alloc ob).cell? ⟨w4.heap.size, 0, none⟩ = some (.slice a0 b0 c0) := fun ob => Blk.cell (Blk.alloc LW.out ob) 0
 have LW5 : ∀ ob : Obj, (w18.alloc ob).cell? ⟨w4.heap.size, 1, none⟩ = some (.slice d0 e0 f0) := fun ob => Blk.cell (Blk.alloc LW.out ob) 1
 have LG0 : w18.cell? ⟨w8.heap.size, 0, none⟩ = some (.slice a1 b1 c1) := Blk.cell LG.out 0
 have LG1 : w18.cell? ⟨w8.heap.size, 1, none⟩ = some (.slice d1 e1 f1) := Blk.cell LG.out 1
 have LG2 := Blk.frozen LG.out 0
 have LG3 := Blk.frozen LG.out 1
 have LG4 : ∀ ob : Obj, (w18.alloc ob).cell? ⟨w8.heap.size, 0, none⟩ = some (.slice a1 b1 c1) := fun ob => Blk.cell (Blk.alloc LG.out ob) 0
 have LG5 : ∀ ob : Obj, (w18.alloc ob).cell? ⟨w8.heap.size, 1, none⟩ = some (.slice d1 e1 f1) := fun ob => Blk.cell (Blk.alloc LG.out ob) 1
 go_wp2_with fail
 clear LW0 LW1 LW2 LW3 LW4 LW5
 clear LG0 LG1 LG2 LG3 LG4 LG5
 refine (heldEx (by decide) (by omega) (by omega) M0.out.slX).mono ?_
 rintro e w19 ⟨rfl, hb19⟩
 have s19 := hb19.size
 replace RP := Lib.hid (RP.out.below hb19 (by omega))
 replace RO := Lib.hid (RO.out.below hb19 (by omega))
 replace V0 := Lib.hid (V0.out.below hb19 (by omega))
 replace LW := Lib.hid (LW.out.below hb19 (by omega))
 replace LG := Lib.hid (LG.out.below hb19 (by omega))
 replace M0 := Lib.hid (M0.out.below hb19 (by omega))
 replace G := Lib.hid (G.out.trans (hb19.mono G.out.size))
 have d5 : ¬ (1 + (x.From.length : Int) + (total x.Order : Int)) < 0 := by omega
 have LW0 : w19.cell? ⟨w4.heap.size, 0, none⟩ = some (.slice a0 b0 c0) := Blk.cell LW.out 0
 have LW1 : w19.cell? ⟨w4.heap.size, 1, none⟩ = some (.slice d0 e0 f0) := Blk.cell LW.out 1
 have LW2 := Blk.frozen LW.out 0
 have LW3 := Blk.frozen LW.out 1
 have LW4 : ∀ ob : Obj, (w19.alloc ob).cell? ⟨w4.heap.size, 0, none⟩ = some (.slice a0 b0 c0) := fun ob => Blk.cell (Blk.alloc LW.out ob) 0
 have LW5 : ∀ ob : Obj, (w19.alloc ob).cell? ⟨w4.heap.size, 1, none⟩ = some (.slice d0 e0 f0) := fun ob => Blk.cell (Blk.alloc LW.out ob) 1
 have LG0 : w19.cell? ⟨w8.heap.size, 0, none⟩ = some (.slice a1 b1 c1) := Blk.cell LG.out 0
 have LG1 : w19.cell? ⟨w8.heap.size, 1, none⟩ = some (.slice d1 e1 f1) := Blk.cell LG.out 1
 have LG2 := Blk.frozen LG.out 0
 have LG3 := Blk.frozen LG.out 1
 have LG4 : ∀ ob : Obj, (w19.alloc ob).cell? ⟨w8.heap.size, 0, none⟩ = some (.slice a1 b1 c1) := fun ob => Blk.cell (Blk.alloc LG.out ob) 0
 have LG5 : ∀ ob : Obj, (w19.alloc ob).cell? ⟨w8.heap.size, 1, none⟩ = some (.slice d1 e1 f1) := fun ob => Blk.cell (Blk.alloc LG.out ob) 1
 go_wp2_with fail
 clear LW0 LW1 LW2 LW3 LW4 LW5
 clear LG0 LG1 LG2 LG3 LG4 LG5
 refine (toInstrSS_any RP.out (by omega) hpl ht).mono ?_
 rintro e w20 ⟨⟨t4, rfl, hT4⟩, hb20⟩
 have T4 := Lib.hid hT4; clear hT4
 have s20 := hb20.size
 replace RP := Lib.hid (RP.out.below hb20 (by omega))
 replace RO := Lib.hid (RO.out.below hb20 (by omega))
 replace V0 := Lib.hid (V0.out.below hb20 (by omega))
 replace LW := Lib.hid (LW.out.below hb20 (by omega))
 replace LG := Lib.hid (LG.out.below hb20 (by omega))
 replace M0 := Lib.hid (M0.out.below hb20 (by omega))
 replace G := Lib.hid (G.out.trans (hb20.mono G.out.size))
 have LW0 : w20.cell? ⟨w4.heap.size, 0, none⟩ = some (.slice a0 b0 c0) := Blk.cell LW.out 0
 have LW1 : w20.cell? ⟨w4.heap.size, 1, none⟩ = some (.slice d0 e0 f0) := Blk.cell LW.out 1
 have LW2 := Blk.frozen LW.out 0
 have LW3 := Blk.frozen LW.out 1
 have LW4 : ∀ ob : Obj, (w20.alloc ob).cell? ⟨w4.heap.size, 0, none⟩ = some (.slice a0 b0 c0) := fun ob => Blk.cell (Blk.alloc LW.out ob) 0
 have LW5 : ∀ ob : Obj, (w20.alloc ob).cell? ⟨w4.heap.size, 1, none⟩ = some (.slice d0 e0 f0) := fun ob => Blk.cell (Blk.alloc LW.out ob) 1
 have LG0 : w20.cell? ⟨w8.heap.size, 0, none⟩ = some (.slice a1 b1 c1) := Blk.cell LG.out 0
 have LG1 : w20.cell? ⟨w8.heap.size, 1, none⟩ = some (.slice d1 e1 f1) := Blk.cell LG.out 1
 have LG2 := Blk.frozen LG.out 0
 have LG3 := Blk.frozen LG.out 1
 have LG4 : ∀ ob : Obj, (w20.alloc ob).cell? ⟨w8.heap.size, 0, none⟩ = some (.slice a1 b1 c1) := fun ob => Blk.cell (Blk.alloc LG.out ob) 0
 have LG5 : ∀ ob : Obj, (w20.alloc ob).cell? ⟨w8.heap.size, 1, none⟩ = some (.slice d1 e1 f1) := fun ob => Blk.cell (Blk.alloc LG.out ob) 1
 go_wp2_with fail
 clear LW0 LW1 LW2 LW3 LW4 LW5
 clear LG0 LG1 LG2 LG3 LG4 LG5
 refine (toIntS_any RO.out hol).mono ?_
 rintro e w21 ⟨⟨t5, rfl, hT5⟩, hb21⟩
 have T5 := Lib.hid hT5; clear hT5
 have s21 := hb21.size
 replace RP := Lib.hid (RP.out.below hb21 (by omega))
 replace RO := Lib.hid (RO.out.below hb21 (by omega))
 replace V0 := Lib.hid (V0.out.below hb21 (by omega))
 replace LW := Lib.hid (LW.out.below hb21 (by omega))
 replace LG := Lib.hid (LG.out.below hb21 (by omega))
 replace M0 := Lib.hid (M0.out.below hb21 (by omega))
 replace T4 := Lib.hid (T4.out.below hb21 (by omega))
 replace G := Lib.hid (G.out.trans (hb21.mono G.out.size))
 have LW0 : w21.cell? ⟨w4.heap.size, 0, none⟩ = some (.slice a0 b0 c0) := Blk.cell LW.out 0
 have LW1 : w21.cell? ⟨w4.heap.size, 1, none⟩ = some (.slice d0 e0 f0) := Blk.cell LW.out 1
 have LW2 := Blk.frozen LW.out 0
 have LW3 := Blk.frozen LW.out 1
 have LW4 : ∀ ob : Obj, (w21.alloc ob).cell? ⟨w4.heap.size, 0, none⟩ = some (.slice a0 b0 c0) := fun ob => Blk.cell (Blk.alloc LW.out ob) 0
 have LW5 : ∀ ob : Obj, (w21.alloc ob).cell? ⟨w4.heap.size, 1, none⟩ = some (.slice d0 e0 f0) := fun ob => Blk.cell (Blk.alloc LW.out ob) 1
 have LG0 : w21.cell? ⟨w8.heap.size, 0, none⟩ = some (.slice a1 b1 c1) := Blk.cell LG.out 0
 have LG1 : w21.cell? ⟨w8.heap.size, 1, none⟩ = some (.slice d1 e1 f1) := Blk.cell LG.out 1
 have LG2 := Blk.frozen LG.out 0
 have LG3 := Blk.frozen LG.out 1
 have LG4 : ∀ ob : Obj, (w21.alloc ob).cell? ⟨w8.heap.size, 0, none⟩ = some (.slice a1 b1 c1) := fun ob => Blk.cell (Blk.alloc LG.out ob) 0
 have LG5 : ∀ ob : Obj, (w21.alloc ob).cell? ⟨w8.heap.size, 1, none⟩ = some (.slice d1 e1 f1) := fun ob => Blk.cell (Blk.alloc LG.out ob) 1
 go_wp2_with fail
 clear LW0 LW1 LW2 LW3 LW4 LW5
 clear LG0 LG1 LG2 LG3 LG4 LG5
 refine (HIM.out _ _ _ _ T4.out.sl (by omega) _ _ _ T5.out.sl (by omega)).mono ?_
 rintro e w22 ⟨⟨a2, b2, c2, d2, e2, f2, rfl, hH0⟩, hb22⟩
 have H0 := Lib.hid hH0; clear hH0
 have s22 := hb22.size
 replace RP := Lib.hid (RP.out.below hb22 (by omega))
 replace RO := Lib.hid (RO.out.below hb22 (by omega))
 replace V0 := Lib.hid (V0.out.below hb22 (by omega))
 replace LW := Lib.hid (LW.out.below hb22 (by omega))
 replace LG := Lib.hid (LG.out.below hb22 (by omega))
 replace M0 := Lib.hid (M0.out.below hb22 (by omega))
 replace T4 := Lib.hid (T4.out.below hb22 (by omega))
 replace T5 := Lib.hid (T5.out.below hb22 (by omega))
 replace G := Lib.hid (G.out.trans (hb22.mono G.out.size))
 clear T4
 clear T5
 have LW0 : w22.cell? ⟨w4.heap.size, 0, none⟩ = some (.slice a0 b0 c0) := Blk.cell LW.out 0
 have LW1 : w22.cell? ⟨w4.heap.size, 1, none⟩ = some (.slice d0 e0 f0) := Blk.cell LW.out 1
 have LW2 := Blk.frozen LW.out 0
 have LW3 := Blk.frozen LW.out 1
 have LW4 : ∀ ob : Obj, (w22.alloc ob).cell? ⟨w4.heap.size, 0, none⟩ = some (.slice a0 b0 c0) := fun ob => Blk.cell (Blk.alloc LW.out ob) 0
 have LW5 : ∀ ob : Obj, (w22.alloc ob).cell? ⟨w4.heap.size, 1, none⟩ = some (.slice d0 e0 f0) := fun ob => Blk.cell (Blk.alloc LW.out ob) 1
 have LG0 : w22.cell? ⟨w8.heap.size, 0, none⟩ = some (.slice a1 b1 c1) := Blk.cell LG.out 0
 have LG1 : w22.cell? ⟨w8.heap.size, 1, none⟩ = some (.slice d1 e1 f1) := Blk.cell LG.out 1
 have LG2 := Blk.frozen LG.out 0
 have LG3 := Blk.frozen LG.out 1
 have LG4 : ∀ ob : Obj, (w22.alloc ob).cell? ⟨w8.heap.size, 0, none⟩ = some (.slice a1 b1 c1) := fun ob => Blk.cell (Blk.alloc LG.out ob) 0
 have LG5 : ∀ ob : Obj, (w22.alloc ob).cell? ⟨w8.heap.size, 1, none⟩ = some (.slice d1 e1 f1) := fun ob => Blk.cell (Blk.alloc LG.out ob) 1
 go_wp2_with fail
 clear LW0 LW1 LW2 LW3 LW4 LW5
 clear LG0 LG1 LG2 LG3 LG4 LG5
 obtain ⟨w23, hw23⟩ : ∃ x, x = w22.alloc (Obj.cells #[.slice a2 b2 c2, .slice d2 e2 f2] 43) := ⟨_, rfl⟩
 rw [← hw23]
 have hb23 : Below w22.heap.size w22 w23 := hw23 ▸ (Below.refl _ _).alloc (Nat.le_refl _) _
 have LH := Lib.hid (show Blk w23 w22.heap.size 43 #[.slice a2 b2 c2, .slice d2 e2 f2] from hw23 ▸ Blk.new _ _ _)
 clear hw23
 have s23 := hb23.size
 have sl23 := Blk.lt LH.out
 replace RP := Lib.hid (RP.out.below hb23 (by omega))
 replace RO := Lib.hid (RO.out.below hb23 (by omega))
 replace V0 := Lib.hid (V0.out.below hb23 (by omega))
 replace LW := Lib.hid (LW.out.below hb23 (by omega))
 replace LG := Lib.hid (LG.out.below hb23 (by omega))
 replace M0 := Lib.hid (M0.out.below hb23 (by omega))
 replace H0 := Lib.hid (H0.out.below hb23 (by omega))
 replace G := Lib.hid (G.out.trans (hb23.mono G.out.size))
 have LW0 : w23.cell? ⟨w4.heap.size, 0, none⟩ = some (.slice a0 b0 c0) := Blk.cell LW.out 0
 have LW1 : w23.cell? ⟨w4.heap.size, 1, none⟩ = some (.slice d0 e0 f0) := Blk.cell LW.out 1
 have LW2 := Blk.frozen LW.out 0
 have LW3 := Blk.frozen LW.out 1
 have LW4 : ∀ ob : Obj, (w23.alloc ob).cell? ⟨w4.heap.size, 0, none⟩ = some (.slice a0 b0 c0) := fun ob => Blk.cell (Blk.alloc LW.out ob) 0
 have LW5 : ∀ ob : Obj, (w23.alloc ob).cell? ⟨w4.heap.size, 1, none⟩ = some (.slice d0 e0 f0) := fun ob => Blk.cell (Blk.alloc LW.out ob) 1
 have LG0 : w23.cell? ⟨w8.heap.size, 0, none⟩ = some (.slice a1 b1 c1) := Blk.cell LG.out 0
 have LG1 : w23.cell? ⟨w8.heap.size, 1, none⟩ = some (.slice d1 e1 f1) := Blk.cell LG.out 1
 have LG2 := Blk.frozen LG.out 0
 have LG3 := Blk.frozen LG.out 1
 have LG4 : ∀ ob : Obj, (w23.alloc ob).cell? ⟨w8.heap.size, 0, none⟩ = some (.slice a1 b1 c1) := fun ob => Blk.cell (Blk.alloc LG.out ob) 0
 have LG5 : ∀ ob : Obj, (w23.alloc ob).cell? ⟨w8.heap.size, 1, none⟩ = some (.slice d1 e1 f1) := fun ob => Blk.cell (Blk.alloc LG.out ob) 1
 have LH0 : w23.cell? ⟨w22.heap.size, 0, none⟩ = some (.slice a2 b2 c2) := Blk.cell LH.out 0
 have LH1 : w23.cell? ⟨w22.heap.size, 1, none⟩ = some (.slice d2 e2 f2) := Blk.cell LH.out 1
 have LH2 := Blk.frozen LH.out 0
 have LH3 := Blk.frozen LH.out 1
 have LH4 : ∀ ob : Obj, (w23.alloc ob).cell? ⟨w22.heap.size, 0, none⟩ = some (.slice a2 b2 c2) := fun ob => Blk.cell (Blk.alloc LH.out ob) 0
 have LH5 : ∀ ob : Obj, (w23.alloc ob).cell? ⟨w22.heap.size, 1, none⟩ = some (.slice d2 e2 f2) := fun ob => Blk.cell (Blk.alloc LH.out ob) 1
 try (go_wp2_with fail)
 clear LW0 LW1 LW2 LW3 LW4 LW5
 clear LG0 LG1 LG2 LG3 LG4 LG5
 clear LH0 LH1 LH2 LH3 LH4 LH5
 refine (eqEx HEB.out H0.out.slX V0.out).mono ?_
 rintro e w24 ⟨rfl, hb24⟩
 have s24 := hb24.size
 replace RP := Lib.hid (RP.out.below hb24 (by omega))
 replace RO := Lib.hid (RO.out.below hb24 (by omega))
 replace V0 := Lib.hid (V0.out.below hb24 (by omega))
 replace LW := Lib.hid (LW.out.below hb24 (by omega))
 replace LG := Lib.hid (LG.out.below hb24 (by omega))
 replace M0 := Lib.hid (M0.out.below hb24 (by omega))
 replace H0 := Lib.hid (H0.out.below hb24 (by omega))
 replace LH := Lib.hid (LH.out.below hb24 (by omega))
 replace G := Lib.hid (G.out.trans (hb24.mono G.out.size))
 have LW0 : w24.cell? ⟨w4.heap.size, 0, none⟩ = some (.slice a0 b0 c0) := Blk.cell LW.out 0
 have LW1 : w24.cell? ⟨w4.heap.size, 1, none⟩ = some (.slice d0 e0 f0) := Blk.cell LW.out 1
 have LW2 := Blk.frozen LW.out 0
 have LW3 := Blk.frozen LW.out 1
 have LW4 : ∀ ob : Obj, (w24.alloc ob).cell? ⟨w4.heap.size, 0, none⟩ = some (.slice a0 b0 c0) := fun ob => Blk.cell (Blk.alloc LW.out ob) 0
 have LW5 : ∀ ob : Obj, (w24.alloc ob).cell? ⟨w4.heap.size, 1, none⟩ = some (.slice d0 e0 f0) := fun ob => Blk.cell (Blk.alloc LW.out ob) 1
 have LG0 : w24.cell? ⟨w8.heap.size, 0, none⟩ = some (.slice a1 b1 c1) := Blk.cell LG.out 0
 have LG1 : w24.cell? ⟨w8.heap.size, 1, none⟩ = some (.slice d1 e1 f1) := Blk.cell LG.out 1
 have LG2 := Blk.frozen LG.out 0
 have LG3 := Blk.frozen LG.out 1
 have LG4 : ∀ ob : Obj, (w24.alloc ob).cell? ⟨w8.heap.size, 0, none⟩ = some (.slice a1 b1 c1) := fun ob => Blk.cell (Blk.alloc LG.out ob) 0
 have LG5 : ∀ ob : Obj, (w24.alloc ob).cell? ⟨w8.heap.size, 1, none⟩ = some (.slice d1 e1 f1) := fun ob => Blk.cell (Blk.alloc LG.out ob) 1
 have LH0 : w24.cell? ⟨w22.heap.size, 0, none⟩ = some (.slice a2 b2 c2) := Blk.cell LH.out 0
 have LH1 : w24.cell? ⟨w22.heap.size, 1, none⟩ = some (.slice d2 e2 f2) := Blk.cell LH.out 1
 have LH2 := Blk.frozen LH.out 0
 have LH3 := Blk.frozen LH.out 1
 have LH4 : ∀ ob : Obj, (w24.alloc ob).cell? ⟨w22.heap.size, 0, none⟩ = some (.slice a2 b2 c2) := fun ob => Blk.cell (Blk.alloc LH.out ob) 0
 have LH5 : ∀ ob : Obj, (w24.alloc ob).cell? ⟨w22.heap.size, 1, none⟩ = some (.slice d2 e2 f2) := fun ob => Blk.cell (Blk.alloc LH.out ob) 1
 go_wp2_with fail
 clear LW0 LW1 LW2 LW3 LW4 LW5
 clear LG0 LG1 LG2 LG3 LG4 LG5
 clear LH0 LH1 LH2 LH3 LH4 LH5
 refine (heldEx (by decide) (by omega) (by omega) M0.out.slX).mono ?_
 rintro e w25 ⟨rfl, hb25⟩
 have s25 := hb25.size
 replace RP := Lib.hid (RP.out.below hb25 (by omega))
 replace RO := Lib.hid (RO.out.below hb25 (by omega))
 replace V0 := Lib.hid (V0.out.below hb25 (by omega))
 replace LW := Lib.hid (LW.out.below hb25 (by omega))
 replace LG := Lib.hid (LG.out.below hb25 (by omega))
 replace M0 := Lib.hid (M0.out.below hb25 (by omega))
 replace H0 := Lib.hid (H0.out.below hb25 (by omega))
 replace LH := Lib.hid (LH.out.below hb25 (by omega))
 replace G := Lib.hid (G.out.trans (hb25.mono G.out.size))
 have LW0 : w25.cell? ⟨w4.heap.size, 0, none⟩ = some (.slice a0 b0 c0) := Blk.cell LW.out 0
 have LW1 : w25.cell? ⟨w4.heap.size, 1, none⟩ = some (.slice d0 e0 f0) := Blk.cell LW.out 1
 have LW2 := Blk.frozen LW.out 0
 have LW3 := Blk.frozen LW.out 1
 have LW4 : ∀ ob : Obj, (w25.alloc ob).cell? ⟨w4.heap.size, 0, none⟩ = some (.slice a0 b0 c0) := fun ob => Blk.cell (Blk.alloc LW.out ob) 0
 have LW5 : ∀ ob : Obj, (w25.alloc ob).cell? ⟨w4.heap.size, 1, none⟩ = some (.slice d0 e0 f0) := fun ob => Blk.cell (Blk.alloc LW.out ob) 1
 have LG0 : w25.cell? ⟨w8.heap.size, 0, none⟩ = some (.slice a1 b1 c1) := Blk.cell LG.out 0
 have LG1 : w25.cell? ⟨w8.heap.size, 1, none⟩ = some (.slice d1 e1 f1) := Blk.cell LG.out 1
 have LG2 := Blk.frozen LG.out 0
 have LG3 := Blk.frozen LG.out 1
 have LG4 : ∀ ob : Obj, (w25.alloc ob).cell? ⟨w8.heap.size, 0, none⟩ = some (.slice a1 b1 c1) := fun ob => Blk.cell (Blk.alloc LG.out ob) 0
 have LG5 : ∀ ob : Obj, (w25.alloc ob).cell? ⟨w8.heap.size, 1, none⟩ = some (.slice d1 e1 f1) := fun ob => Blk.cell (Blk.alloc LG.out ob) 1
 have LH0 : w25.cell? ⟨w22.heap.size, 0, none⟩ = some (.slice a2 b2 c2) := Blk.cell LH.out 0
 have LH1 : w25.cell? ⟨w22.heap.size, 1, none⟩ = some (.slice d2 e2 f2) := Blk.cell LH.out 1
 have LH2 := Blk.frozen LH.out 0
 have LH3 := Blk.frozen LH.out 1
 have LH4 : ∀ ob : Obj, (w25.alloc ob).cell? ⟨w22.heap.size, 0, none⟩ = some (.slice a2 b2 c2) := fun ob => Blk.cell (Blk.alloc LH.out ob) 0
 have LH5 : ∀ ob : Obj, (w25.alloc ob).cell? ⟨w22.heap.size, 1, none⟩ = some (.slice d2 e2 f2) := fun ob => Blk.cell (Blk.alloc LH.out ob) 1
 go_wp2_with fail
 clear LW0 LW1 LW2 LW3 LW4 LW5
 clear LG0 LG1 LG2 LG3 LG4 LG5
 clear LH0 LH1 LH2 LH3 LH4 LH5
 go_ret
 exact ⟨rfl, G.out⟩
end Go.Proofs.Ytlmjnhnpahicmaa
