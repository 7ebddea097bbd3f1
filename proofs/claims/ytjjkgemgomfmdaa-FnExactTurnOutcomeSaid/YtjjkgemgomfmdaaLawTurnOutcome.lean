/-
  PROVED: FnExactTurnOutcome: for every program, every outcome and every four numbers the law returns true, and memory that was there is as it was. No conditions.
-/
import Derived.Test.YtjjkgemgomfmdaaS51
import Derived.Test.YtjjkgemgomfmdaaD11
import Derived.Test.YtjjkgemgomfmdaaIntF
import Derived.Test.YtjjkgemgomfmdaaLawBase
namespace Go.Proofs.Ytjjkgemgomfmdaa
open Go.ChangeShapes Go.WideShapes Go.ChangeAt Go.RowKit
set_option maxRecDepth 100000

def ofIns (x : Ins) : Ximpl_Instr := ⟨x.op, x.loc, x.reg, x.val⟩
theorem frel_slsl {α β : Type} [Inhabited β] {f : α → List Value} {s : Nat} {c : β → List AV} {e : α → β} (hf : ∀ x, c (e x) = (f x).map AV.v) (hs : ∀ x, (f x).length = s) (hp : ∀ x, ∀ u ∈ f x, plain u = true) {w : World} {v : Value} {l : List (List α)} {lo hi : Nat} (h : SlSl f s w lo hi v l) :
    FRel w (fun g => g < w.heap.size) (eL (cL c) (l.map fun r => r.map e)) v := by
  obtain ⟨xs, ⟨A, cap, rfl, hc, hm, h⟩, hl, hr⟩ := h
  have e0 : (l.map fun r => r.map e).length = xs.length := by rw [List.length_map, hl]
  have key : ∀ (g o : Nat), (0 < xs.length → A = some ⟨g, o, none⟩ ∧ g < w.heap.size ∧ ∀ (k : Nat) (h : k < xs.length), w.cell? ⟨g, o + k * 1 + 0, none⟩ = some xs[k]) → FRel w (fun g => g < w.heap.size) (eL (cL c) (l.map fun r => r.map e)) (.slice A xs.length cap) := by
    intro g o hh
    unfold eL
    rw [e0]
    have hg : ∀ i (h : i < xs.length), (l.map fun r => r.map e).getD i default = (l[i]'(by omega)).map e := fun i h => by simp [List.getD, show i < l.length by omega]
    have one : ∀ (i j : Nat) (a : AV), (cL c ((l.map fun r => r.map e).getD i default))[j]? = some a → j = 0 ∧ a = eL c ((l.map fun r => r.map e).getD i default) := fun i j a ha => by
      match j with
      | 0 => exact ⟨rfl, (Option.some.inj ha).symm⟩
      | j + 1 => simp [cL] at ha
    have us : ∀ i (h : i < xs.length), (xs[i]?.getD (.bool false)) = xs[i] := fun i h => by simp [h]
    have ho : ∀ i (h : i < xs.length), ∃ A n k, xs[i] = .slice A n k := fun i h => by
      obtain ⟨A, k, he, _⟩ := hr i h (by omega)
      exact ⟨A, _, k, he⟩
    refine FRel.sl (s := 1) (g := g) (o := o) (fun i _ => xs[i]?.getD (.bool false)) hc hm (fun hn => ⟨(hh hn).1, (hh hn).2.1, (hh hn).2.1⟩) (fun i hi => rfl) (fun i j a hi ha => ?_) (fun i j a hi ha => ?_) (fun i j a hi ha => ?_)
    · obtain ⟨rfl, _⟩ := one i j a ha
      rw [us i hi]
      exact (hh (by omega)).2.2 i hi
    · rw [us i hi]
      obtain ⟨A, n, k, he⟩ := ho i hi
      rw [he]
      rfl
    · obtain ⟨rfl, rfl⟩ := one i j a ha
      rw [us i hi, hg i hi]
      exact frel_of_sl hf hs hp (by
        obtain ⟨A, cap, e1, e2, e3, e4⟩ := hr i hi (by omega)
        exact ⟨A, cap, e1, e2, e3, fun hn => by
          obtain ⟨b, o, g1, g2, g3, g4, g5⟩ := e4 hn
          exact ⟨b, o, g1, Nat.zero_le _, g4, g4, g5⟩⟩ : Sl f s w 0 w.heap.size xs[i] l[i])
  by_cases h0 : 0 < xs.length
  · obtain ⟨b, o, hA, _, _, hlt, hcell⟩ := h h0
    exact key b o fun _ => ⟨hA, hlt, fun k hk => hcell k hk 0 _ rfl⟩
  · exact key 0 0 fun h1 => absurd h1 h0
theorem frel_ins {w : World} {v : Value} {p : List (List Ins)} {lo hi : Nat} (h : SlSl Ins.cells 4 w lo hi v p) : FRel w (fun g => g < w.heap.size) (eL (cL Ximpl_Instr.c) (p.map fun r => r.map ofIns)) v :=
  frel_slsl (f := Ins.cells) (s := 4) (c := Ximpl_Instr.c) (e := ofIns) (fun _ => rfl) (fun _ => rfl) (fun x u hu => by simp [Ins.cells] at hu; rcases hu with rfl | rfl | rfl | rfl <;> rfl) h
theorem turn_ins {p : List (List Ins)} {o : List Int} (hl : p.length ≤ 1048576) (ht : total p ≤ 1048576) (ho : o.length ≤ 1048576) (i k x y : Int) :
    ∃ r, F_impl_TurnOutcome (p.map fun r => r.map ofIns) o i k x y = some r ∧ F_spec_TurnOutcome (p.map fun r => r.map ofIns) o i k x y = some r ∧ r.1.length ≤ 12 :=
  turn_all ⟨by rw [List.length_map]; exact hl, by rw [total_map]; exact ht⟩ ho i k x y
theorem args6 {w : World} {fz : Nat → Prop} {a b : AV} {u v : Value} {i k x y : Int} (ha : FRel w fz a u) (hb : FRel w fz b v) : ∀ (j : Nat) (c : AV) (z : Value), [a, b, I i, I k, I x, I y][j]? = some c → #[u, v, .int .i64 i, .int .i64 k, .int .i64 x, .int .i64 y][j]? = some z → FRel w fz c z := by
  intro j c z hc hz
  match j with
  | 0 =>
    obtain rfl := Option.some.inj hc
    obtain rfl : u = z := by simpa using hz
    exact ha
  | 1 =>
    obtain rfl := Option.some.inj hc
    obtain rfl : v = z := by simpa using hz
    exact hb
  | 2 =>
    obtain rfl := Option.some.inj hc
    obtain rfl : Value.int .i64 i = z := by simpa using hz
    exact .v rfl
  | 3 =>
    obtain rfl := Option.some.inj hc
    obtain rfl : Value.int .i64 k = z := by simpa using hz
    exact .v rfl
  | 4 =>
    obtain rfl := Option.some.inj hc
    obtain rfl : Value.int .i64 x = z := by simpa using hz
    exact .v rfl
  | 5 =>
    obtain rfl := Option.some.inj hc
    obtain rfl : Value.int .i64 y = z := by simpa using hz
    exact .v rfl
  | j + 6 => simp at hc
theorem frel_intsL {w : World} {v : Value} {lo hi : Nat} {l : List Int} (h : Sl int1 1 w lo hi v l) : FRel w (fun g => g < w.heap.size) (eL cI l) v := by
  refine frel_ints (hi := hi) ?_
  obtain ⟨A, cap, e1, e2, e3, e4⟩ := h
  exact ⟨A, cap, e1, e2, e3, fun hn => by
    obtain ⟨b, o, g1, g2, g3, g4⟩ := e4 hn
    exact ⟨b, o, g1, Nat.zero_le _, g3, g4⟩⟩
theorem implTO {W : World} {p : List (List Ins)} {o : List Int} {i k x y : Int} {q : List Int} {bb : Bool} {lo hi lo' hi' : Nat} {a c : Value} (hI : F_impl_TurnOutcome (p.map fun r => r.map ofIns) o i k x y = some (q, bb)) (h : SlSl Ins.cells 4 W lo hi a p) (h' : Sl int1 1 W lo' hi' c o) :
    Calls Try.prog 41 #[a, c, .int .i64 i, .int .i64 k, .int .i64 x, .int .i64 y] W fun e w' => (∃ v0, e = .returned (.tuple #[v0, .bool bb]) ∧ OwF w' W.heap.size w'.heap.size v0 q) ∧ Below W.heap.size W w' :=
  calls_of_own (F_impl_TurnOutcome_OP _ _ _ _ _ _ hI) rfl (args6 (frel_ins h) (frel_intsL h'))
theorem specTO {W : World} {p : List (List Ins)} {o : List Int} {i k x y : Int} {q : List Int} {bb : Bool} {lo hi lo' hi' : Nat} {a c : Value} (hS : F_spec_TurnOutcome (p.map fun r => r.map ofIns) o i k x y = some (q, bb)) (h : SlSl Ins.cells 4 W lo hi a p) (h' : Sl int1 1 W lo' hi' c o) :
    Calls Try.prog 39 #[a, c, .int .i64 i, .int .i64 k, .int .i64 x, .int .i64 y] W fun e w' => (∃ v0, e = .returned (.tuple #[v0, .bool bb]) ∧ Sl int1 1 w' 0 w'.heap.size v0 q) ∧ Below W.heap.size W w' := by
  refine (calls_of_pure (F_spec_TurnOutcome_P _ _ _ _ _ _ hS) _ rfl (args6 (frel_ins h) (frel_intsL h'))).mono fun e w' ⟨v, fz', he, hb, hv⟩ => ⟨?_, hb⟩
  cases hv with
  | @tup _ us hus hu =>
    obtain ⟨us⟩ := us
    match us, hus with
    | [v0, v1], _ =>
      have h0 := hu 0 _ v0 rfl rfl
      obtain rfl := frel_v (hu 1 _ v1 rfl rfl)
      exact ⟨v0, he, ints_of_frel h0⟩
set_option maxHeartbeats 2000000 in
theorem law_FnExactTurnOutcome {u v : Value} {p : List (List Ins)} {o : List Int} (i k x y : Int) {w : World} (hu : SlSl Ins.cells 4 w 0 w.heap.size u p) (hv : Sl int1 1 w 0 w.heap.size v o) :
    Calls Try.prog 12 #[u, v, .int .i64 i, .int .i64 k, .int .i64 x, .int .i64 y] w fun e w' => e = .returned (.bool true) ∧ Below w.heap.size w w' := by
  have hv' := hv
  obtain ⟨A, ca, rfl, hca, hma, hA⟩ := hv'.ints
  clear hA hma hca
  have RP := Lib.hid hu; clear hu
  have RO := Lib.hid hv; clear hv
  have G := Lib.hid (Below.refl w.heap.size w)
  by_cases hlo : (o.length : Int) > 1048576
  · go_enter Try.func12, Try.ntmps12
    go_wp2_with fail
    go_ret
    exact ⟨rfl, G.out⟩
  have hol : o.length ≤ 1048576 := by omega
  go_enter Try.func12, Try.ntmps12
  go_wp2_with fail
  refine (szInstrSS_any RP.out).mono ?_
  rintro e w1 ⟨⟨r, rfl, hr⟩, hb1⟩
  have s1 := hb1.size
  replace RP := Lib.hid (RP.out.below hb1 (by omega))
  replace RO := Lib.hid (RO.out.below hb1 (by omega))
  replace G := Lib.hid (G.out.trans (hb1.mono G.out.size))
  rcases hr with hr | ⟨hr0, hsz⟩
  · go_wp2_with fail
    go_ret
    exact ⟨rfl, G.out⟩
  have hr1 : ¬ r < 0 := by omega
  have ht : total p ≤ 1048576 := by omega
  have hpl : p.length ≤ 1048576 := by omega
  clear hr0 hsz
  obtain ⟨⟨q, bb⟩, hI, hS, hq⟩ := turn_ins (p := p) (o := o) hpl ht hol i k x y
  have HIM := Lib.hid (fun (W : World) lo hi a (h : SlSl Ins.cells 4 W lo hi a p) lo' hi' c (h' : Sl int1 1 W lo' hi' c o) => implTO (W := W) hI h h')
  have HSP := Lib.hid (fun (W : World) lo hi a (h : SlSl Ins.cells 4 W lo hi a p) lo' hi' c (h' : Sl int1 1 W lo' hi' c o) => specTO (W := W) hS h h')
  simp only at hq
  clear hI hS
  have d1 : decide (q = q) = true := by simp
  have d2 : decide (p = p) = true := by simp
  have d3 : decide (o = o) = true := by simp
  go_wp2_with fail
  refine (toInstrSS_any RP.out (by omega) hpl ht).mono ?_
  rintro e w2 ⟨⟨t2, rfl, hT2⟩, hb2⟩
  have T2 := Lib.hid hT2; clear hT2
  have s2 := hb2.size
  replace RP := Lib.hid (RP.out.below hb2 (by omega))
  replace RO := Lib.hid (RO.out.below hb2 (by omega))
  replace G := Lib.hid (G.out.trans (hb2.mono G.out.size))
  go_wp2_with fail
  refine (toIntS_any RO.out hol).mono ?_
  rintro e w3 ⟨⟨t3, rfl, hT3⟩, hb3⟩
  have T3 := Lib.hid hT3; clear hT3
  have s3 := hb3.size
  replace RP := Lib.hid (RP.out.below hb3 (by omega))
  replace RO := Lib.hid (RO.out.below hb3 (by omega))
  replace T2 := Lib.hid (T2.out.below hb3 (by omega))
  replace G := Lib.hid (G.out.trans (hb3.mono G.out.size))
  go_wp2_with fail
  refine (HSP.out _ _ _ _ T2.out.sl _ _ _ T3.out.sl).mono ?_
  rintro e w4 ⟨⟨v0, rfl, hV0⟩, hb4⟩
  have V0 := Lib.hid hV0; clear hV0
  have s4 := hb4.size
  replace RP := Lib.hid (RP.out.below hb4 (by omega))
  replace RO := Lib.hid (RO.out.below hb4 (by omega))
  replace T2 := Lib.hid (T2.out.below hb4 (by omega))
  replace T3 := Lib.hid (T3.out.below hb4 (by omega))
  replace G := Lib.hid (G.out.trans (hb4.mono G.out.size))
  clear T2
  clear T3
  go_wp2_with fail
  refine (toInstrSS_any RP.out (by omega) hpl ht).mono ?_
  rintro e w5 ⟨⟨x0, rfl, hX0⟩, hb5⟩
  have X0 := Lib.hid hX0; clear hX0
  have s5 := hb5.size
  replace RP := Lib.hid (RP.out.below hb5 (by omega))
  replace RO := Lib.hid (RO.out.below hb5 (by omega))
  replace V0 := Lib.hid (V0.out.below hb5 (by omega))
  replace G := Lib.hid (G.out.trans (hb5.mono G.out.size))
  go_wp2_with fail
  refine (toIntS_any RO.out hol).mono ?_
  rintro e w6 ⟨⟨x1, rfl, hX1⟩, hb6⟩
  have X1 := Lib.hid hX1; clear hX1
  have s6 := hb6.size
  replace RP := Lib.hid (RP.out.below hb6 (by omega))
  replace RO := Lib.hid (RO.out.below hb6 (by omega))
  replace V0 := Lib.hid (V0.out.below hb6 (by omega))
  replace X0 := Lib.hid (X0.out.below hb6 (by omega))
  replace G := Lib.hid (G.out.trans (hb6.mono G.out.size))
  go_wp2_with fail
  refine (HIM.out _ _ _ _ X0.out.sl _ _ _ X1.out.sl).mono ?_
  rintro e w7 ⟨⟨g0, rfl, hG0⟩, hb7⟩
  have G0 := Lib.hid hG0; clear hG0
  have s7 := hb7.size
  replace RP := Lib.hid (RP.out.below hb7 (by omega))
  replace RO := Lib.hid (RO.out.below hb7 (by omega))
  replace V0 := Lib.hid (V0.out.below hb7 (by omega))
  replace X0 := Lib.hid (X0.out.below hb7 (by omega))
  replace X1 := Lib.hid (X1.out.below hb7 (by omega))
  replace G := Lib.hid (G.out.trans (hb7.mono G.out.size))
  go_wp2_with fail
  refine (eqIntS_any G0.out.sl V0.out).mono ?_
  rintro e w8 ⟨rfl, hb8⟩
  have s8 := hb8.size
  replace RP := Lib.hid (RP.out.below hb8 (by omega))
  replace RO := Lib.hid (RO.out.below hb8 (by omega))
  replace V0 := Lib.hid (V0.out.below hb8 (by omega))
  replace X0 := Lib.hid (X0.out.below hb8 (by omega))
  replace X1 := Lib.hid (X1.out.below hb8 (by omega))
  replace G0 := Lib.hid (G0.out.below hb8 (by omega))
  replace G := Lib.hid (G.out.trans (hb8.mono G.out.size))
  go_wp2_with fail
  refine (toInstrSS_any RP.out (by omega) hpl ht).mono ?_
  rintro e w9 ⟨⟨y0, rfl, hY0⟩, hb9⟩
  have Y0 := Lib.hid hY0; clear hY0
  have s9 := hb9.size
  replace RP := Lib.hid (RP.out.below hb9 (by omega))
  replace RO := Lib.hid (RO.out.below hb9 (by omega))
  replace V0 := Lib.hid (V0.out.below hb9 (by omega))
  replace X0 := Lib.hid (X0.out.below hb9 (by omega))
  replace X1 := Lib.hid (X1.out.below hb9 (by omega))
  replace G0 := Lib.hid (G0.out.below hb9 (by omega))
  replace G := Lib.hid (G.out.trans (hb9.mono G.out.size))
  go_wp2_with fail
  refine (eqInstrSS_any X0.out.sl Y0.out.sl (by omega) (by omega)).mono ?_
  rintro e w10 ⟨rfl, hb10⟩
  have s10 := hb10.size
  replace RP := Lib.hid (RP.out.below hb10 (by omega))
  replace RO := Lib.hid (RO.out.below hb10 (by omega))
  replace V0 := Lib.hid (V0.out.below hb10 (by omega))
  replace X0 := Lib.hid (X0.out.below hb10 (by omega))
  replace X1 := Lib.hid (X1.out.below hb10 (by omega))
  replace G0 := Lib.hid (G0.out.below hb10 (by omega))
  replace Y0 := Lib.hid (Y0.out.below hb10 (by omega))
  replace G := Lib.hid (G.out.trans (hb10.mono G.out.size))
  clear Y0
  go_wp2_with fail
  refine (toIntS_any RO.out hol).mono ?_
  rintro e w11 ⟨⟨y1, rfl, hY1⟩, hb11⟩
  have Y1 := Lib.hid hY1; clear hY1
  have s11 := hb11.size
  replace RP := Lib.hid (RP.out.below hb11 (by omega))
  replace RO := Lib.hid (RO.out.below hb11 (by omega))
  replace V0 := Lib.hid (V0.out.below hb11 (by omega))
  replace X0 := Lib.hid (X0.out.below hb11 (by omega))
  replace X1 := Lib.hid (X1.out.below hb11 (by omega))
  replace G0 := Lib.hid (G0.out.below hb11 (by omega))
  replace G := Lib.hid (G.out.trans (hb11.mono G.out.size))
  go_wp2_with fail
  refine (eqIntS_any X1.out.sl Y1.out.sl).mono ?_
  rintro e w12 ⟨rfl, hb12⟩
  have s12 := hb12.size
  replace RP := Lib.hid (RP.out.below hb12 (by omega))
  replace RO := Lib.hid (RO.out.below hb12 (by omega))
  replace V0 := Lib.hid (V0.out.below hb12 (by omega))
  replace X0 := Lib.hid (X0.out.below hb12 (by omega))
  replace X1 := Lib.hid (X1.out.below hb12 (by omega))
  replace G0 := Lib.hid (G0.out.below hb12 (by omega))
  replace Y1 := Lib.hid (Y1.out.below hb12 (by omega))
  replace G := Lib.hid (G.out.trans (hb12.mono G.out.size))
  clear Y1
  go_wp2_with fail
  refine (markInstrSS_any X0.out (by decide) (by omega) (by omega) (by omega)).mono ?_
  rintro e w13 ⟨rfl, _, hb13⟩
  have s13 := hb13.size
  replace RP := Lib.hid (RP.out.fr hb13 (by omega))
  replace RO := Lib.hid (RO.out.fr hb13 (by omega))
  replace V0 := Lib.hid (V0.out.fr hb13 (by omega))
  replace X1 := Lib.hid (X1.out.fr hb13 (by omega))
  replace G0 := Lib.hid (G0.out.fr hb13 (by omega))
  replace G := Lib.hid (G.out.trans (hb13.below (by omega) G.out.size))
  go_wp2_with fail
  refine (markIntS_any X1.out (by omega) (by omega)).mono ?_
  rintro e w14 ⟨rfl, _, hb14⟩
  have s14 := hb14.size
  replace RP := Lib.hid (RP.out.fr hb14 (by omega))
  replace RO := Lib.hid (RO.out.fr hb14 (by omega))
  replace V0 := Lib.hid (V0.out.fr hb14 (by omega))
  replace G0 := Lib.hid (G0.out.fr hb14 (by omega))
  replace G := Lib.hid (G.out.trans (hb14.below (by omega) G.out.size))
  have d4 : ¬ (1 + 4 * (total p : Int) + (o.length : Int)) < 0 := by omega
  go_wp2_with fail
  refine (eqIntS_any G0.out.sl V0.out).mono ?_
  rintro e w15 ⟨rfl, hb15⟩
  have s15 := hb15.size
  replace RP := Lib.hid (RP.out.below hb15 (by omega))
  replace RO := Lib.hid (RO.out.below hb15 (by omega))
  replace V0 := Lib.hid (V0.out.below hb15 (by omega))
  replace G0 := Lib.hid (G0.out.below hb15 (by omega))
  replace G := Lib.hid (G.out.trans (hb15.mono G.out.size))
  go_wp2_with fail
  refine (markIntF_any G0.out (by decide) (by omega)).mono ?_
  rintro e w16 ⟨rfl, hM0, hb16⟩
  have M0 := Lib.hid hM0; clear hM0
  have s16 := hb16.size
  replace RP := Lib.hid (RP.out.fr hb16 (by omega))
  replace RO := Lib.hid (RO.out.fr hb16 (by omega))
  replace V0 := Lib.hid (V0.out.fr hb16 (by omega))
  replace G := Lib.hid (G.out.trans (hb16.below (by omega) G.out.size))
  go_wp2_with fail
  refine (heldIntS_any M0.out.sl (by omega) (by omega)).mono ?_
  rintro e w17 ⟨rfl, hb17⟩
  have s17 := hb17.size
  replace RP := Lib.hid (RP.out.below hb17 (by omega))
  replace RO := Lib.hid (RO.out.below hb17 (by omega))
  replace V0 := Lib.hid (V0.out.below hb17 (by omega))
  replace M0 := Lib.hid (M0.out.below hb17 (by omega))
  replace G := Lib.hid (G.out.trans (hb17.mono G.out.size))
  have d5 : ¬ (1 + (q.length : Int)) < 0 := by omega
  go_wp2_with fail
  refine (toInstrSS_any RP.out (by omega) hpl ht).mono ?_
  rintro e w18 ⟨⟨t4, rfl, hT4⟩, hb18⟩
  have T4 := Lib.hid hT4; clear hT4
  have s18 := hb18.size
  replace RP := Lib.hid (RP.out.below hb18 (by omega))
  replace RO := Lib.hid (RO.out.below hb18 (by omega))
  replace V0 := Lib.hid (V0.out.below hb18 (by omega))
  replace M0 := Lib.hid (M0.out.below hb18 (by omega))
  replace G := Lib.hid (G.out.trans (hb18.mono G.out.size))
  go_wp2_with fail
  refine (toIntS_any RO.out hol).mono ?_
  rintro e w19 ⟨⟨t5, rfl, hT5⟩, hb19⟩
  have T5 := Lib.hid hT5; clear hT5
  have s19 := hb19.size
  replace RP := Lib.hid (RP.out.below hb19 (by omega))
  replace RO := Lib.hid (RO.out.below hb19 (by omega))
  replace V0 := Lib.hid (V0.out.below hb19 (by omega))
  replace M0 := Lib.hid (M0.out.below hb19 (by omega))
  replace T4 := Lib.hid (T4.out.below hb19 (by omega))
  replace G := Lib.hid (G.out.trans (hb19.mono G.out.size))
  go_wp2_with fail
  refine (HIM.out _ _ _ _ T4.out.sl _ _ _ T5.out.sl).mono ?_
  rintro e w20 ⟨⟨h0, rfl, hH0⟩, hb20⟩
  have H0 := Lib.hid hH0; clear hH0
  have s20 := hb20.size
  replace RP := Lib.hid (RP.out.below hb20 (by omega))
  replace RO := Lib.hid (RO.out.below hb20 (by omega))
  replace V0 := Lib.hid (V0.out.below hb20 (by omega))
  replace M0 := Lib.hid (M0.out.below hb20 (by omega))
  replace T4 := Lib.hid (T4.out.below hb20 (by omega))
  replace T5 := Lib.hid (T5.out.below hb20 (by omega))
  replace G := Lib.hid (G.out.trans (hb20.mono G.out.size))
  clear T4
  clear T5
  go_wp2_with fail
  refine (eqIntS_any H0.out.sl V0.out).mono ?_
  rintro e w21 ⟨rfl, hb21⟩
  have s21 := hb21.size
  replace RP := Lib.hid (RP.out.below hb21 (by omega))
  replace RO := Lib.hid (RO.out.below hb21 (by omega))
  replace V0 := Lib.hid (V0.out.below hb21 (by omega))
  replace M0 := Lib.hid (M0.out.below hb21 (by omega))
  replace H0 := Lib.hid (H0.out.below hb21 (by omega))
  replace G := Lib.hid (G.out.trans (hb21.mono G.out.size))
  go_wp2_with fail
  refine (heldIntS_any M0.out.sl (by omega) (by omega)).mono ?_
  rintro e w22 ⟨rfl, hb22⟩
  have s22 := hb22.size
  replace RP := Lib.hid (RP.out.below hb22 (by omega))
  replace RO := Lib.hid (RO.out.below hb22 (by omega))
  replace V0 := Lib.hid (V0.out.below hb22 (by omega))
  replace M0 := Lib.hid (M0.out.below hb22 (by omega))
  replace H0 := Lib.hid (H0.out.below hb22 (by omega))
  replace G := Lib.hid (G.out.trans (hb22.mono G.out.size))
  go_wp2_with fail
  go_ret
  exact ⟨rfl, G.out⟩
theorem lawr_TurnOutcome {w : World} (u : Value) (p : List (List Ins)) (h : SlSl Ins.cells 4 w 0 w.heap.size u p) (v : Value) (o : List Int) (h' : Sl int1 1 w 0 w.heap.size v o) (_ : ∀ y ∈ o, (Lit.int .i64 y).wf = true) (i : Int) (_ : (Lit.int .i64 i).wf = true) (k : Int) (_ : (Lit.int .i64 k).wf = true) (x : Int) (_ : (Lit.int .i64 x).wf = true) (y : Int) (_ : (Lit.int .i64 y).wf = true) :
    Calls Try.prog 12 #[u, v, .int .i64 i, .int .i64 k, .int .i64 x, .int .i64 y] w fun e w' => e = .returned (.bool true) ∧ Below w.heap.size w w' :=
  law_FnExactTurnOutcome i k x y h h'
end Go.Proofs.Ytjjkgemgomfmdaa
