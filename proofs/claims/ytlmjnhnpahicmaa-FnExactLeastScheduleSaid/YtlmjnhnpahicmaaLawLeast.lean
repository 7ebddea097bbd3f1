/-
 PROVED: FnExactLeastSchedule: for every program and every schedule the law returns true, and memory that was there is as it was. No conditions.
-/
import Derived.Test.YtlmjnhnpahicmaaS332
import Derived.Test.YtlmjnhnpahicmaaDt6
import Derived.Test.YtlmjnhnpahicmaaIntF
import Derived.Test.YtlmjnhnpahicmaaBrW
namespace Go.Proofs.Ytlmjnhnpahicmaa
open Go.ChangeShapes Go.WideShapes Go.ChangeAt Go.RowKit
set_option maxRecDepth 100000
theorem args2 {w : World} {fz : Nat -> Prop} {a b : AV} {x y : Value} (ha : FRel w fz a x) (hb : FRel w fz b y) : ∀ (j : Nat) (d : AV) (z : Value),[a,b][j]? = some d -> #[x,y][j]? = some z -> FRel w fz d z := by
 intro j d z hd hz
 match j with
 | 0 =>
  obtain rfl := Option.some.inj hd
  obtain rfl : x = z := by simpa using hz
  exact ha
 | 1 =>
  obtain rfl := Option.some.inj hd
  obtain rfl : y = z := by simpa using hz
  exact hb
 | j + 2 => simp at hd
theorem least_ins {p : List (List Ins)} {o : List Int} (hl : p.length <= 1048576) (ht : total p <= 1048576) (ho : o.length <= 1048576) :
  ∃ r,F_impl_LeastSchedule (p.map fun r => r.map ofIns) o = some r /\ F_spec_LeastSchedule (p.map fun r => r.map ofIns) o = some r /\ r.1.length <= 21 := by
 obtain ⟨l,b,h1,h2,h3,_⟩ := least_ret (p:=p.map fun r => r.map ofIns) (s:=o) ⟨by rw [List.length_map]; exact hl,by rw [total_map]; exact ht⟩ ho
 exact ⟨(l,b),h1,h2,h3⟩
theorem implLS {W : World} {p : List (List Ins)} {o : List Int} {q : List Int} {bb : Bool} {lo hi lo' hi' : Nat} {a c : Value} (hI : F_impl_LeastSchedule (p.map fun r => r.map ofIns) o = some (q,bb)) (h : SlSl Ins.cells 4 W lo hi a p) (h' : Sl int1 1 W lo' hi' c o) :
  Calls Try.prog 38 #[a,c] W fun e w' => (∃ v0,e = .returned (.tuple #[v0,.bool bb]) /\ OwF w' W.heap.size w'.heap.size v0 q) /\ Below W.heap.size W w' :=
 calls_of_own (F_impl_LeastSchedule_OP _ _ hI) rfl (args2 (frel_ins h) (frel_intsL h'))
theorem specLS {W : World} {p : List (List Ins)} {o : List Int} {q : List Int} {bb : Bool} {lo hi lo' hi' : Nat} {a c : Value} (hS : F_spec_LeastSchedule (p.map fun r => r.map ofIns) o = some (q,bb)) (h : SlSl Ins.cells 4 W lo hi a p) (h' : Sl int1 1 W lo' hi' c o) :
  Calls Try.prog 37 #[a,c] W fun e w' => (∃ v0,e = .returned (.tuple #[v0,.bool bb]) /\ Sl int1 1 w' 0 w'.heap.size v0 q) /\ Below W.heap.size W w' := by
 refine (calls_of_pure (F_spec_LeastSchedule_P _ _ hS) _ rfl (args2 (frel_ins h) (frel_intsL h'))).mono fun e w' ⟨v,fz',he,hb,hv⟩ => ⟨?_,hb⟩
 cases hv with
 | @tup _ us hus hu =>
  obtain ⟨us⟩ := us
  match us,hus with
  | [v0,v1],_ =>
   have h0 := hu 0 _ v0 rfl rfl
   obtain rfl := frel_v (hu 1 _ v1 rfl rfl)
   exact ⟨v0,he,ints_of_frel h0⟩
set_option maxHeartbeats 2000000 in
theorem law_FnExactLeastSchedule {u v : Value} {p : List (List Ins)} {o : List Int} {w : World} (hu : SlSl Ins.cells 4 w 0 w.heap.size u p) (hv : Sl int1 1 w 0 w.heap.size v o) :
  Calls Try.prog 8 #[u,v] w fun e w' => e = .returned (.bool true) /\ Below w.heap.size w w' := by
 have hv' := hv
 obtain ⟨A,ca,rfl,hca,hma,hA⟩ := hv'.ints
 clear hA hma hca
 have RP := Lib.hid hu; clear hu
 have RO := Lib.hid hv; clear hv
 have G := Lib.hid (Below.refl w.heap.size w)
 by_cases hlo : (o.length : Int) > 1048576
 ·go_enter Try.func8,Try.ntmps8
  go_wp2_with fail
  go_ret
  exact ⟨rfl,G.out⟩
 have hol : o.length <= 1048576 := by omega
 go_enter Try.func8,Try.ntmps8
 go_wp2_with fail
 refine (szInstrSS_any RP.out).mono ?_
 rintro e w1 ⟨⟨r,rfl,hr⟩,hb1⟩
 have s1 := hb1.size
 replace RP := Lib.hid (RP.out.below hb1 (by omega))
 replace RO := Lib.hid (RO.out.below hb1 (by omega))
 replace G := Lib.hid (G.out.trans (hb1.mono G.out.size))
 rcases hr with hr | ⟨hr0,hsz⟩
 ·go_wp2_with fail
  go_ret
  exact ⟨rfl,G.out⟩
 have hr1 : ¬ r < 0 := by omega
 have ht : total p <= 1048576 := by omega
 have hpl : p.length <= 1048576 := by omega
 clear hr0 hsz
 obtain ⟨⟨q,bb⟩,hI,hS,hq⟩ := least_ins (p:=p) (o:=o) hpl ht hol
 have HIM := Lib.hid (fun (W : World) lo hi a (h : SlSl Ins.cells 4 W lo hi a p) lo' hi' c (h' : Sl int1 1 W lo' hi' c o) => implLS (W:=W) hI h h')
 have HSP := Lib.hid (fun (W : World) lo hi a (h : SlSl Ins.cells 4 W lo hi a p) lo' hi' c (h' : Sl int1 1 W lo' hi' c o) => specLS (W:=W) hS h h')
 simp only at hq
 clear hI hS
 have d1 : decide (q = q) = true := by simp
 have d2 : decide (p = p) = true := by simp
 have d3 : decide (o = o) = true := by simp
 go_wp2_with fail
 refine (toInstrSS_any RP.out (by omega) hpl ht).mono ?_
 rintro e w2 ⟨⟨t2,rfl,hT2⟩,hb2⟩
 have T2 := Lib.hid hT2; clear hT2
 have s2 := hb2.size
 replace RP := Lib.hid (RP.out.below hb2 (by omega))
 replace RO := Lib.hid (RO.out.below hb2 (by omega))
 replace G := Lib.hid (G.out.trans (hb2.mono G.out.size))
 go_wp2_with fail
 refine (toIntS_any RO.out hol).mono ?_
 rintro e w3 ⟨⟨t3,rfl,hT3⟩,hb3⟩
 have T3 := Lib.hid hT3; clear hT3
 have s3 := hb3.size
 replace RP := Lib.hid (RP.out.below hb3 (by omega))
 replace RO := Lib.hid (RO.out.below hb3 (by omega))
 replace T2 := Lib.hid (T2.out.below hb3 (by omega))
 replace G := Lib.hid (G.out.trans (hb3.mono G.out.size))
 go_wp2_with fail
 refine (HSP.out _ _ _ _ T2.out.sl _ _ _ T3.out.sl).mono ?_
 rintro e w4 ⟨⟨v0,rfl,hV0⟩,hb4⟩
 have V0 := Lib.hid hV0; clear hV0
 have s4 := hb4.size
 replace RP := Lib.hid (RP.out.below hb4 (by omega))
 replace RO := Lib.hid (RO.out.below hb4 (by omega))
 replace T2 := Lib.hid (T2.out.below hb4 (by omega))
 replace T3 := Lib.hid (T3.out.below hb4 (by omega))
 replace G := Lib.hid (G.out.trans (hb4.mono G.out.size))
 clear T2
 clear T3
 go_wp2_with fail
 refine (toInstrSS_any RP.out (by omega) hpl ht).mono ?_
 rintro e w5 ⟨⟨x0,rfl,hX0⟩,hb5⟩
 have X0 := Lib.hid hX0; clear hX0
 have s5 := hb5.size
 replace RP := Lib.hid (RP.out.below hb5 (by omega))
 replace RO := Lib.hid (RO.out.below hb5 (by omega))
 replace V0 := Lib.hid (V0.out.below hb5 (by omega))
 replace G := Lib.hid (G.out.trans (hb5.mono G.out.size))
 go_wp2_with fail
 refine (toIntS_any RO.out hol).mono ?_
 rintro e w6 ⟨⟨x1,rfl,hX1⟩,hb6⟩
 have X1 := Lib.hid hX1; clear hX1
 have s6 := hb6.size
 replace RP := Lib.hid (RP.out.below hb6 (by omega))
 replace RO := Lib.hid (RO.out.below hb6 (by omega))
 replace V0 := Lib.hid (V0.out.below hb6 (by omega))
 replace X0 := Lib.hid (X0.out.below hb6 (by omega))
 replace G := Lib.hid (G.out.trans (hb6.mono G.out.size))
 go_wp2_with fail
 refine (HIM.out _ _ _ _ X0.out.sl _ _ _ X1.out.sl).mono ?_
 rintro e w7 ⟨⟨g0,rfl,hG0⟩,hb7⟩
 have G0 := Lib.hid hG0; clear hG0
 have s7 := hb7.size
 replace RP := Lib.hid (RP.out.below hb7 (by omega))
 replace RO := Lib.hid (RO.out.below hb7 (by omega))
 replace V0 := Lib.hid (V0.out.below hb7 (by omega))
 replace X0 := Lib.hid (X0.out.below hb7 (by omega))
 replace X1 := Lib.hid (X1.out.below hb7 (by omega))
 replace G := Lib.hid (G.out.trans (hb7.mono G.out.size))
 go_wp2_with fail
 refine (eqIntS_any G0.out.sl V0.out).mono ?_
 rintro e w8 ⟨rfl,hb8⟩
 have s8 := hb8.size
 replace RP := Lib.hid (RP.out.below hb8 (by omega))
 replace RO := Lib.hid (RO.out.below hb8 (by omega))
 replace V0 := Lib.hid (V0.out.below hb8 (by omega))
 replace X0 := Lib.hid (X0.out.below hb8 (by omega))
 replace X1 := Lib.hid (X1.out.below hb8 (by omega))
 replace G0 := Lib.hid (G0.out.below hb8 (by omega))
 replace G := Lib.hid (G.out.trans (hb8.mono G.out.size))
 go_wp2_with fail
 refine (toInstrSS_any RP.out (by omega) hpl ht).mono ?_
 rintro e w9 ⟨⟨y0,rfl,hY0⟩,hb9⟩
 have Y0 := Lib.hid hY0; clear hY0
 have s9 := hb9.size
 replace RP := Lib.hid (RP.out.below hb9 (by omega))
 replace RO := Lib.hid (RO.out.below hb9 (by omega))
 replace V0 := Lib.hid (V0.out.below hb9 (by omega))
 replace X0 := Lib.hid (X0.out.below hb9 (by omega))
 replace X1 := Lib.hid (X1.out.below hb9 (by omega))
 replace G0 := Lib.hid (G0.out.below hb9 (by omega))
 replace G := Lib.hid (G.out.trans (hb9.mono G.out.size))
 go_wp2_with fail
 refine (eqInstrSS_any X0.out.sl Y0.out.sl (by omega) (by omega)).mono ?_
 rintro e w10 ⟨rfl,hb10⟩
 have s10 := hb10.size
 replace RP := Lib.hid (RP.out.below hb10 (by omega))
 replace RO := Lib.hid (RO.out.below hb10 (by omega))
 replace V0 := Lib.hid (V0.out.below hb10 (by omega))
 replace X0 := Lib.hid (X0.out.below hb10 (by omega))
 replace X1 := Lib.hid (X1.out.below hb10 (by omega))
 replace G0 := Lib.hid (G0.out.below hb10 (by omega))
 replace Y0 := Lib.hid (Y0.out.below hb10 (by omega))
 replace G := Lib.hid (G.out.trans (hb10.mono G.out.size))
 clear Y0
 go_wp2_with fail
 refine (toIntS_any RO.out hol).mono ?_
 rintro e w11 ⟨⟨y1,rfl,hY1⟩,hb11⟩
 have Y1 := Lib.hid hY1; clear hY1
 have s11 := hb11.size
 replace RP := Lib.hid (RP.out.below hb11 (by omega))
 replace RO := Lib.hid (RO.out.below hb11 (by omega))
 replace V0 := Lib.hid (V0.out.below hb11 (by omega))
 replace X0 := Lib.hid (X0.out.below hb11 (by omega))
 replace X1 := Lib.hid (X1.out.below hb11 (by omega))
 replace G0 := Lib.hid (G0.out.below hb11 (by omega))
 replace G := Lib.hid (G.out.trans (hb11.mono G.out.size))
 go_wp2_with fail
 refine (eqIntS_any X1.out.sl Y1.out.sl).mono ?_
 rintro e w12 ⟨rfl,hb12⟩
 have s12 := hb12.size
 replace RP := Lib.hid (RP.out.below hb12 (by omega))
 replace RO := Lib.hid (RO.out.below hb12 (by omega))
 replace V0 := Lib.hid (V0.out.below hb12 (by omega))
 replace X0 := Lib.hid (X0.out.below hb12 (by omega))
 replace X1 := Lib.hid (X1.out.below hb12 (by omega))
 replace G0 := Lib.hid (G0.out.below hb12 (by omega))
 replace Y1 := Lib.hid (Y1.out.below hb12 (by omega))
 replace G := Lib.hid (G.out.trans (hb12.mono G.out.size))
 clear Y1
 go_wp2_with fail
 refine (markInstrSS_any X0.out (by decide) (by omega) (by omega) (by omega)).mono ?_
 rintro e w13 ⟨rfl,_,hb13⟩
 have s13 := hb13.size
 replace RP := Lib.hid (RP.out.fr hb13 (by omega))
 replace RO := Lib.hid (RO.out.fr hb13 (by omega))
 replace V0 := Lib.hid (V0.out.fr hb13 (by omega))
 replace X1 := Lib.hid (X1.out.fr hb13 (by omega))
 replace G0 := Lib.hid (G0.out.fr hb13 (by omega))
 replace G := Lib.hid (G.out.trans (hb13.below (by omega) G.out.size))
 go_wp2_with fail
 refine (markIntS_any X1.out (by omega) (by omega)).mono ?_
 rintro e w14 ⟨rfl,_,hb14⟩
 have s14 := hb14.size
 replace RP := Lib.hid (RP.out.fr hb14 (by omega))
 replace RO := Lib.hid (RO.out.fr hb14 (by omega))
 replace V0 := Lib.hid (V0.out.fr hb14 (by omega))
 replace G0 := Lib.hid (G0.out.fr hb14 (by omega))
 replace G := Lib.hid (G.out.trans (hb14.below (by omega) G.out.size))
 have d4 : ¬ (1 + 4 * (total p : Int) + (o.length : Int)) < 0 := by omega
 go_wp2_with fail
 refine (eqIntS_any G0.out.sl V0.out).mono ?_
 rintro e w15 ⟨rfl,hb15⟩
 have s15 := hb15.size
 replace RP := Lib.hid (RP.out.below hb15 (by omega))
 replace RO := Lib.hid (RO.out.below hb15 (by omega))
 replace V0 := Lib.hid (V0.out.below hb15 (by omega))
 replace G0 := Lib.hid (G0.out.below hb15 (by omega))
 replace G := Lib.hid (G.out.trans (hb15.mono G.out.size))
 go_wp2_with fail
 refine (markIntF_any G0.out (by decide) (by omega)).mono ?_
 rintro e w16 ⟨rfl,hM0,hb16⟩
 have M0 := Lib.hid hM0; clear hM0
 have s16 := hb16.size
 replace RP := Lib.hid (RP.out.fr hb16 (by omega))
 replace RO := Lib.hid (RO.out.fr hb16 (by omega))
 replace V0 := Lib.hid (V0.out.fr hb16 (by omega))
 replace G := Lib.hid (G.out.trans (hb16.below (by omega) G.out.size))
 go_wp2_with fail
 refine (heldIntS_any M0.out.sl (by omega) (by omega)).mono ?_
 rintro e w17 ⟨rfl,hb17⟩
 have s17 := hb17.size
 replace RP := Lib.hid (RP.out.below hb17 (by omega))
 replace RO := Lib.hid (RO.out.below hb17 (by omega))
 replace V0 := Lib.hid (V0.out.below hb17 (by omega))
 replace M0 := Lib.hid (M0.out.below hb17 (by omega))
 replace G := Lib.hid (G.out.trans (hb17.mono G.out.size))
 have d5 : ¬ (1 + (q.length : Int)) < 0 := by omega
 go_wp2_with fail
 refine (toInstrSS_any RP.out (by omega) hpl ht).mono ?_
 rintro e w18 ⟨⟨t4,rfl,hT4⟩,hb18⟩
 have T4 := Lib.hid hT4; clear hT4
 have s18 := hb18.size
 replace RP := Lib.hid (RP.out.below hb18 (by omega))
 replace RO := Lib.hid (RO.out.below hb18 (by omega))
 replace V0 := Lib.hid (V0.out.below hb18 (by omega))
 replace M0 := Lib.hid (M0.out.below hb18 (by omega))
 replace G := Lib.hid (G.out.trans (hb18.mono G.out.size))
 go_wp2_with fail
 refine (toIntS_any RO.out hol).mono ?_
 rintro e w19 ⟨⟨t5,rfl,hT5⟩,hb19⟩
 have T5 := Lib.hid hT5; clear hT5
 have s19 := hb19.size
 replace RP := Lib.hid (RP.out.below hb19 (by omega))
 replace RO := Lib.hid (RO.out.below hb19 (by omega))
 replace V0 := Lib.hid (V0.out.below hb19 (by omega))
 replace M0 := Lib.hid (M0.out.below hb19 (by omega))
 replace T4 := Lib.hid (T4.out.below hb19 (by omega))
 replace G := Lib.hid (G.out.trans (hb19.mono G.out.size))
 go_wp2_with fail
 refine (HIM.out _ _ _ _ T4.out.sl _ _ _ T5.out.sl).mono ?_
 rintro e w20 ⟨⟨h0,rfl,hH0⟩,hb20⟩
 have H0 := Lib.hid hH0; clear hH0
 have s20 := hb20.size
 replace RP := Lib.hid (RP.out.below hb20 (by omega))
 replace RO := Lib.hid (RO.out.below hb20 (by omega))
 replace V0 := Lib.hid (V0.out.below hb20 (by omega))
 replace M0 := Lib.hid (M0.out.below hb20 (by omega))
 replace T4 := Lib.hid (T4.out.below hb20 (by omega))
 replace T5 := Lib.hid (T5.out.below hb20 (by omega))
 replace G := Lib.hid (G.out.trans (hb20.mono G.out.size))
 clear T4
 clear T5
 go_wp2_with fail
 refine (eqIntS_any H0.out.sl V0.out).mono ?_
 rintro e w21 ⟨rfl,hb21⟩
 have s21 := hb21.size
 replace RP := Lib.hid (RP.out.below hb21 (by omega))
 replace RO := Lib.hid (RO.out.below hb21 (by omega))
 replace V0 := Lib.hid (V0.out.below hb21 (by omega))
 replace M0 := Lib.hid (M0.out.below hb21 (by omega))
 replace H0 := Lib.hid (H0.out.below hb21 (by omega))
 replace G := Lib.hid (G.out.trans (hb21.mono G.out.size))
 go_wp2_with fail
 refine (heldIntS_any M0.out.sl (by omega) (by omega)).mono ?_
 rintro e w22 ⟨rfl,hb22⟩
 have s22 := hb22.size
 replace RP := Lib.hid (RP.out.below hb22 (by omega))
 replace RO := Lib.hid (RO.out.below hb22 (by omega))
 replace V0 := Lib.hid (V0.out.below hb22 (by omega))
 replace M0 := Lib.hid (M0.out.below hb22 (by omega))
 replace H0 := Lib.hid (H0.out.below hb22 (by omega))
 replace G := Lib.hid (G.out.trans (hb22.mono G.out.size))
 go_wp2_with fail
 go_ret
 exact ⟨rfl,G.out⟩
end Go.Proofs.Ytlmjnhnpahicmaa
