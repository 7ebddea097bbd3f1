/-
  FnRaceThread's plain function is true at every code. Plain theorems. No conditions.
-/
import Derived.Test.YtjogdblionfmiaaD21a
import Derived.Test.YtjogdblionfmiaaD21b
import Derived.Test.YtjogdblionfmiaaDw2
import Derived.Test.YtjogdblionfmiaaDv
import Derived.Test.YtjogdblionfmiaaBrDid
namespace Go.Proofs.Ytjogdblionfmiaa
open Go.RowKit
set_option maxRecDepth 100000
theorem l9Gaps_ret {p : List (List Ximpl_Instr)} (hp : Sm p) : Ret (F_spec_l9Gaps p) fun _ => True := by
  have hpl := hp.1
  unfold F_spec_l9Gaps
  refine Ret.bind (P := fun _ => True) ?_ fun v hv => .pure trivial
  refine Ret.loop (fun s => 0 ≤ s.2 ∧ s.2 ≤ (p.length : Int) ∧ (s.1.length : Int) ≤ 10 * s.2) (fun s => ((p.length : Int) - s.2).toNat) ⟨Int.le_refl _, by simp only []; omega, by simp⟩ fun s ⟨h1, h2, h3⟩ => ?_
  unfold F_spec_l9Gaps_L4
  refine .bifD (fun h0 => ?_) fun _ => .pure trivial
  have hrow := hp.row s.2.toNat
  refine Ret.bind (P := fun v : List Ximpl_Gap => (v.length : Int) ≤ 10 * s.2 + 10) ?_ fun v hv => .gdI (by omega) (.pure ⟨⟨by simp only []; omega, by simp only []; omega, by simp only []; omega⟩, by simp only []; omega⟩)
  refine Ret.loop (fun t => 1 ≤ t.2 ∧ t.2 ≤ 10 ∧ (t.1.length : Int) ≤ 10 * s.2 + t.2) (fun t => (10 - t.2).toNat) ⟨Int.le_refl _, by simp only []; omega, by simp only []; omega⟩ fun t ⟨k1, k2, k3⟩ => ?_
  unfold F_spec_l9Gaps_L10
  refine .gdD ⟨h1, h0⟩ (.bifD (fun hk => ?_) fun _ => .pure (by omega))
  refine Ret.bind (P := fun v : List Ximpl_Gap => (v.length : Int) ≤ t.1.length + 1) (.gdI (by omega) (.gdD ⟨by omega, by omega⟩ ?_)) fun v hv => .gdI (by omega) (.pure ⟨⟨by simp only []; omega, by simp only []; omega, by simp only []; omega⟩, by simp only []; omega⟩)
  refine Ret.bind (P := fun _ => True) (.bif (fun _ => .gdD ⟨by omega, hk⟩ (.pure trivial)) fun _ => .pure trivial) fun _ _ => ?_
  exact .bif (fun _ => .gdC (by omega) rfl (.pure (by simp))) fun _ => .pure (by omega)
theorem parse9 : ([(⟨#[120, 61, 49, 59, 97, 61, 121, 124, 121, 61, 49, 59, 97, 61, 120]⟩ : ByteArray), (⟨#[120, 61, 49, 59, 121, 61, 49, 124, 97, 61, 121, 59, 98, 61, 120]⟩ : ByteArray), (⟨#[120, 61, 49, 59, 102, 101, 110, 99, 101, 59, 97, 61, 121, 124, 121, 61, 49, 59, 102, 101, 110, 99, 101, 59, 97, 61, 120]⟩ : ByteArray)] : List ByteArray).all parsedOk = true := by decide +kernel
theorem l9Draw_ret {k : Int} {r : Xspec_l17Rd} (h : Rd k r) (hk : k ≤ 10000) : Ret (F_spec_l9Draw r) fun v => Rd (k + 50) v.1 ∧ smP v.2 = true := by
  unfold F_spec_l9Draw
  refine (l8Small_ret h.mk' hk).bind fun v ⟨a1, a2⟩ => (l9Gaps_ret (smP_Sm a2)).bind fun g _ => .bifD (fun _ => ?_) fun _ => .pure ⟨a1.mk'.mono (by omega), a2⟩
  refine (of_ret a1.mk' (by omega) _ (by simp)).bind fun u ⟨b1, b2⟩ => ?_
  exact (parsed_ret (List.all_eq_true.1 parse9 _ b2)).bind fun w hw => .pure ⟨b1.mk'.mono (by omega), hw⟩
theorem parse10 : ([(⟨#[97, 61, 120, 58, 49, 59, 121, 61, 49, 124, 98, 61, 120, 58, 50]⟩ : ByteArray), (⟨#[120, 61, 49, 59, 120, 61, 50, 124, 121, 61, 49, 59, 97, 61, 121]⟩ : ByteArray), (⟨#[97, 61, 122, 58, 49, 124, 98, 61, 122, 58, 50, 124, 99, 61, 122, 58, 51]⟩ : ByteArray), (⟨#[97, 61, 120, 124, 98, 61, 120]⟩ : ByteArray), (⟨#[120, 61, 49, 59, 97, 61, 120, 58, 50, 124, 98, 61, 121, 59, 121, 61, 51]⟩ : ByteArray), (⟨#[97, 61, 120, 58, 49, 59, 98, 61, 121, 58, 49, 124, 97, 61, 121, 58, 50, 59, 98, 61, 120, 58, 50]⟩ : ByteArray)] : List ByteArray).all parsedOk = true := by decide +kernel
theorem l10Draw_ret {k : Int} {r : Xspec_l17Rd} (h : Rd k r) (hk : k ≤ 1000) : Ret (F_spec_l10Draw r) fun v => Rd (k + 60) v.1 ∧ smP v.2 = true := by
  unfold F_spec_l10Draw
  have hall := parse10
  have hl : ([(⟨#[97, 61, 120, 58, 49, 59, 121, 61, 49, 124, 98, 61, 120, 58, 50]⟩ : ByteArray), (⟨#[120, 61, 49, 59, 120, 61, 50, 124, 121, 61, 49, 59, 97, 61, 121]⟩ : ByteArray), (⟨#[97, 61, 122, 58, 49, 124, 98, 61, 122, 58, 50, 124, 99, 61, 122, 58, 51]⟩ : ByteArray), (⟨#[97, 61, 120, 124, 98, 61, 120]⟩ : ByteArray), (⟨#[120, 61, 49, 59, 97, 61, 120, 58, 50, 124, 98, 61, 121, 59, 121, 61, 51]⟩ : ByteArray), (⟨#[97, 61, 120, 58, 49, 59, 98, 61, 121, 58, 49, 124, 97, 61, 121, 58, 50, 59, 98, 61, 120, 58, 50]⟩ : ByteArray)] : List ByteArray) ≠ [] := by simp
  generalize ([(⟨#[97, 61, 120, 58, 49, 59, 121, 61, 49, 124, 98, 61, 120, 58, 50]⟩ : ByteArray), (⟨#[120, 61, 49, 59, 120, 61, 50, 124, 121, 61, 49, 59, 97, 61, 121]⟩ : ByteArray), (⟨#[97, 61, 122, 58, 49, 124, 98, 61, 122, 58, 50, 124, 99, 61, 122, 58, 51]⟩ : ByteArray), (⟨#[97, 61, 120, 124, 98, 61, 120]⟩ : ByteArray), (⟨#[120, 61, 49, 59, 97, 61, 120, 58, 50, 124, 98, 61, 121, 59, 121, 61, 51]⟩ : ByteArray), (⟨#[97, 61, 120, 58, 49, 59, 98, 61, 121, 58, 49, 124, 97, 61, 121, 58, 50, 59, 98, 61, 120, 58, 50]⟩ : ByteArray)] : List ByteArray) = l at hall hl ⊢
  have hpos : 0 < l.length := List.length_pos_iff.2 hl
  refine (pick_ret h.mk' (by omega) 2).bind fun v ⟨a1, a2, a3⟩ => .bif (fun _ => ?_) fun _ => ?_
  · refine (pick_ret a1.mk' (by omega) _).bind fun u ⟨b1, b2, b3⟩ => .gdD ⟨b2, by omega⟩ ?_
    have hlt : u.2.toNat < l.length := by omega
    have hm : l.getD u.2.toNat default ∈ l := by
      rw [List.getD_eq_getElem?_getD, List.getElem?_eq_getElem hlt]
      exact List.getElem_mem _
    exact (parsed_ret (List.all_eq_true.1 hall _ hm)).bind fun w hw => .pure ⟨b1.mk'.mono (by omega), hw⟩
  · exact (l9Draw_ret a1.mk' (by omega)).bind fun u ⟨b1, b2⟩ => .pure ⟨b1.mk'.mono (by omega), b2⟩
theorem draw21 {b : List Int} (hb : Bts b) : Ret (F_spec_DrawRacesOf b) Sm := by
  unfold F_spec_DrawRacesOf
  exact (open_ret hb).bind fun r h => (l10Draw_ret h.mk' (by omega)).bind fun v ⟨a1, a2⟩ => (l1Mutate_ret a1.mk' (by omega) a2).bind fun u ⟨b1, b2⟩ => .pure b2
section
variable {p : List (List Ximpl_Instr)} (hp : Sm p)
include hp
theorem iraces0 (hv : validB (toP p) = false) : Ret (F_impl_RacesOf p) (· = []) := by
  unfold F_impl_RacesOf
  refine (Ret.of (P := (· = false)) (show F_impl_ProgramValid p = some false by rw [show F_impl_ProgramValid p = some (validB (toP p)) from gd_true (decide_eq_true hp.sz), hv]) rfl).bind fun b hb => ?_
  subst hb
  exact .bif (fun _ => .pure rfl) fun h => by cases h
theorem sraces0 (hv : validB (toP p) = false) : Ret (F_spec_RacesOf p) (· = []) := by
  unfold F_spec_RacesOf
  refine Ret.bind (P := (· = [])) ?_ fun v hv => .pure hv
  refine Ret.loop (fun s => s = (([] : List Ximpl_Race), (0 : Int))) (fun _ => 0) rfl fun s hs => ?_
  subst hs
  unfold F_spec_RacesOf_L4
  refine Ret.bind (P := (· = false)) (.bifD (fun _ => (Ret.of (P := (· = false)) (show F_spec_ProgramValid p = some false by rw [show F_spec_ProgramValid p = some (validB (toP p)) from gd_true (decide_eq_true hp.sz), hv]) rfl).bind fun v hv => .pure hv) fun _ => .pure rfl) fun b hb => ?_
  subst hb
  exact .bif (fun h => by cases h) fun _ => .pure rfl
end
theorem law21 {b : List Int} (hb : Bts b) : F_laws_FnRaceThread b = some true := by
  refine Ret.eq ?_
  unfold F_laws_FnRaceThread
  refine .bifD (fun _ => .pure rfl) fun _ => (draw21 hb).bind fun p hp => ?_
  have hPV : F_impl_ProgramValid p = some (validB (toP p)) := gd_true (decide_eq_true hp.sz)
  cases hv : validB (toP p) with
  | false =>
    rw [hv] at hPV
    refine (iraces0 hp hv).bind fun v3 h3 => (sraces0 hp hv).bind fun v4 h4 => ?_
    subst h3 h4
    refine Ret.bind (P := (· = true)) (.bif (fun h => by simp at h) fun _ => (Ret.of (P := (· = false)) hPV rfl).bind fun v7 h7 => by subst h7; exact .pure rfl) fun s hs => ?_
    subst hs
    refine .bif (fun _ => (sraces0 hp hv).bind fun v9 h9 => ?_) fun h => by cases h
    subst h9
    exact .pure rfl
  | true =>
    rw [hv] at hPV
    refine (iraces hp hv).bind fun v3 h3 => (sraces hp hv).bind fun v4 h4 => ?_
    have h34 : v3.length = v4.length := by rw [h3, h4]
    refine Ret.bind (P := (· = false)) (.bif (fun h => by simp [h34] at h) fun _ => (Ret.of (P := (· = true)) hPV rfl).bind fun v7 h7 => by subst h7; exact .pure rfl) fun s hs => ?_
    subst hs
    refine .bif (fun h => by cases h) fun _ => .bif (fun h1 => ?_) fun h1 => ?_
    · have hl : p.length = 1 := by have := eq_of_beq h1; omega
      match p, hl with
      | [row], _ =>
        have h0 : v3.length = 0 := by rw [h3, tot_one]
        refine Ret.bind (P := (· = true)) (.bif (fun _ => ?_) fun h => by simp [h0] at h) fun s hs => .pure hs
        have hr : row.length ≤ 7 := (Vs.of hv).1.2 0
        obtain ⟨r, e1, e2⟩ := delay_one hr
        refine Ret.bind (P := (· = r)) ?_ fun v hv' => ?_
        · unfold F_impl_DelayRel
          refine (Ret.of (P := (· = true)) hPV rfl).bind fun b hb => ?_
          subst hb
          exact .bif (fun h => by cases h) fun _ => (Ret.of (P := (· = r)) e1 rfl).bind fun u hu => .pure hu
        · subst hv'
          exact (Ret.of (P := (· = 0)) e2 rfl).bind fun u hu => by subst hu; exact .pure rfl
    · have hl : p.length ≠ 1 := fun h => by rw [h] at h1; exact absurd h1 (by decide)
      have hpos : 0 < p.length := by
        simp only [validB, Bool.and_eq_true, decide_eq_true_eq] at hv
        simpa using hv.1.2
      match p, hpos with
      | row :: rest, _ =>
        have hs' : Sm rest := ⟨by have := hp.1; simp only [List.length_cons] at this; omega, fun r hr => hp.2 r (List.mem_cons_of_mem _ hr)⟩
        have hd : F_impl_DropThread (row :: rest) 0 = some (rest, true) := by
          have e : dropR (toP (row :: rest)) 0 = (toP rest, true) := by
            unfold dropR
            rw [if_pos]
            · rfl
            · simp only [thrB, Bool.and_eq_true, decide_eq_true_eq]
              refine ⟨⟨hv, ?_⟩, by rw [List.length_map]; exact hl⟩
              simp only [inB, Bool.and_eq_true, decide_eq_true_eq, List.length_map, List.length_cons]
              omega
          have e2 : F_impl_DropThread (row :: rest) 0 = some (ofP (dropR (toP (row :: rest)) 0).1, (dropR (toP (row :: rest)) 0).2) := gd_true (decide_eq_true hp.sz)
          rw [e2, e, ofP_toP]
        refine (Ret.of (P := (· = (rest, true))) hd rfl).bind fun v15 h15 => ?_
        subst h15
        refine Ret.bind (P := (· = true)) (.bif (fun _ => ?_) fun h => by cases h) fun s hs => .pure hs
        have htt := tot_tail row rest
        cases hv2 : validB (toP rest) with
        | false => exact (iraces0 hs' hv2).bind fun u hu => .pure (decide_eq_true (by rw [hu]; simp only [List.length_nil]; omega))
        | true => exact (iraces hs' hv2).bind fun u hu => .pure (decide_eq_true (by rw [hu, h3]; omega))
end Go.Proofs.Ytjogdblionfmiaa
