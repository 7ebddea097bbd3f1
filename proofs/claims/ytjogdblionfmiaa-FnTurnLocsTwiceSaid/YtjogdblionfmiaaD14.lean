/-
  FnTurnLocsTwice's plain function is true at every code. Plain theorems. No conditions.
-/
import Derived.Test.YtjogdblionfmiaaDq
import Derived.Test.YtjogdblionfmiaaPs
import Derived.Test.YtjogdblionfmiaaS14d
import Derived.Test.YtjogdblionfmiaaDv
import Derived.Test.YtjogdblionfmiaaDl
namespace Go.Proofs.Ytjogdblionfmiaa
open Go.RowKit
set_option maxRecDepth 100000
theorem getD_len {p q : List (List Ximpl_Instr)} (h : q.map List.length = p.map List.length) (i : Nat) : (q.getD i default).length = (p.getD i default).length := by
  have h1 : ∀ l : List (List Ximpl_Instr), (l.getD i default).length = (l.map List.length).getD i 0 := fun l => by
    by_cases hi : i < l.length
    · simp [hi]
    · rw [List.getD_eq_getElem?_getD, List.getD_eq_getElem?_getD, List.getElem?_eq_none (by omega), List.getElem?_eq_none (by simpa using hi)]
      rfl
  rw [h1, h1, h]
theorem lens_sz {p q : List (List Ximpl_Instr)} (h : q.map List.length = p.map List.length) (hp : Sm p) : (q.length ≤ 1048576 ∧ total q ≤ 1048576) ∧ ∀ r ∈ q, r.length ≤ 1048576 := by
  have hl : q.length = p.length := by have := congrArg List.length h; simpa using this
  have ht : total q = total p := by unfold total; rw [h]
  obtain ⟨h1, h2⟩ := hp.sz
  refine ⟨⟨by omega, by omega⟩, fun r hr => ?_⟩
  have h3 : r.length ∈ p.map List.length := by rw [← h]; exact List.mem_map.2 ⟨r, hr, rfl⟩
  obtain ⟨r', hr', e⟩ := List.mem_map.1 h3
  have := (hp.2 r' hr').1
  omega
/-- a place in a program -/
def inP (p : List (List Ximpl_Instr)) (g : Ximpl_Gap) : Prop := (0 ≤ g.Thread ∧ g.Thread < (p.length : Int)) ∧ 0 ≤ g.Index ∧ g.Index < ((p.getD g.Thread.toNat default).length : Int)
theorem instrs_ret {p : List (List Ximpl_Instr)} (hp : Sm p) : Ret (F_impl_instrs p) fun l => l.length ≤ 81 ∧ ∀ g ∈ l, inP p g := by
  unfold F_impl_instrs
  have hpl := hp.1
  refine Ret.bind (P := fun l : List Ximpl_Gap => l.length ≤ 81 ∧ ∀ g ∈ l, inP p g) ?_ fun v hv => .pure hv
  refine Ret.loop (fun s => (0 ≤ s.2 ∧ s.2 ≤ (p.length : Int) ∧ (s.1.length : Int) ≤ 9 * s.2) ∧ ∀ g ∈ s.1, inP p g) (fun s => ((p.length : Int) - s.2).toNat) ⟨⟨Int.le_refl _, by simp only []; omega, by simp⟩, by simp⟩ fun s ⟨⟨h1, h2, h3⟩, h4⟩ => ?_
  unfold F_impl_instrs_L6
  refine .bifD (fun h0 => ?_) fun h0 => .pure ⟨by omega, h4⟩
  have hrow := hp.row s.2.toNat
  refine Ret.bind (P := fun l : List Ximpl_Gap => (l.length : Int) ≤ 9 * s.2 + 9 ∧ ∀ g ∈ l, inP p g) (.gdD ⟨h1, h0⟩ ?_) fun v ⟨g1, g2⟩ => .gdI (by omega) (.pure ⟨⟨⟨by simp only []; omega, by simp only []; omega, by simp only []; omega⟩, g2⟩, by simp only []; omega⟩)
  refine Ret.loop (fun t => (0 ≤ t.2 ∧ t.2 ≤ ((p.getD s.2.toNat default).length : Int) ∧ (t.1.length : Int) ≤ 9 * s.2 + t.2) ∧ ∀ g ∈ t.1, inP p g) (fun t => (((p.getD s.2.toNat default).length : Int) - t.2).toNat) ⟨⟨Int.le_refl _, by simp only []; omega, by simp only []; omega⟩, h4⟩ fun t ⟨⟨k1, k2, k3⟩, k4⟩ => ?_
  unfold F_impl_instrs_L17
  refine .bifD (fun hk => .gdC (by omega) rfl (.gdI (by omega) (.pure ⟨⟨⟨by simp only []; omega, by simp only []; omega, by simp only [List.length_append, List.length_cons, List.length_nil]; omega⟩, fun g hg => ?_⟩, by simp only []; omega⟩))) fun hk => .pure ⟨by omega, k4⟩
  rcases List.mem_append.1 hg with hg | hg
  · exact k4 g hg
  · rw [List.mem_singleton.1 hg]
    exact ⟨⟨h1, h0⟩, k1, hk⟩
theorem writes_ret (x : Ximpl_Instr) : Ret (F_impl_Instr_writes x) fun _ => True := by
  unfold F_impl_Instr_writes
  exact Ret.bind (P := fun _ => True) (.bif (fun _ => .pure trivial) fun _ => .pure trivial) fun _ _ => Ret.bind (P := fun _ => True) (.bif (fun _ => .pure trivial) fun _ => .pure trivial) fun _ _ => .pure trivial
theorem conflict_ret (x y : Ximpl_Instr) : Ret (F_impl_conflict x y) fun _ => True := by
  unfold F_impl_conflict
  refine Ret.bind (P := fun _ => True) (.bif (fun _ => .pure trivial) fun _ => .pure trivial) fun _ _ => Ret.bind (P := fun _ => True) (.bif (fun _ => .pure trivial) fun _ => .pure trivial) fun _ _ => ?_
  refine Ret.bind (P := fun _ => True) (.bif (fun _ => ?_) fun _ => .pure trivial) fun _ _ => .pure trivial
  exact (writes_ret x).bind fun _ _ => Ret.bind (P := fun _ => True) (.bif (fun _ => .pure trivial) fun _ => (writes_ret y).bind fun _ _ => .pure trivial) fun _ _ => .pure trivial
theorem mem_getD {α : Type} [Inhabited α] {l : List α} {i : Int} (h : 0 ≤ i ∧ i < (l.length : Int)) : l.getD i.toNat default ∈ l := by
  have hi : i.toNat < l.length := by omega
  rw [List.getD_eq_getElem?_getD, List.getElem?_eq_getElem hi]
  exact List.getElem_mem _
theorem races_ret {p : List (List Ximpl_Instr)} (hp : Sm p) : Ret (F_impl_RacesOf p) fun _ => True := by
  unfold F_impl_RacesOf
  have hv : Ret (F_impl_ProgramValid p) fun _ => True := .gdD hp.sz (.pure trivial)
  refine hv.bind fun b _ => .bif (fun _ => .pure trivial) fun _ => ?_
  refine Ret.bind (P := fun _ => True) ?_ fun _ _ => .pure trivial
  refine (instrs_ret hp).bind fun l ⟨hl, hg⟩ => ?_
  refine Ret.loop (fun s => 0 ≤ s.2 ∧ s.2 ≤ (l.length : Int) ∧ (s.1.length : Int) ≤ 81 * s.2) (fun s => ((l.length : Int) - s.2).toNat) ⟨Int.le_refl _, by simp only []; omega, by simp⟩ fun s ⟨h1, h2, h3⟩ => ?_
  unfold F_impl_RacesOf_L9
  refine .bifD (fun h0 => ?_) fun _ => .pure trivial
  have hin := hg _ (mem_getD ⟨h1, h0⟩)
  refine Ret.bind (P := fun x : List Ximpl_Race => (x.length : Int) ≤ 81 * s.2 + 81) (.gdD ⟨h1, h0⟩ ?_) fun v g1 => .gdI (by omega) (.pure ⟨⟨by simp only []; omega, by simp only []; omega, by simp only []; omega⟩, by simp only []; omega⟩)
  refine (instrs_ret hp).bind fun l2 ⟨hl2, hg2⟩ => ?_
  refine Ret.loop (fun t => 0 ≤ t.2 ∧ t.2 ≤ (l2.length : Int) ∧ (t.1.length : Int) ≤ 81 * s.2 + t.2) (fun t => ((l2.length : Int) - t.2).toNat) ⟨Int.le_refl _, by simp only []; omega, by simp only []; omega⟩ fun t ⟨k1, k2, k3⟩ => ?_
  unfold F_impl_RacesOf_L21
  refine .bifD (fun hk => ?_) fun _ => .pure (by omega)
  have hin2 := hg2 _ (mem_getD ⟨k1, hk⟩)
  refine Ret.bind (P := fun x : List Ximpl_Race => (x.length : Int) ≤ t.1.length + 1) (.gdD ⟨k1, hk⟩ (.gdD hin.1 (.gdD hin.2 (.gdD hin2.1 (.gdD hin2.2 ?_))))) fun v g1 => .gdI (by omega) (.pure ⟨⟨by simp only []; omega, by simp only []; omega, by simp only []; omega⟩, by simp only []; omega⟩)
  refine Ret.bind (P := fun _ => True) (.bif (fun _ => (conflict_ret _ _).bind fun _ _ => .pure trivial) fun _ => .pure trivial) fun _ _ => ?_
  refine Ret.bind (P := fun _ => True) (.bif (fun _ => Ret.bind (P := fun _ => True) (.bif (fun _ => .pure trivial) fun _ => .pure trivial) fun _ _ => .pure trivial) fun _ => .pure trivial) fun _ _ => ?_
  exact .bif (fun _ => .gdC (by omega) rfl (.pure (by simp))) fun _ => .pure (by omega)
/-- an instruction with two locations exchanged -/
def tl (i k : Int) (x : Ximpl_Instr) : Ximpl_Instr := ofIns (tlocF i k (toIns x))
theorem tl_op (i k : Int) (x : Ximpl_Instr) : (tl i k x).Op = x.Op := op_turn i k (toIns x)
theorem conflict_turn (i k : Int) (x y : Ximpl_Instr) : F_impl_conflict (tl i k x) (tl i k y) = F_impl_conflict x y := by
  have hw : ∀ z, F_impl_Instr_writes (tl i k z) = F_impl_Instr_writes z := fun z => by
    unfold F_impl_Instr_writes
    rw [tl_op]
  unfold F_impl_conflict
  rw [tl_op, tl_op]
  by_cases h1 : x.Op = 4
  · simp [h1]
  by_cases h2 : y.Op = 4
  · simp [h2]
  have hl : ∀ z : Ximpl_Instr, z.Op ≠ 4 → (tl i k z).Loc = turnI z.Loc i k := fun z hz => by
    unfold tl tlocF
    rw [if_neg (show ¬ (toIns z).op = 4 from hz)]
    rfl
  rw [hl x h1, hl y h2, hw x, hw y]
  have he : (turnI x.Loc i k == turnI y.Loc i k) = (x.Loc == y.Loc) := by
    rw [Bool.eq_iff_iff, beq_iff_eq, beq_iff_eq]
    unfold turnI
    split <;> split <;> (try split) <;> (try split) <;> omega
  rw [he]
section
variable {p q : List (List Ximpl_Instr)} {i k : Int}
theorem instrs_congr (h : q.map List.length = p.map List.length) : F_impl_instrs q = F_impl_instrs p := by
  have hl : q.length = p.length := by have := congrArg List.length h; simpa using this
  have e : F_impl_instrs_L17 q = F_impl_instrs_L17 p := by
    funext a b
    unfold F_impl_instrs_L17
    rw [getD_len h]
  have e2 : F_impl_instrs_L6 q = F_impl_instrs_L6 p := by
    funext s
    unfold F_impl_instrs_L6
    rw [hl, e]
  unfold F_impl_instrs
  rw [e2]
theorem getD_turn (p : List (List Ximpl_Instr)) {a b : Int} (ha : 0 ≤ a ∧ a < (p.length : Int)) (hb : 0 ≤ b ∧ b < ((p.getD a.toNat default).length : Int)) : ((p.map (List.map (tl i k))).getD a.toNat default).getD b.toNat default = tl i k ((p.getD a.toNat default).getD b.toNat default) := by
  have h1 : a.toNat < p.length := by omega
  have e1 : p.getD a.toNat default = p[a.toNat] := by simp [h1]
  have e2 : (p.map (List.map (tl i k))).getD a.toNat default = p[a.toNat].map (tl i k) := by simp [h1]
  rw [e1] at hb ⊢
  rw [e2]
  have h2 : b.toNat < p[a.toNat].length := by omega
  simp [h2]
theorem races_congr (hv : validB (toP (p.map (List.map (tl i k)))) = validB (toP p)) (hs : p.length ≤ 1048576 ∧ total p ≤ 1048576) : F_impl_RacesOf (p.map (List.map (tl i k))) = F_impl_RacesOf p := by
  have hln : (p.map (List.map (tl i k))).map List.length = p.map List.length := by simp [Function.comp_def]
  have ht : total (p.map (List.map (tl i k))) = total p := by unfold total; rw [hln]
  have hl : (p.map (List.map (tl i k))).length = p.length := List.length_map _
  have ep : F_impl_ProgramValid (p.map (List.map (tl i k))) = F_impl_ProgramValid p := by
    rw [show F_impl_ProgramValid p = some (validB (toP p)) from gdD_eq hs rfl, show F_impl_ProgramValid (p.map (List.map (tl i k))) = some (validB (toP (p.map (List.map (tl i k))))) from gdD_eq (by rw [hl, ht]; exact hs) rfl, hv]
  have e21 : F_impl_RacesOf_L21 (p.map (List.map (tl i k))) = F_impl_RacesOf_L21 p := by
    funext v4 s8 v16 s20
    unfold F_impl_RacesOf_L21
    simp only [hl, getD_len hln]
    refine cond_congr' (bind_congr' (gdD_congr' fun _ => gdD_congr' fun a1 => gdD_congr' fun a2 => gdD_congr' fun b1 => gdD_congr' fun b2 => ?_) fun _ => rfl) rfl
    rw [getD_turn p a1 a2, getD_turn p b1 b2]
    simp only [tl_op]
    refine bind_congr' (cond_congr' (bind_congr' ?_ fun _ => rfl) rfl) fun _ => rfl
    have e : ∀ z : Ximpl_Instr, (⟨z.Op, (tl i k z).Loc, (tl i k z).Reg, (tl i k z).Val⟩ : Ximpl_Instr) = tl i k z := fun z => by rw [← tl_op i k z]
    rw [e, e]
    exact conflict_turn i k _ _
  have e9 : F_impl_RacesOf_L9 (p.map (List.map (tl i k))) = F_impl_RacesOf_L9 p := by
    funext a b
    unfold F_impl_RacesOf_L9
    rw [e21, instrs_congr hln]
  unfold F_impl_RacesOf
  rw [ep, e9, instrs_congr hln]
end
theorem ofP_turn (i k : Int) (p : List (List Ximpl_Instr)) : ofP ((toP p).map (List.map (tlocF i k))) = p.map (List.map (tl i k)) := by
  simp only [ofP, toP, List.map_map]
  refine List.map_congr_left fun r _ => ?_
  simp only [Function.comp, List.map_map]
  rfl
theorem draw14 {b : List Int} (hb : Bts b) : Ret (F_spec_DrawTurnLocs b) fun v => Sm v.1 := by
  unfold F_spec_DrawTurnLocs
  refine Ret.bind (P := fun v : List (List Ximpl_Instr) × Int × Int => Sm v.1) ?_ fun v hv => .pure hv
  unfold F_spec_l12Two
  exact (open_ret hb).bind fun r h => (l8Small_ret h.mk' (by omega)).bind fun v ⟨a1, a2⟩ => (l1Mutate_ret a1.mk' (by omega) a2).bind fun u ⟨b1, b2⟩ => (num_ret b1.mk' (by omega) _ (by simp)).bind fun x ⟨c1, _⟩ => (num_ret c1.mk' (by omega) _ (by simp)).bind fun y _ => .pure b2
theorem ce_eq {p : List (List Ximpl_Instr)} (hs : p.length ≤ 1048576 ∧ total p ≤ 1048576) : F_impl_CountExecs p = some (bif !validB (toP p) then 0 else (cap3 (execsT (toP p)) : Nat)) := by
  unfold F_impl_CountExecs
  rw [show F_impl_ProgramValid p = some (validB (toP p)) from gdD_eq hs rfl, show F_impl_execs p = some ((cap3 (execsT (toP p)) : Nat) : Int) from gdD_eq hs rfl]
  show (bif !validB (toP p) then some (0 : Int) else some ((cap3 (execsT (toP p)) : Nat) : Int)) = _
  cases validB (toP p) <;> rfl
theorem law14 {b : List Int} (hb : Bts b) : F_laws_FnTurnLocsTwice b = some true := by
  refine Ret.eq ?_
  unfold F_laws_FnTurnLocsTwice
  refine .bifD (fun _ => .pure rfl) fun _ => (draw14 hb).bind fun v hp => ?_
  obtain ⟨p, i, k⟩ := v
  simp only at hp ⊢
  have hsz := hp.sz
  have hi : ∀ q : List (List Ximpl_Instr), q.length ≤ 1048576 ∧ total q ≤ 1048576 → F_impl_TurnLocs q i k = some (ofP (locR (toP q) i k).1, (locR (toP q) i k).2) := fun q hq => gdD_eq hq rfl
  have hsp : F_spec_TurnLocs p i k = some (ofP (locR (toP p) i k).1, (locR (toP p) i k).2) := gdD_eq hsz rfl
  refine (Ret.of (P := (· = (ofP (locR (toP p) i k).1, (locR (toP p) i k).2))) (hi p hsz) rfl).bind fun v hv => (Ret.of (P := (· = v)) (hsp.trans (by rw [hv])) rfl).bind fun v' hv' => ?_
  subst hv'
  subst hv
  by_cases hn : (locR (toP p) i k).2 = true
  · obtain ⟨htw, hQ, hv1, hbi, hbk⟩ := locR_twice hn
    have hval : validB (locR (toP p) i k).1 = validB (toP p) := by rw [hQ]; exact valid_turn hbi hbk _
    have hex : execsT (locR (toP p) i k).1 = execsT (toP p) := by rw [hQ]; exact execsT_turn hbi hbk _
    have hq : (ofP (locR (toP p) i k).1) = p.map (List.map (tl i k)) := by rw [hQ]; exact ofP_turn i k p
    have hln : (ofP (locR (toP p) i k).1).map List.length = p.map List.length := by rw [hq]; simp [Function.comp_def]
    have hrc : F_impl_RacesOf (ofP (locR (toP p) i k).1) = F_impl_RacesOf p := by
      have := races_congr (p := p) (i := i) (k := k) (by rw [← hq, toP_ofP]; exact hval) hsz
      rw [hq]
      exact this
    rw [hn]
    generalize hR : (locR (toP p) i k).1 = Q at hval htw hex hln hrc
    obtain ⟨z1, z2⟩ := lens_sz hln hp
    obtain ⟨z3, z4⟩ := lens_sz (p := p) rfl hp
    refine Ret.bind (P := (· = false)) (.bif (fun h => by simp at h) fun _ => (same_ret _ z1.1 z2).bind fun s hs => .pure (by rw [hs]; rfl)) fun s hs => ?_
    subst hs
    refine Ret.bind (P := (· = false)) (.bif (fun h => by simp at h) fun _ => .pure rfl) fun s hs => ?_
    subst hs
    refine .bif (fun h => by simp at h) fun _ => ?_
    have hi2 := hi (ofP Q) z1
    rw [toP_ofP, htw] at hi2
    refine (Ret.of (P := (· = (ofP (toP p), true))) hi2 rfl).bind fun w hw => ?_
    subst hw
    refine Ret.bind (P := (· = true)) (.bif (fun _ => ?_) fun h => by simp at h) fun s hs => ?_
    · simp only [ofP_toP]
      exact (same_ret _ z3.1 z4).bind fun s hs => .pure hs
    subst hs
    have c1 := ce_eq z1
    have c2 := ce_eq z3
    rw [toP_ofP, hval, hex] at c1
    obtain ⟨l, e, _⟩ := races_ret hp
    refine Ret.bind (P := (· = true)) (.bif (fun _ => ?_) fun h => by simp at h) fun s hs => ?_
    · rw [c1, c2]
      exact .pure (by simp)
    subst hs
    refine Ret.bind (P := (· = true)) (.bif (fun _ => ?_) fun h => by simp at h) fun s hs => .pure hs
    rw [hrc, e]
    exact .pure (by simp)
  · have h2 : locR (toP p) i k = ([], false) := by
      unfold locR at hn ⊢
      split
      · rename_i hc
        rw [if_pos hc] at hn
        exact absurd rfl hn
      · rfl
    rw [h2]
    refine Ret.bind (P := (· = false)) (.bif (fun h => by simp at h) fun _ => (same_ret _ (by simp [ofP]) (by simp [ofP])).bind fun s hs => .pure (by rw [hs]; rfl)) fun s hs => ?_
    subst hs
    refine Ret.bind (P := (· = true)) (.bif (fun h => by simp at h) fun _ => .pure rfl) fun s hs => ?_
    subst hs
    refine .bif (fun _ => ?_) fun h => by simp at h
    exact Ret.bind (P := (· = true)) (.bif (fun _ => (same_ret _ (by simp [ofP]) (by simp [ofP])).bind fun s hs => .pure hs) fun h => by simp at h) fun s hs => .pure hs
end Go.Proofs.Ytjogdblionfmiaa
