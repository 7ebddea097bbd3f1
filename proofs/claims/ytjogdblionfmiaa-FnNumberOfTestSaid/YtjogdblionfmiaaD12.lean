/-
  FnNumberOfTest's plain function is true at every code. Plain theorems. No conditions.
-/
import Derived.Test.YtjogdblionfmiaaDp
import Derived.Test.YtjogdblionfmiaaPs
import Derived.Test.YtjogdblionfmiaaS12d
import Derived.Test.YtjogdblionfmiaaBr2
namespace Go.Proofs.Ytjogdblionfmiaa
open Go.RowKit
set_option maxRecDepth 100000
theorem within_ret (x lo hi : Int) : Ret (F_impl_within x lo hi) (· = (decide (lo ≤ x) && decide (x ≤ hi))) := by
  unfold F_impl_within
  refine Ret.bind (P := (· = (decide (lo ≤ x) && decide (x ≤ hi)))) ?_ fun v hv => .pure hv
  refine .bifD (fun h => .pure ?_) fun h => .pure ?_
  · simp [h]
  · simp [h]
theorem idx_is {x : Ins} {a : Nat} (h : idxI smalls x = a) (ha : a < 6) : smalls[a]? = some x := by
  unfold idxI at h
  split at h
  · rename_i hl
    have : smalls.idxOf x = a := by omega
    rw [← this, List.getElem?_eq_getElem hl, List.getElem_idxOf]
  · omega
theorem numAt_cons {x : Ins} {l : List Ins} {m n : Int} (h : numAt (x :: l) m = (n, true)) : ∃ a : Nat, a < 6 ∧ smalls[a]? = some x ∧ numAt l (6 * m + a) = (n, true) := by
  unfold numAt at h
  split at h
  · simp at h
  · rename_i hx
    rcases idx_small x with h1 | ⟨a, h1, h2⟩
    · omega
    · exact ⟨a, h2, idx_is h1 h2, by rw [← h1]; exact h⟩
/-- a program with a number -/
theorem numR_inv {p : List (List Ins)} {n : Int} (h : numR p = (n, true)) : ∃ a b c d : Nat, (a < 6 ∧ b < 6 ∧ c < 6 ∧ d < 6) ∧ n = 216 * a + 36 * b + 6 * c + d ∧
    ∃ x y z u, p = [[x, y], [z, u]] ∧ smalls[a]? = some x ∧ smalls[b]? = some y ∧ smalls[c]? = some z ∧ smalls[d]? = some u := by
  unfold numR at h
  split at h
  · rename_i hs
    match p, hs with
    | [[x, y], [z, u]], _ =>
      obtain ⟨a, a1, a2, h⟩ := numAt_cons h
      obtain ⟨b, b1, b2, h⟩ := numAt_cons h
      obtain ⟨c, c1, c2, h⟩ := numAt_cons h
      obtain ⟨d, d1, d2, h⟩ := numAt_cons h
      have h' : (6 * (6 * (6 * (6 * 0 + (a : Int)) + b) + c) + d : Int) = n := congrArg Prod.fst h
      exact ⟨a, b, c, d, ⟨a1, b1, c1, d1⟩, by omega, x, y, z, u, rfl, a2, b2, c2, d2⟩
  · simp at h
theorem small_at (a : Nat) (ha : a < 6) {x : Ins} (h : smalls[a]? = some x) {l : List Ximpl_Instr} (hl : F_impl_smallInstrs = some l) {i : Int} (hi : i = a) : l.getD i.toNat default = ofIns x := by
  subst hi
  have := Option.some.inj hl
  subst this
  match a, ha with
  | 0, _ | 1, _ | 2, _ | 3, _ | 4, _ | 5, _ =>
    obtain rfl := Option.some.inj h
    rfl
theorem test_ret {a b c d : Nat} (h : a < 6 ∧ b < 6 ∧ c < 6 ∧ d < 6) {x y z u : Ins} (hx : smalls[a]? = some x) (hy : smalls[b]? = some y) (hz : smalls[c]? = some z) (hu : smalls[d]? = some u) :
    Ret (F_impl_SmallTest (216 * a + 36 * b + 6 * c + d)) (· = ([[ofIns x, ofIns y], [ofIns z, ofIns u]], true)) := by
  unfold F_impl_SmallTest
  refine (Ret.of (P := (· = 1296)) (show F_impl_SmallTests = some 1296 from rfl) rfl).bind fun v hv => ?_
  subst hv
  refine .gdI (by omega) ((within_ret _ _ _).bind fun w hw => ?_)
  have : w = true := by rw [hw]; simp; omega
  subst this
  refine .bif (fun h => by simp at h) fun _ => ?_
  refine Ret.bind (P := (· = [[ofIns x, ofIns y], [ofIns z, ofIns u]])) ?_ fun v hv => .pure (by rw [hv])
  unfold F_impl_smallTest
  have e0 : ∃ l, F_impl_smallInstrs = some l ∧ l.length = 6 := ⟨_, rfl, rfl⟩
  obtain ⟨l, e1, e2⟩ := e0
  refine (Ret.of (P := (· = l)) e1 rfl).bind fun v hv => ?_
  subst hv
  obtain ⟨h1, h2, h3, h4⟩ := h
  have t1 : Int.tdiv (216 * a + 36 * b + 6 * c + d) 216 = a := by rw [Int.tdiv_eq_ediv_of_nonneg (by omega)]; omega
  have t2 : Int.tmod (Int.tdiv (216 * a + 36 * b + 6 * c + d) 36) 6 = b := by
    rw [Int.tdiv_eq_ediv_of_nonneg (by omega), Int.tmod_eq_emod_of_nonneg (by omega)]
    omega
  have t3 : Int.tmod (Int.tdiv (216 * a + 36 * b + 6 * c + d) 6) 6 = c := by
    rw [Int.tdiv_eq_ediv_of_nonneg (by omega), Int.tmod_eq_emod_of_nonneg (by omega)]
    omega
  have t4 : Int.tmod (216 * a + 36 * b + 6 * c + d) 6 = d := by
    rw [Int.tmod_eq_emod_of_nonneg (by omega)]
    omega
  have t5 : 0 ≤ Int.tdiv (216 * a + 36 * b + 6 * c + d) 36 ∧ Int.tdiv (216 * a + 36 * b + 6 * c + d) 36 ≤ 10000 := by
    rw [Int.tdiv_eq_ediv_of_nonneg (by omega)]
    omega
  have t6 : 0 ≤ Int.tdiv (216 * a + 36 * b + 6 * c + d) 6 ∧ Int.tdiv (216 * a + 36 * b + 6 * c + d) 6 ≤ 10000 := by
    rw [Int.tdiv_eq_ediv_of_nonneg (by omega)]
    omega
  rw [small_at a h1 hx e1 t1, small_at b h2 hy e1 t2, small_at c h3 hz e1 t3, small_at d h4 hu e1 t4]
  refine .gdD (by decide) (.gdI (by omega) (.gdD (by omega) (.gdD (by decide) (.gdI (by omega) (.gdD (by decide) (.gdD (by omega) (.gdI (by omega) (.gdD (by omega) (.gdD (by omega) (.pure rfl))))))))))
theorem ins_ext {x : Ximpl_Instr} {y : Ins} (h : toIns x = y) : x = ofIns y := by
  subst h
  rfl
theorem toP_two {p : List (List Ximpl_Instr)} {x y z u : Ins} (h : toP p = [[x, y], [z, u]]) : p = [[ofIns x, ofIns y], [ofIns z, ofIns u]] := by
  match p, h with
  | [[a, b], [c, d]], h =>
    simp only [toP, List.map_cons, List.map_nil, List.cons.injEq, and_true] at h
    obtain ⟨⟨h1, h2⟩, h3, h4⟩ := h
    rw [ins_ext h1, ins_ext h2, ins_ext h3, ins_ext h4]
theorem l14_ret (n : Int) (hn : 0 ≤ n ∧ n ≤ 100000) : Ret (F_spec_l14Test n) Sm := by
  unfold F_spec_l14Test
  have e0 : ∃ l, F_spec_l14Instrs = some l ∧ l.length = 6 ∧ ∀ x ∈ l, smI x = true := ⟨_, rfl, rfl, by decide⟩
  obtain ⟨l, e1, e2, e3⟩ := e0
  refine (Ret.of (P := (· = l)) e1 rfl).bind fun v hv => ?_
  subst hv
  refine Ret.bind (P := Sm) ?_ fun v hv => .pure hv
  refine Ret.loop (fun s => (s.1.length = 2 ∧ -1 ≤ s.2.1 ∧ s.2.1 ≤ 3 ∧ 0 ≤ s.2.2 ∧ s.2.2 ≤ 100000) ∧ ∀ r ∈ s.1, (r.length : Int) + s.2.1 ≤ 3 ∧ ∀ x ∈ r, smI x = true) (fun s => (s.2.1 + 1).toNat) ⟨by simp; omega, by simp⟩ fun s ⟨⟨h1, h2, h3, h4, h5⟩, h6⟩ => ?_
  unfold F_spec_l14Test_L5
  refine .bifD (fun h0 => ?_) fun h0 => .pure ⟨by omega, fun r hr => ⟨by have := (h6 r hr).1; omega, (h6 r hr).2⟩⟩
  have q1 : 0 ≤ Int.tdiv s.2.1 2 ∧ Int.tdiv s.2.1 2 < 2 := by rw [Int.tdiv_eq_ediv_of_nonneg h0]; omega
  have q2 := tmodB (a := s.2.2) (n := (v.length : Int)) h4 (by omega)
  have q3 := tdivB (a := s.2.2) (n := (v.length : Int)) h4 (by omega)
  have q4 : (Int.tdiv s.2.1 2).toNat < s.1.length := by omega
  have q5 : s.1.getD (Int.tdiv s.2.1 2).toNat default ∈ s.1 := by
    rw [List.getD_eq_getElem?_getD, List.getElem?_eq_getElem q4]
    exact List.getElem_mem _
  have q6 := h6 _ q5
  have q7 : (Int.tmod s.2.2 (v.length : Int)).toNat < v.length := by omega
  have q8 : v.getD (Int.tmod s.2.2 (v.length : Int)).toNat default ∈ v := by
    rw [List.getD_eq_getElem?_getD, List.getElem?_eq_getElem q7]
    exact List.getElem_mem _
  refine .gdD (by decide) (.gdI (by omega) (.gdD (by omega) (.gdD q2 (.gdD (by omega) (.gdC (by simp only [List.length_cons, List.length_nil]; omega) rfl (.gdI (by omega) (.gdI (by omega) (.pure ⟨⟨⟨by simp only [List.length_set]; exact h1, by simp only []; omega, by simp only []; omega, q3.1, Int.le_trans q3.2 h5⟩, fun r hr => ?_⟩, by simp only []; omega⟩))))))))
  rcases List.mem_or_eq_of_mem_set hr with hr | rfl
  · exact ⟨by have := (h6 r hr).1; simp only []; omega, (h6 r hr).2⟩
  · refine ⟨by simp only [List.length_append, List.length_cons, List.length_nil]; omega, fun x hx => ?_⟩
    rcases List.mem_append.1 hx with hx | hx
    · rw [List.mem_singleton.1 hx]
      exact e3 _ q8
    · exact q6.2 x hx
theorem draw12 {b : List Int} (hb : Bts b) : Ret (F_spec_DrawNumberOfTest b) Sm := by
  unfold F_spec_DrawNumberOfTest
  refine (open_ret hb).bind fun r h => (pick_ret h.mk' (by omega) 3).bind fun v ⟨a1, a2, a3⟩ => .bif (fun _ => ?_) fun _ => ?_
  · exact (l1Draw_ret a1.mk' (by omega) parse_ok).bind fun u ⟨b1, b2⟩ => (l1Mutate_ret b1.mk' (by omega) b2).bind fun x ⟨c1, c2⟩ => .pure c2
  · refine (pick_ret a1.mk' (by omega) 36).bind fun u ⟨b1, b2, b3⟩ => .gdI (by omega) ((pick_ret b1.mk' (by omega) 36).bind fun x ⟨c1, c2, c3⟩ => .gdI (by omega) ?_)
    exact (l14_ret _ (by omega)).bind fun p hp => .pure hp
theorem law12 {b : List Int} (hb : Bts b) : F_laws_FnNumberOfTest b = some true := by
  refine Ret.eq ?_
  unfold F_laws_FnNumberOfTest
  refine .bifD (fun _ => .pure rfl) fun _ => (draw12 hb).bind fun p hp => ?_
  obtain ⟨hs1, hs2⟩ := hp.sz
  have hi : F_impl_NumberOfTest p = some (numR (toP p)) := gdD_eq ⟨hs1, hs2⟩ rfl
  have hsp : F_spec_NumberOfTest p = some (numR (toP p)) := gdD_eq ⟨hs1, hs2⟩ rfl
  refine (Ret.of (P := (· = numR (toP p))) hi rfl).bind fun v hv => (Ret.of (P := (· = v)) (hsp.trans (by rw [hv])) rfl).bind fun v' hv' => ?_
  subst hv'
  refine Ret.bind (P := (· = false)) (.bif (fun h => by simp at h) fun _ => .pure (by simp)) fun s hs => ?_
  subst hs
  refine Ret.bind (P := (· = !v'.2)) (.bif (fun h => by simp at h) fun _ => .pure rfl) fun s hs => ?_
  subst hs
  refine .bif (fun _ => (Ret.bind (P := (· = true)) (.bif (fun _ => .pure (by simp)) fun h => by simp at h) fun s hs => .pure hs)) fun h => ?_
  obtain ⟨n, ok⟩ := v'
  have : ok = true := by simpa using h
  subst this
  obtain ⟨a, b', c, d, h1, rfl, x, y, z, u, h2, h3, h4, h5, h6⟩ := numR_inv hv.symm
  refine (test_ret h1 h3 h4 h5 h6).bind fun w hw => ?_
  subst hw
  refine Ret.bind (P := (· = true)) (.bif (fun _ => ?_) fun h => by simp at h) fun s hs => .pure hs
  rw [toP_two h2]
  exact (same_ret _ (by simp) (by simp)).bind fun s hs => .pure hs
end Go.Proofs.Ytjogdblionfmiaa
