/-
 FnTraceSwap's plain function is true at all codes. Plain theorems. No conditions.
-/
import Derived.Test.YtlmjnhnpahicmaaDgz
import Derived.Test.YtlmjnhnpahicmaaDp
import Derived.Test.YtlmjnhnpahicmaaS30d
namespace Go.Proofs.Ytlmjnhnpahicmaa
open Go.RowKit
set_option maxRecDepth 100000
theorem sum_setI : ∀ {l : List Int} {i : Nat} (v : Int), i < l.length → (l.set i v).sum = l.sum - l.getD i default + v
 | [], _, _, h => absurd h (by simp)
 | a :: l, 0, v, _ => by
  show v + l.sum = a + l.sum - a + v
  omega
 | a :: l, i + 1, v, h => by
  have := sum_setI (l := l) (i := i) v (by simpa using h)
  show a + (l.set i v).sum = a + l.sum - l.getD i default + v
  omega
theorem some_pos : ∀ {l : List Int}, 0 < l.sum → ∃ j, j < l.length ∧ l.getD j default ≠ 0
 | [], h => absurd h (by simp)
 | a :: l, h => by
  by_cases e : a = 0
  ·subst e
   obtain ⟨j, h1, h2⟩ := some_pos (l := l) (by simpa using h)
   exact ⟨j + 1, by simpa using h1, h2⟩
  ·exact ⟨0, by simp, e⟩
theorem sched_ret {k : Int} {r : Xspec_l17Rd} (h : Rd k r) (hk : k ≤ 100000) {p : List (List ZIn)} (hp : smP p = true) : Ret (F_spec_l3Schedule r p) fun v => v.2.length ≤ 100 := by
 rw [smP_iff] at hp
 obtain ⟨hp4, hp8⟩ := hp
 unfold F_spec_l3Schedule
 refine Ret.bind (P := fun s : List Int × Int => s.1.length = p.length ∧ (∀ v ∈ s.1, 0 ≤ v ∧ v ≤ 8) ∧ s.1.sum = s.2 ∧ s.2 ≤ 32) ?_ fun s1 ⟨a1, a2, a3, a4⟩ => ?_
 ·refine Ret.loop (fun s => ∃ n : Nat, n ≤ p.length ∧ s.2.1 = (n : Int) ∧ s.1.length = n ∧ (∀ v ∈ s.1, 0 ≤ v ∧ v ≤ 8) ∧ s.1.sum = s.2.2 ∧ 0 ≤ s.2.2 ∧ s.2.2 ≤ ((8 * n : Nat) : Int)) (fun s => ((p.length : Int) - s.2.1).toNat) ⟨0, by omega, rfl, rfl, by simp, rfl, Int.le_refl _, Int.le_refl _⟩ fun s ⟨n, h1, h2, h3, h4, h5, h6, h7⟩ => ?_
  obtain ⟨l, i, c⟩ := s
  simp only at h2 h3 h4 h5 h6 h7
  subst h2
  unfold F_spec_l3Schedule_L6
  refine .bifD (fun hk => ?_) fun hk => .pure ?_
  ·simp only [Int.toNat_natCast] at hk ⊢
   have hn : n < p.length := by omega
   have e : p.getD n default = p[n] := by rw [List.getD_eq_getElem?_getD, List.getElem?_eq_getElem hn]; rfl
   have hr := (hp8 _ (List.getElem_mem hn)).1
   rw [← e] at hr
   refine .gdD ⟨by omega, hk⟩ (.gd (capOK_le (by omega) rfl) (.gdI (by omega) (.gdI (by omega) (.pure ⟨⟨n + 1, by omega, rfl, by simp [h3], fun v hv => ?_, ?_, by simp only []; omega, by simp only []; omega⟩, by simp only []; omega⟩))))
   ·rcases List.mem_append.1 hv with hv | hv
    ·exact h4 v hv
    ·rw [List.mem_singleton] at hv
     subst hv
     omega
   ·simp only [List.sum_append, List.sum_cons, List.sum_nil]
    omega
  ·simp only [] at hk
   exact ⟨by simp only []; omega, h4, h5, by simp only []; omega⟩
 ·refine Ret.bind (P := fun z : List Int × Int × List Int × List Int => Rd (k + 32) ⟨z.1, z.2.1⟩ ∧ z.2.2.2.length ≤ 32) ?_ fun z ⟨b1, b2⟩ => ?_
  ·refine Ret.loop (fun z => Rd (k + (z.2.2.2.length : Int)) ⟨z.1, z.2.1⟩ ∧ z.2.2.1.length = p.length ∧ (∀ v ∈ z.2.2.1, 0 ≤ v ∧ v ≤ 8) ∧ z.2.2.1.sum = s1.2 - (z.2.2.2.length : Int) ∧ ((z.2.2.2.length : Int) ≤ s1.2 ∨ z.2.2.2 = [])) (fun z => (s1.2 - (z.2.2.2.length : Int)).toNat) ⟨by simpa using h, a1, a2, by simpa using a3, .inr rfl⟩ fun z ⟨c1, c2, c3, c4, c5⟩ => ?_
   have c6 : z.2.2.2.length ≤ 32 := by
    rcases c5 with c5 | c5
    ·omega
    ·rw [c5]; exact Nat.zero_le _
   unfold F_spec_l3Schedule_L20
   refine .bifD (fun hlt => ?_) fun hge => .pure ⟨c1.mono (by omega), c6⟩
   refine (pick_ret c1.mk' (by omega) _).bind fun v ⟨d1, d2, d3⟩ => ?_
   obtain ⟨j, j1, j2⟩ := some_pos (l := z.2.2.1) (by omega)
   have hv : v.2 < (p.length : Int) := by omega
   refine Ret.bind (P := fun t : Int => 0 ≤ t ∧ t < (p.length : Int) ∧ z.2.2.1.getD t.toNat default ≠ 0) ?_ fun t ⟨t1, t2, t3⟩ => ?_
   ·refine Ret.loop (fun t => 0 ≤ t ∧ t < (p.length : Int)) (fun t => if t ≤ (j : Int) then ((j : Int) - t).toNat else ((j : Int) + (p.length : Int) - t).toNat) ⟨d2, hv⟩ fun t ⟨t1, t2⟩ => ?_
    unfold F_spec_l3Schedule_L29
    refine .gdD ⟨t1, by omega⟩ (.bif (fun h0 => .gdI (by omega) (.gdD (by omega) (.pure ?_))) fun h0 => .pure ⟨t1, t2, by simpa using h0⟩)
    have h0 : z.2.2.1.getD t.toNat default = 0 := by simpa using h0
    have hne : t ≠ (j : Int) := by
     rintro rfl
     rw [Int.toNat_natCast] at h0
     exact j2 h0
    have hm : (t + 1).tmod (p.length : Int) = if t + 1 = (p.length : Int) then 0 else t + 1 := by
     rw [Int.tmod_eq_emod_of_nonneg (by omega)]
     split
     ·rename_i e
      rw [e, Int.emod_self]
     ·exact Int.emod_eq_of_lt (by omega) (by omega)
    show (0 ≤ (t + 1).tmod (p.length : Int) ∧ (t + 1).tmod (p.length : Int) < (p.length : Int)) ∧ (if (t + 1).tmod (p.length : Int) ≤ (j : Int) then ((j : Int) - (t + 1).tmod (p.length : Int)).toNat else ((j : Int) + (p.length : Int) - (t + 1).tmod (p.length : Int)).toNat) < (if t ≤ (j : Int) then ((j : Int) - t).toNat else ((j : Int) + (p.length : Int) - t).toNat)
    rw [hm]
    split <;> (refine ⟨by omega, ?_⟩; split <;> split <;> omega)
   ·have tn : t.toNat < z.2.2.1.length := by omega
    have tb := c3 _ (getD_memI tn)
    refine .gdD ⟨t1, by omega⟩ (.gdI (by omega) (.gd (capOK_le (by omega) rfl) (.pure ⟨⟨?_, by simp only [List.length_set]; exact c2, set_allI c3 (by omega), ?_, .inl (by simp; omega)⟩, by simp; omega⟩)))
    ·simp only [List.length_append, List.length_singleton]
     exact d1.mono (by omega)
    ·simp only []
     rw [sum_setI _ tn, List.length_append, List.length_singleton]
     omega
  ·refine Ret.bind (P := fun z : List Int × Int × List Int => z.2.2.length ≤ 33) ?_ fun w hw => .pure (by simp only []; omega)
   refine (pick_ret b1.mk' (by omega) _).bind fun v ⟨d1, _, _⟩ => .bif (fun _ => ?_) fun _ => .bif (fun _ => .bifD (fun hpos => .gdD (by omega) (.pure ?_)) fun _ => .pure ?_) fun _ => .pure ?_
   ·exact (num_ret d1.mk' (by omega) _ (by simp)).bind fun u _ => .gd (capOK_le (by omega) rfl) (.pure (by simp; omega))
   ·simp only [List.length_take, List.length_drop]
    omega
   ·simp only []; omega
   ·simp only []; omega
theorem drawX {b : List Int} (hb : Bts b) : Ret (F_spec_DrawExecOf b) fun v => Sm v.1 ∧ v.2.length ≤ 100 := by
 unfold F_spec_DrawExecOf
 refine Ret.bind (P := fun v : List (List ZIn) × List Int => Sm v.1 ∧ v.2.length ≤ 100) ?_ fun v hv => .pure hv
 unfold F_spec_DrawRunSchedule
 exact (open_ret hb).bind fun r h => (l1Draw_ret h.mk' (by omega) parse_ok).bind fun v ⟨a1, a2⟩ => (l1Mutate_ret a1.mk' (by omega) a2).bind fun u ⟨b1, b2⟩ => (sched_ret b1.mk' (by omega) a2).bind fun x hx => .pure ⟨b2, hx⟩
section
variable {p : List (List ZIn)} {s : List Int} {k : Nat}
def swp (s : List Int) (k : Nat) : List Int := (s.set k (s.getD (k + 1) default)).set (k + 1) (s.getD k default)
theorem swp_len : (swp s k).length = s.length := by simp [swp]
theorem swp_get (hk : k + 1 < s.length) (j : Nat) : (swp s k).getD j default = if j = k + 1 then s.getD k default else if j = k then s.getD (k + 1) default else s.getD j default := by
 unfold swp
 by_cases h1 : j = k + 1
 ·subst h1
  rw [if_pos rfl, getD_set_eq (by rw [List.length_set]; exact hk), if_pos rfl]
 ·rw [if_neg h1, getD_set_eq (by rw [List.length_set]; exact hk), if_neg h1]
  by_cases h2 : j = k
  ·subst h2
   rw [if_pos rfl, getD_set_eq (by omega), if_pos rfl]
  ·rw [if_neg h2, getD_set_eq (by omega), if_neg h2]
theorem swp_low (hk : k + 1 < s.length) (v : Int) : ∀ j, j ≤ k → ((swp s k).take j).count v = (s.take j).count v := by
 intro j
 induction j with
 | zero => intro _; simp
 | succ j ih =>
  intro hj
  have e : (swp s k).getD j default = s.getD j default := by rw [swp_get hk, if_neg (by omega), if_neg (by omega)]
  rw [take_count (by rw [swp_len]; omega), take_count (by omega), ih (by omega), e]
theorem swp_mid (hk : k + 1 < s.length) (v : Int) : ((swp s k).take (k + 1)).count v = (s.take k).count v + if s.getD (k + 1) default = v then 1 else 0 := by
 have e : (swp s k).getD k default = s.getD (k + 1) default := by rw [swp_get hk, if_neg (by omega), if_pos rfl]
 rw [take_count (by rw [swp_len]; omega), swp_low hk v k (Nat.le_refl _), e]
theorem swp_high (hk : k + 1 < s.length) (v : Int) : ∀ i, k + 2 + i ≤ s.length → ((swp s k).take (k + 2 + i)).count v = (s.take (k + 2 + i)).count v := by
 intro i
 induction i with
 | zero =>
  intro _
  show ((swp s k).take (k + 1 + 1)).count v = (s.take (k + 1 + 1)).count v
  have e : (swp s k).getD (k + 1) default = s.getD k default := by rw [swp_get hk, if_pos rfl]
  rw [take_count (by rw [swp_len]; omega), swp_mid hk, take_count (by omega), take_count (by omega), e]
  omega
 | succ i ih =>
  intro hi
  show ((swp s k).take (k + 2 + i + 1)).count v = (s.take (k + 2 + i + 1)).count v
  have e : (swp s k).getD (k + 2 + i) default = s.getD (k + 2 + i) default := by rw [swp_get hk, if_neg (by omega), if_neg (by omega)]
  rw [take_count (by rw [swp_len]; omega), take_count (by omega), ih (by omega), e]
variable (hk : k + 1 < s.length) (hne : s.getD k default ≠ s.getD (k + 1) default)
include hk
theorem swp_at_low {j : Nat} (hj : j < k) : stT (swp s k) j = stT s j ∧ stK (swp s k) j = stK s j := by
 unfold stT stK
 rw [swp_get hk, if_neg (by omega), if_neg (by omega), swp_low hk _ j (by omega)]
 exact ⟨rfl, rfl⟩
theorem swp_at_high {j : Nat} (h1 : k + 2 ≤ j) (h2 : j < s.length) : stT (swp s k) j = stT s j ∧ stK (swp s k) j = stK s j := by
 unfold stT stK
 obtain ⟨i, rfl⟩ : ∃ i, j = k + 2 + i := ⟨j - (k + 2), by omega⟩
 rw [swp_get hk, if_neg (by omega), if_neg (by omega), swp_high hk _ i (by omega)]
 exact ⟨rfl, rfl⟩
include hne
theorem stK_next : stK s (k + 1) = (s.take k).count (s.getD (k + 1) default) := by
 unfold stK
 rw [take_count (by omega), if_neg hne]
 omega
theorem swp_at_k : stT (swp s k) k = stT s (k + 1) ∧ stK (swp s k) k = stK s (k + 1) := by
 rw [stK_next hk hne]
 unfold stT stK
 rw [swp_get hk, if_neg (by omega), if_pos rfl, swp_low hk _ k (Nat.le_refl _)]
 exact ⟨rfl, rfl⟩
theorem swp_at_k1 : stT (swp s k) (k + 1) = stT s k ∧ stK (swp s k) (k + 1) = stK s k := by
 unfold stT stK
 rw [swp_get hk, if_pos rfl, swp_mid hk, if_neg (Ne.symm hne)]
 exact ⟨rfl, rfl⟩
theorem swp_whole (h : Whole p s) : Whole p (swp s k) := by
 obtain ⟨h1, h2, h3⟩ := h
 refine ⟨h1, fun j hj => ?_, fun t ht => ?_⟩
 ·rw [swp_len] at hj
  have key : ∀ i, i < s.length → stT (swp s k) j = stT s i → stK (swp s k) j = stK s i → (swp s k).getD j default = s.getD i default → (0 ≤ (swp s k).getD j default ∧ (swp s k).getD j default < (p.length : Int)) ∧ ((swp s k).take j).count ((swp s k).getD j default) < (p.getD ((swp s k).getD j default).toNat default).length := by
   intro i hi e1 e2 e3
   obtain ⟨g1, g2⟩ := h2 i hi
   unfold stK at e2
   rw [e2, e3]
   exact ⟨g1, g2⟩
  by_cases c1 : j < k
  ·exact key j hj (swp_at_low hk c1).1 (swp_at_low hk c1).2 (by rw [swp_get hk, if_neg (by omega), if_neg (by omega)])
  ·by_cases c2 : j = k
   ·subst c2
    exact key (j + 1) hk (swp_at_k hk hne).1 (swp_at_k hk hne).2 (by rw [swp_get hk, if_neg (by omega), if_pos rfl])
   ·by_cases c3 : j = k + 1
    ·subst c3
     exact key k (by omega) (swp_at_k1 hk hne).1 (swp_at_k1 hk hne).2 (by rw [swp_get hk, if_pos rfl])
    ·exact key j hj (swp_at_high hk (by omega) hj).1 (swp_at_high hk (by omega) hj).2 (by rw [swp_get hk, if_neg (by omega), if_neg (by omega)])
 ·have := swp_high hk (t : Int) (s.length - (k + 2)) (by omega)
  rw [show k + 2 + (s.length - (k + 2)) = s.length by omega, List.take_length] at this
  rw [← h3 t ht, ← this, List.take_of_length_le (by rw [swp_len]; exact Nat.le_refl _)]
end
section
variable {p : List (List ZIn)}
theorem getD_setN {l : List (List Int)} {i j : Nat} (v : List Int) (h : j ≠ i) : (l.set i v).getD j [] = l.getD j [] := by
 rw [List.getD_eq_getElem?_getD, List.getElem?_set, if_neg (Ne.symm h), List.getD_eq_getElem?_getD]
theorem set_self (l : List (List Int)) (i : Nat) : l.set i (l.getD i []) = l := by
 refine List.ext_getElem? fun j => ?_
 rw [List.getElem?_set]
 split
 ·rename_i e
  subst e
  split
  ·rename_i h
   rw [List.getD_eq_getElem?_getD, List.getElem?_eq_getElem h]
   rfl
  ·rw [List.getElem?_eq_none (by omega)]
 ·rfl
theorem stX_comm (st : XS) {n m : Int} (hnm : n.toNat ≠ m.toNat) (h : ((evs p).getD n.toNat default).Loc.toNat ≠ ((evs p).getD m.toNat default).Loc.toNat ∨ (((evs p).getD n.toNat default).Writes = false ∧ ((evs p).getD m.toNat default).Writes = false)) :
  stX p (stX p st n) m = stX p (stX p st m) n := by
 unfold stX
 generalize (evs p).getD n.toNat default = ea at *
 generalize (evs p).getD m.toNat default = eb at *
 rcases h with h | ⟨h1, h2⟩
 ·simp only [getD_setN _ h, getD_setN _ (Ne.symm h)]
  refine Prod.ext ?_ (List.set_comm _ _ h)
  simp only []
  split <;> split <;> first | rfl | exact List.set_comm _ _ hnm
 ·simp only [h1, h2, Bool.false_eq_true, if_false, set_self]
  refine Prod.ext ?_ rfl
  simp only []
  split <;> split <;> first | rfl | exact List.set_comm _ _ hnm
theorem runX_append (l m : List Int) : runX p (l ++ m) = m.foldl (stX p) (runX p l) := by
 unfold runX
 rw [List.foldl_append]
def Indep (p : List (List ZIn)) (s : List Int) (k : Nat) : Prop :=
 ((p.getD (stT s k) default).getD (stK s k) default).Op = 4 ∨ ((p.getD (stT s (k + 1)) default).getD (stK s (k + 1)) default).Op = 4 ∨
 ((p.getD (stT s k) default).getD (stK s k) default).Loc ≠ ((p.getD (stT s (k + 1)) default).getD (stK s (k + 1)) default).Loc ∨
 (((p.getD (stT s k) default).getD (stK s k) default).Op = 1 ∧ ((p.getD (stT s (k + 1)) default).getD (stK s (k + 1)) default).Op = 1)
theorem steps_comm (hp : PV p) {s : List Int} {k : Nat} (hg : Good p s s.length) (hk : k + 1 < s.length) (hne : s.getD k default ≠ s.getD (k + 1) default) (hi : Indep p s k) (st : XS) :
  (stepN p (stT s k) (stK s k) ++ stepN p (stT s (k + 1)) (stK s (k + 1))).foldl (stX p) st = (stepN p (stT s (k + 1)) (stK s (k + 1)) ++ stepN p (stT s k) (stK s k)).foldl (stX p) st := by
 obtain ⟨a1, a2, a3⟩ := good_at hg (j := k) (by omega)
 obtain ⟨b1, b2, b3⟩ := good_at hg (j := k + 1) (by omega)
 by_cases ha : ((p.getD (stT s k) default).getD (stK s k) default).Op = 4
 ·rw [show stepN p (stT s k) (stK s k) = [] by rw [stepN, if_pos ha], List.nil_append, List.append_nil]
 ·by_cases hb : ((p.getD (stT s (k + 1)) default).getD (stK s (k + 1)) default).Op = 4
  ·rw [show stepN p (stT s (k + 1)) (stK s (k + 1)) = [] by rw [stepN, if_pos hb], List.nil_append, List.append_nil]
  ·rw [stepN, if_neg ha, stepN, if_neg hb]
   obtain ⟨e1, e2⟩ := num_ev a1 a3 ha
   obtain ⟨f1, f2⟩ := num_ev b1 b3 hb
   have hx := hp.ins _ _ a1 a3
   have hy := hp.ins _ _ b1 b3
   show stX p (stX p st _) _ = stX p (stX p st _) _
   refine stX_comm st ?_ ?_
   ·simp only [Int.toNat_natCast]
    intro e
    rw [e, f1] at e1
    have : ((stT s (k + 1) : Nat) : Int) = ((stT s k : Nat) : Int) := congrArg Ximpl_Event.Thread e1
    exact hne (by omega)
   ·simp only [Int.toNat_natCast, e1, f1]
    rcases hi with hi | hi | hi | ⟨h1, h2⟩
    ·exact absurd hi ha
    ·exact absurd hi hb
    ·left
     have := hx.1
     have := hy.1
     omega
    ·right
     unfold wrX
     rw [h1, h2]
     exact ⟨by decide, by decide⟩
theorem swp_run (hp : PV p) {s : List Int} {k : Nat} (hg : Good p s s.length) (hk : k + 1 < s.length) (hne : s.getD k default ≠ s.getD (k + 1) default) (hi : Indep p s k) :
  runX p (ordF p (swp s k) (swp s k).length) = runX p (ordF p s s.length) := by
 have low : ∀ j, j ≤ k → ordF p (swp s k) j = ordF p s j := by
  intro j
  induction j with
  | zero => intro _; rfl
  | succ j ih =>
   intro hj
   obtain ⟨e1, e2⟩ := swp_at_low hk (j := j) (by omega)
   simp only [ordF, ih (by omega), e1, e2]
 have high : ∀ i, k + 2 + i ≤ s.length → runX p (ordF p (swp s k) (k + 2 + i)) = runX p (ordF p s (k + 2 + i)) := by
  intro i
  induction i with
  | zero =>
   intro _
   obtain ⟨e1, e2⟩ := swp_at_k hk hne
   obtain ⟨f1, f2⟩ := swp_at_k1 hk hne
   show runX p (ordF p (swp s k) k ++ stepN p (stT (swp s k) k) (stK (swp s k) k) ++ stepN p (stT (swp s k) (k + 1)) (stK (swp s k) (k + 1))) = runX p (ordF p s k ++ stepN p (stT s k) (stK s k) ++ stepN p (stT s (k + 1)) (stK s (k + 1)))
   rw [low k (Nat.le_refl _), e1, e2, f1, f2, List.append_assoc, List.append_assoc, runX_append, runX_append]
   exact (steps_comm hp hg hk hne hi _).symm
  | succ i ih =>
   intro hi'
   obtain ⟨e1, e2⟩ := swp_at_high hk (j := k + 2 + i) (by omega) (by omega)
   show runX p (ordF p (swp s k) (k + 2 + i) ++ stepN p (stT (swp s k) (k + 2 + i)) (stK (swp s k) (k + 2 + i))) = runX p (ordF p s (k + 2 + i) ++ stepN p (stT s (k + 2 + i)) (stK s (k + 2 + i)))
   rw [runX_append, runX_append, ih (by omega), e1, e2]
 have := high (s.length - (k + 2)) (by omega)
 rw [swp_len]
 rwa [show k + 2 + (s.length - (k + 2)) = s.length by omega] at this
theorem law30 {code : List Int} (hb : Bts code) (more : List Int) (hm : (more.length : Int) ≤ 9223372036854775807) : F_laws_FnTraceSwap code more = some true := by
 refine Ret.eq ?_
 unfold F_laws_FnTraceSwap
 refine Ret.bind (P := fun b => b = false → more.length ≤ 1048576) (.bifD (fun _ => .pure nofun) fun _ => .pure fun h => by have := of_decide_eq_false h; omega) fun b1 hb1 => .bif (fun _ => .pure rfl) fun h1 => ?_
 have hm := hb1 h1
 refine (drawX hb).bind fun v ⟨hsm, hsl⟩ => ?_
 obtain ⟨p, s⟩ := v
 simp only at hsm hsl ⊢
 have hsz := hsm.sz
 obtain ⟨b, x1, x2, x3, hw⟩ := execOf_ret p hsz (s := s) (by omega)
 have hss : Ret (F_impl_ExecSame (exOf p s b) (exOf p s b)) (· = true) := (isame_ret x3).mono fun v hv => by rw [hv]; simp [same]
 refine (Ret.of (P := (· = (exOf p s b, b))) x1 rfl).bind fun v5 h5 => (Ret.of (P := (· = (exOf p s b, b))) x2 rfl).bind fun v6 h6 => ?_
 subst h5 h6
 refine Ret.bind (P := (· = false)) (.bif (fun h => by simp at h) fun _ => hss.bind fun v hv => .pure (by rw [hv]; rfl)) fun s7 h7 => ?_
 subst h7
 refine Ret.bind (P := (· = !b)) (.bif (fun h => by cases h) fun _ => .pure rfl) fun s10 h10 => ?_
 subst h10
 refine Ret.bind (P := fun c => c = false → b = true ∧ 2 ≤ s.length) (.bif (fun _ => .pure nofun) fun hb => .pure fun h => ⟨by simpa using hb, by have := of_decide_eq_false h; omega⟩) fun s12 h12 => .bif (fun _ => ?_) fun h => ?_
 ·exact Ret.bind (P := (· = true)) (.bif (fun _ => hss.bind fun v hv => .pure hv) fun h => by simp at h) fun v hv => .pure hv
 obtain ⟨hbt, hs2⟩ := h12 h
 subst hbt
 have hW := hw.1 rfl
 have hp := PV.of hW.1
 have hg := hW.2.1
 have hl := hp.vs.1
 have hK : ∃ k : Nat, (more.length : Int).tmod ((s.length : Int) - 1) = (k : Int) ∧ k + 1 < s.length := by
  have h1 := Int.tmod_nonneg (a := (more.length : Int)) ((s.length : Int) - 1) (by omega)
  have h2 := Int.tmod_lt_of_pos (more.length : Int) (b := (s.length : Int) - 1) (by omega)
  exact ⟨((more.length : Int).tmod ((s.length : Int) - 1)).toNat, by omega, by omega⟩
 obtain ⟨k, hK, hk⟩ := hK
 simp only [hK]
 have ek : ((k : Int) + 1).toNat = k + 1 := by omega
 refine .gdI (by omega) (.gdD (by omega) (.gdD (by omega) ?_))
 refine Ret.bind (P := fun a : List Int => a.length = p.length ∧ ∀ t : Nat, t < p.length → a.getD t default = ((s.take k).count (t : Int) : Int)) ?_ fun a ⟨a1, a2⟩ => ?_
 ·refine Ret.loop (fun z => ∃ n : Nat, n ≤ k ∧ z.2 = (n : Int) ∧ z.1.length = p.length ∧ ∀ t : Nat, t < p.length → z.1.getD t default = ((s.take n).count (t : Int) : Int)) (fun z => ((k : Int) - z.2).toNat) ⟨0, by omega, rfl, by simp, fun t ht => ?_⟩ fun z ⟨n, h1, h2, h3, h4⟩ => ?_
  ·simp only [List.take_zero, List.count_nil]
   rw [List.getD_eq_getElem?_getD, List.getElem?_replicate]
   split <;> rfl
  ·obtain ⟨l, i⟩ := z
   simp only at h2 h3 h4
   subst h2
   unfold F_laws_FnTraceSwap_L26
   simp only [hK, Int.toNat_natCast]
   refine .bifD (fun hlt => ?_) fun hge => .pure ?_
   ·obtain ⟨g1, g2⟩ := hg n (by omega)
    have hrow := hp.vs.2 (s.getD n default).toNat
    have tn : (s.getD n default).toNat < p.length := by omega
    have em : (((s.getD n default).toNat : Nat) : Int) = s.getD n default := Int.toNat_of_nonneg g1.1
    have hat := h4 _ tn
    rw [em] at hat
    refine .gdD ⟨by omega, by omega⟩ (.gdD ⟨g1.1, by omega⟩ (.gdI (by omega) (.gdI (by omega) (.pure ⟨⟨n + 1, by omega, rfl, by simp only [List.length_set]; exact h3, fun t htp => ?_⟩, by simp only []; omega⟩))))
    simp only []
    rw [getD_set_eq (by omega), take_count (by omega), hat]
    by_cases e : t = (s.getD n default).toNat
    ·have e' : s.getD n default = (t : Int) := by omega
     rw [if_pos e, if_pos e', e']
     omega
    ·have e' : ¬ s.getD n default = (t : Int) := by omega
     rw [if_neg e, if_neg e', h4 t htp]
     rfl
   ·have : n = k := by omega
    subst this
    exact ⟨h3, h4⟩
 ·simp only [Int.toNat_natCast, ek]
  refine .gdD (by omega) (.gdI (by omega) (.gdD (by omega) (.bif (fun _ => .pure rfl) fun hne => ?_)))
  have hne : s.getD k default ≠ s.getD (k + 1) default := by simpa using hne
  obtain ⟨g1, g2, g3⟩ := good_at hg (j := k) (by omega)
  obtain ⟨q1, q2, q3⟩ := good_at hg (j := k + 1) (by omega)
  have hx := hp.vs.2 (stT s k)
  have hy := hp.vs.2 (stT s (k + 1))
  have hT : (s.getD k default).toNat = stT s k := rfl
  have hT' : (s.getD (k + 1) default).toNat = stT s (k + 1) := rfl
  have ha : a.getD (stT s k) default = (stK s k : Int) := by rw [a2 _ g1, g2]; rfl
  have hb' : a.getD (stT s (k + 1)) default = (stK s (k + 1) : Int) := by rw [a2 _ q1, q2, stK_next hk hne]
  simp only [hT, hT', ha, hb', Int.toNat_natCast]
  refine .gdD (by omega) (.gdD (by omega) (.gdD (by omega) (.gdD (by omega) (.gdD (by omega) (.gdD (by omega) ?_)))))
  refine Ret.bind (P := fun w => w = false → ((p.getD (stT s k) default).getD (stK s k) default).Op = 1 ∧ ((p.getD (stT s (k + 1)) default).getD (stK s (k + 1)) default).Op = 1) (.bif (fun _ => .pure nofun) fun h => .pure fun h' => ⟨by simpa using h, by simpa using h'⟩) fun s44 h44 => ?_
  refine Ret.bind (P := fun w => w = false → ((p.getD (stT s k) default).getD (stK s k) default).Op = 4 ∨ ((p.getD (stT s (k + 1)) default).getD (stK s (k + 1)) default).Op = 4) (.bif (fun _ => .pure fun h' => .inr (by simpa using h')) fun h => .pure fun _ => .inl (by simpa using h)) fun s46 h46 => ?_
  refine Ret.bind (P := fun w => w = false → ((p.getD (stT s k) default).getD (stK s k) default).Op = 4 ∨ ((p.getD (stT s (k + 1)) default).getD (stK s (k + 1)) default).Op = 4 ∨ ((p.getD (stT s k) default).getD (stK s k) default).Loc ≠ ((p.getD (stT s (k + 1)) default).getD (stK s (k + 1)) default).Loc) (.bif (fun _ => .pure fun h' => .inr (.inr (by simpa using h'))) fun h => .pure fun _ => (h46 h).elim .inl fun h => .inr (.inl h)) fun s48 h48 => ?_
  refine Ret.bind (P := fun w => w = false → Indep p s k) (.bif (fun _ => .pure fun h' => .inr (.inr (.inr (h44 h')))) fun h => .pure fun _ => ?_) fun s50 h50 => .bif (fun _ => .pure rfl) fun h => ?_
  ·rcases h48 h with h | h | h
   ·exact .inl h
   ·exact .inr (.inl h)
   ·exact .inr (.inr (.inl h))
  ·have hI := h50 h
   refine .gd (capOK_le (by simp; omega) rfl) (.gdD ⟨by omega, by simp; omega⟩ (.gdD ⟨by omega, by simp; omega⟩ ?_))
   obtain ⟨d, y1, y2, _, hw'⟩ := execOf_ret p hsz (s := swp s k) (by rw [swp_len]; omega)
   have hd : d = true := hw'.2 (swp_whole hk hne hW)
   subst hd
   have ex : exOf p (swp s k) true = exOf p s true := by
    show (⟨_, _⟩ : Ximpl_Exec) = ⟨_, _⟩
    rw [swp_run hp hg hk hne hI]
   refine (isameTrace_ret p x1 y1 x3).bind fun v hv => .pure ?_
   rw [hv, ex]
   simp [same]
end
end Go.Proofs.Ytlmjnhnpahicmaa
