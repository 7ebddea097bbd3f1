/-
  FnExactEventText's plain function is true at every program and number. Plain theorems. No conditions.
-/
import Derived.Test.YtjogdblionfmiaaDoorDe
import Derived.Test.YtjogdblionfmiaaDoorS15d
namespace Go.Proofs.YtjogdblionfmiaaDoor
open Go.RowKit
set_option maxRecDepth 100000
theorem szS (a : List Xlaws_Instr) (left : Int) (hl : 0 ≤ left ∧ left ≤ 1048576) (ha : (a.length : Int) ≤ 9223372036854775807) : Ret (F_laws_szInstrS a left) fun v => (v < 0 ∧ left < (a.length : Int)) ∨ (0 ≤ v ∧ v = left - (a.length : Int)) := by
  unfold F_laws_szInstrS
  exact .gdI (by omega) (.bifD (fun h => .pure (.inl ⟨by decide, by omega⟩)) fun h => .pure (.inr ⟨by omega, rfl⟩))
theorem szSS (a : List (List Xlaws_Instr)) (ha : (a.length : Int) ≤ 9223372036854775807 ∧ ∀ r ∈ a, (r.length : Int) ≤ 9223372036854775807) : Ret (F_laws_szInstrSS a 1048576) fun v => v < 0 ∨ (a.length ≤ 1048576 ∧ total a ≤ 1048576) := by
  unfold F_laws_szInstrSS
  refine .gdI (by omega) (.bifD (fun h => .pure (.inl (by decide))) fun h => ?_)
  refine Ret.sum (PS := fun s => a.length ≤ 1048576 ∧ total a ≤ 1048576) (PW := fun v : Int => v < 0 ∨ (a.length ≤ 1048576 ∧ total a ≤ 1048576)) ?_ fun s hs => .pure (.inr hs)
  refine Ret.loop (fun s : Int × Int => ∃ n : Nat, n ≤ a.length ∧ s.1 = (n : Int) ∧ 0 ≤ s.2 ∧ s.2 = 1048576 - (a.length : Int) - (total (a.take n) : Int)) (fun s => ((a.length : Int) - s.1).toNat) ⟨0, by omega, rfl, by simp only []; omega, by simp [total]⟩ fun s ⟨n, h1, h2, h3, h4⟩ => ?_
  unfold F_laws_szInstrSS_L5
  refine .bifD (fun hk => ?_) fun hk => .pure ?_
  · have hn : n < a.length := by omega
    have e1 : s.1.toNat = n := by omega
    have e2 : a.getD n default = a[n] := by simp [hn]
    refine .gdD ⟨by omega, hk⟩ ?_
    rw [e1, e2]
    refine (szS a[n] s.2 ⟨h3, by omega⟩ (ha.2 _ (List.getElem_mem hn))).bind fun v hv => .bifD (fun h => .pure (.inl (by decide))) fun h => .gdI (by omega) (.pure ⟨⟨n + 1, by omega, by simp only []; omega, by simp only []; omega, ?_⟩, by simp only []; omega⟩)
    have ht := total_take_succ a n hn
    simp only []
    rcases hv with hv | hv
    · omega
    · omega
  · have : n = a.length := by omega
    subst this
    rw [List.take_length] at h4
    exact ⟨by omega, by omega⟩
/-- a list that is filled from the front -/
def fill {α : Type} (f : Nat → α) (d : α) (n k : Nat) : List α := (List.range n).map fun j => if j < k then f j else d
theorem fill_len {α : Type} (f : Nat → α) (d : α) (n k : Nat) : (fill f d n k).length = n := by simp [fill]
theorem fill_0 {α : Type} (f : Nat → α) (d : α) (n : Nat) : List.replicate n d = fill f d n 0 := by
  refine List.ext_getElem (by simp [fill]) fun j h1 h2 => ?_
  simp [fill]
theorem fill_set {α : Type} (f : Nat → α) (d : α) (n k : Nat) : (fill f d n k).set k (f k) = fill f d n (k + 1) := by
  refine List.ext_getElem (by simp [fill]) fun j h1 h2 => ?_
  rw [List.getElem_set]
  simp only [fill, List.getElem_map, List.getElem_range]
  by_cases e : k = j
  · subst e
    simp
  · simp only [e, if_false]
    by_cases h : j < k
    · simp [h, show j < k + 1 by omega]
    · simp [h, show ¬ j < k + 1 by omega]
def toXI (a : Xlaws_Instr) : Ximpl_Instr := ⟨a.Op, a.Loc, a.Reg, a.Val⟩
theorem fill_all {α β : Type} [Inhabited α] (g : α → β) (d : β) (l : List α) : fill (fun j => g (l.getD j default)) d l.length l.length = l.map g := by
  refine List.ext_getElem (by simp [fill]) fun j h1 h2 => ?_
  have hj : j < l.length := by simpa using h2
  simp [fill, hj]
theorem toS_ret (a : List Xlaws_Instr) (ha : a.length ≤ 1048576) : Ret (F_laws_toInstrS a) (· = a.map toXI) := by
  unfold F_laws_toInstrS
  refine .gdD ⟨by omega, by omega, by omega, by omega⟩ (Ret.bind (P := (· = a.map toXI)) ?_ fun v hv => .pure hv)
  refine Ret.loop (fun s => ∃ k : Nat, k ≤ a.length ∧ s = (fill (fun j => toXI (a.getD j default)) default a.length k, (k : Int))) (fun s => ((a.length : Int) - s.2).toNat) ⟨0, by omega, by rw [Int.toNat_natCast, fill_0]; rfl⟩ fun s ⟨k, h1, h2⟩ => ?_
  subst h2
  unfold F_laws_toInstrS_L5
  simp only [Int.toNat_natCast, fill_len]
  refine .bifD (fun hk => .gdD ⟨by omega, hk⟩ ((Ret.of (P := (· = toXI (a.getD k default))) rfl rfl).bind fun v hv => .gdD ⟨by omega, hk⟩ (.gdI (by omega) (.pure ⟨⟨k + 1, by omega, ?_⟩, by simp only []; omega⟩)))) fun hk => .pure ?_
  · rw [hv, fill_set (fun j => toXI (a.getD j default))]
    rfl
  · have : k = a.length := by omega
    subst this
    exact fill_all toXI default a
theorem toSS_ret (a : List (List Xlaws_Instr)) (ha : a.length ≤ 1048576 ∧ total a ≤ 1048576) : Ret (F_laws_toInstrSS a) (· = a.map (List.map toXI)) := by
  unfold F_laws_toInstrSS
  refine .gdD ⟨by omega, by omega, by omega, by omega⟩ (Ret.bind (P := (· = a.map (List.map toXI))) ?_ fun v hv => .pure hv)
  refine Ret.loop (fun s => ∃ k : Nat, k ≤ a.length ∧ s = (fill (fun j => (a.getD j default).map toXI) [] a.length k, (k : Int))) (fun s => ((a.length : Int) - s.2).toNat) ⟨0, by omega, by rw [Int.toNat_natCast, fill_0]; rfl⟩ fun s ⟨k, h1, h2⟩ => ?_
  subst h2
  unfold F_laws_toInstrSS_L5
  simp only [Int.toNat_natCast, fill_len]
  refine .bifD (fun hk => .gdD ⟨by omega, hk⟩ ((toS_ret (a.getD k default) ?_).bind fun v hv => .gdD ⟨by omega, hk⟩ (.gdI (by omega) (.pure ⟨⟨k + 1, by omega, ?_⟩, by simp only []; omega⟩)))) fun hk => .pure ?_
  · have hn : k < a.length := by omega
    have e2 : a.getD k default = a[k] := by simp [hn]
    rw [e2]
    have := row_le_total a k hn
    omega
  · rw [hv, fill_set (fun j => (a.getD j default).map toXI)]
    rfl
  · have : k = a.length := by omega
    subst this
    exact fill_all (List.map toXI) [] a
theorem eqS_ret (s : List Ximpl_Instr) (h : s.length ≤ 1048576) : Ret (F_laws_eqInstrS s s) (· = true) := by
  unfold F_laws_eqInstrS
  refine .bif (fun h => by simp at h) fun _ => Ret.sum (PS := fun _ => True) (PW := (· = true)) ?_ (fun _ _ => .pure rfl)
  refine Ret.loop (fun i => 0 ≤ i ∧ i ≤ (s.length : Int)) (fun i => ((s.length : Int) - i).toNat) ⟨Int.le_refl _, by omega⟩ fun i ⟨h1, h2⟩ => ?_
  unfold F_laws_eqInstrS_L4
  refine .bifD (fun h3 => .gdD ⟨h1, h3⟩ (.gdD ⟨h1, h3⟩ ?_)) fun _ => .pure trivial
  refine Ret.bind (P := (· = true)) ?_ fun v hv => ?_
  · unfold F_laws_eqInstr
    exact .bif (fun h => by simp at h) fun _ => .bif (fun h => by simp at h) fun _ => .bif (fun h => by simp at h) fun _ => .bif (fun h => by simp at h) fun _ => .pure rfl
  · subst hv
    exact .bif (fun h => by cases h) fun _ => .gdI (by omega) (.pure ⟨⟨by omega, by omega⟩, by omega⟩)
theorem eqSS_ret (p : List (List Ximpl_Instr)) (h : p.length ≤ 1048576) (hr : ∀ r ∈ p, r.length ≤ 1048576) : Ret (F_laws_eqInstrSS p p) (· = true) := by
  unfold F_laws_eqInstrSS
  refine .bif (fun h => by simp at h) fun _ => Ret.sum (PS := fun _ => True) (PW := (· = true)) ?_ (fun _ _ => .pure rfl)
  refine Ret.loop (fun i => 0 ≤ i ∧ i ≤ (p.length : Int)) (fun i => ((p.length : Int) - i).toNat) ⟨Int.le_refl _, by omega⟩ fun i ⟨h1, h2⟩ => ?_
  unfold F_laws_eqInstrSS_L4
  refine .bifD (fun h3 => .gdD ⟨h1, h3⟩ (.gdD ⟨h1, h3⟩ ?_)) fun _ => .pure trivial
  have hi : i.toNat < p.length := by omega
  have hm : p.getD i.toNat default ∈ p := by
    rw [List.getD_eq_getElem?_getD, List.getElem?_eq_getElem hi]
    exact List.getElem_mem _
  refine (eqS_ret _ (hr _ hm)).bind fun v hv => ?_
  subst hv
  exact .bif (fun h => by cases h) fun _ => .gdI (by omega) (.pure ⟨⟨by omega, by omega⟩, by omega⟩)
theorem law15 (a : List (List Xlaws_Instr)) (i : Int) (ha : (a.length : Int) ≤ 9223372036854775807 ∧ ∀ r ∈ a, (r.length : Int) ≤ 9223372036854775807) : F_laws_FnExactEventText a i = some true := by
  refine Ret.eq ?_
  unfold F_laws_FnExactEventText
  refine (szSS a ha).bind fun v hv => .bifD (fun _ => .pure rfl) fun hn => ?_
  obtain ⟨h1, h2⟩ : a.length ≤ 1048576 ∧ total a ≤ 1048576 := by
    rcases hv with hv | hv
    · exact absurd hv hn
    · exact hv
  have hto := toSS_ret a ⟨h1, h2⟩
  have hln : (a.map (List.map toXI)).map List.length = a.map List.length := by simp [Function.comp_def]
  have hsz : (a.map (List.map toXI)).length ≤ 1048576 ∧ total (a.map (List.map toXI)) ≤ 1048576 := ⟨by rw [List.length_map]; exact h1, by unfold total; rw [hln]; exact h2⟩
  have hrl : ∀ r ∈ a.map (List.map toXI), r.length ≤ 1048576 := fun r hr => by
    obtain ⟨j, hj, rfl⟩ := List.getElem_of_mem hr
    have := row_le_total (a.map (List.map toXI)) j hj
    omega
  generalize a.map (List.map toXI) = p at hto hsz hrl
  obtain ⟨s, e1, e2, _⟩ := eventText_ret hsz i
  refine hto.bind fun v3 h3 => ?_
  subst h3
  refine (Ret.of (P := (· = s)) e2 rfl).bind fun v4 h4 => hto.bind fun v5 h5 => ?_
  subst h5
  refine (Ret.of (P := (· = s)) e1 rfl).bind fun v6 h6 => ?_
  subst h4 h6
  refine .bif (fun h => by simp at h) fun _ => hto.bind fun v8 h8 => ?_
  subst h8
  exact (eqSS_ret _ hsz.1 hrl).bind fun v hv => by subst hv; exact .bif (fun h => by cases h) fun _ => .pure rfl
end Go.Proofs.YtjogdblionfmiaaDoor
