/-
  Contracts and words, several texts joined. No conditions.
-/
import Derived.Test.YtjogdblionfmiaaS3d
import Derived.Test.YtjogdblionfmiaaDq
import Derived.Test.YtjogdblionfmiaaSq3d
namespace Go.Proofs.Ytjogdblionfmiaa
open Go.RowKit
set_option maxRecDepth 100000
theorem take_step {l : List Int} {i : Int} (h0 : 0 ≤ i) (h : i < (l.length : Int)) : l.take (i + 1).toNat = l.take i.toNat ++ [l.getD i.toNat default] := by
  have hi : i.toNat < l.length := by omega
  have e : (i + 1).toNat = i.toNat + 1 := by omega
  rw [e, List.getD_eq_getElem?_getD, List.getElem?_eq_getElem hi]
  exact (List.take_append_getElem hi).symm
theorem getD_mem {l : List Int} {i : Int} (h0 : 0 ≤ i) (h : i < (l.length : Int)) : l.getD i.toNat default ∈ l := by
  have hi : i.toNat < l.length := by omega
  rw [List.getD_eq_getElem?_getD, List.getElem?_eq_getElem hi]
  exact List.getElem_mem _
theorem push_loop {l base : List Int} {step : List Int × Int → Option ((List Int × Int) ⊕ List Int)} (hs : ∀ s, step s = bif decide (s.2 < (l.length : Int)) then
      gd (decide (0 ≤ s.2 ∧ s.2 < (l.length : Int))) <| gd (inK .u8 (l.getD s.2.toNat default)) <| gd (capOK (s.1.length + 1) 1) <| gd (inK .i64 (s.2 + (1 : Int))) <| some (.inl ((s.1 ++ [(l.getD s.2.toNat default)]), (s.2 + (1 : Int))))
    else some (.inr s.1)) (hl : l.length + base.length ≤ 1000000) (hv : ∀ v ∈ l, 0 ≤ v ∧ v ≤ 255) : Ret (loopO step (base, (0 : Int))) (· = base ++ l) := by
  refine Ret.loop (fun s => 0 ≤ s.2 ∧ s.2 ≤ (l.length : Int) ∧ s.1 = base ++ l.take s.2.toNat) (fun s => ((l.length : Int) - s.2).toNat) ⟨Int.le_refl _, by simp only []; omega, by simp⟩ fun s ⟨h1, h2, h3⟩ => ?_
  rw [hs]
  refine .bifD (fun h0 => ?_) fun h0 => .pure ?_
  · have hln : s.1.length ≤ l.length + base.length := by rw [h3, List.length_append, List.length_take]; omega
    refine .gdD ⟨h1, h0⟩ (.gdY (hv _ (getD_mem h1 h0)) (.gdC (by omega) rfl (.gdI (by omega) (.pure ⟨⟨by simp only []; omega, by simp only []; omega, ?_⟩, by simp only []; omega⟩))))
    simp only [h3, take_step h1 h0, List.append_assoc]
  · have : s.2 = (l.length : Int) := by omega
    rw [h3, this, Int.toNat_natCast, List.take_length]
/-- a state of a program -/
structure WS (p : List (List Ximpl_Instr)) (s : Xspec_l3State) : Prop where
  al : s.at_.length = p.length
  a : ∀ i : Nat, i < p.length → 0 ≤ s.at_.getD i default ∧ s.at_.getD i default ≤ ((p.getD i default).length : Int)
  rl : s.regs.length = 3 * p.length
  r : ∀ v ∈ s.regs, 0 ≤ v ∧ v ≤ 3
  ml : s.mem.length = 3
  m : ∀ v ∈ s.mem, 0 ≤ v ∧ v ≤ 3
  b : s.buf = []
/-- a program that is drawn -/
def goI (x : Ximpl_Instr) : Bool := decide (0 ≤ x.Loc ∧ x.Loc ≤ 2 ∧ 0 ≤ x.Reg ∧ x.Reg ≤ 2 ∧ 0 ≤ x.Val ∧ x.Val ≤ 3)
def goP (p : List (List Ximpl_Instr)) : Bool := decide (0 < p.length) && decide (p.length ≤ 3) && p.all fun r => decide (r.length ≤ 4) && r.all goI
theorem goP_iff {p : List (List Ximpl_Instr)} : goP p = true ↔ (0 < p.length ∧ p.length ≤ 3) ∧ ∀ r ∈ p, r.length ≤ 4 ∧ ∀ x ∈ r, goI x = true := by
  simp only [goP, Bool.and_eq_true, decide_eq_true_eq, List.all_eq_true]
theorem goP_row {p : List (List Ximpl_Instr)} (h : goP p = true) (i : Nat) : (p.getD i default).length ≤ 4 := by
  by_cases hi : i < p.length
  · have e : p.getD i default = p[i] := by simp [hi]
    rw [e]
    exact ((goP_iff.1 h).2 _ (List.getElem_mem hi)).1
  · rw [List.getD_eq_getElem?_getD, List.getElem?_eq_none (Nat.le_of_not_lt hi)]
    exact Nat.zero_le _
def keyOf (s : Xspec_l3State) : ByteArray := strOfNums (s.at_ ++ s.regs ++ s.mem)
theorem WS.at255 {p : List (List Ximpl_Instr)} (hp : goP p = true) {s : Xspec_l3State} (h : WS p s) : ∀ v ∈ s.at_, 0 ≤ v ∧ v ≤ 4 := fun v hv => by
  obtain ⟨i, hi, rfl⟩ := List.mem_iff_getElem.1 hv
  have h1 := h.a i (by rw [← h.al]; exact hi)
  have e : s.at_.getD i default = s.at_[i] := by simp [hi]
  rw [e] at h1
  have := goP_row hp i
  omega
theorem key_ret {p : List (List Ximpl_Instr)} (hp : goP p = true) {s : Xspec_l3State} (h : WS p s) : Ret (F_spec_l3Key s) (· = keyOf s) := by
  have hpl := (goP_iff.1 hp).1
  have ha := h.al
  have hr := h.rl
  have hm := h.ml
  unfold F_spec_l3Key
  refine (push_loop (l := s.at_) (base := []) (fun _ => rfl) (by simp; omega) fun v hv => by have := h.at255 hp v hv; omega).bind fun v1 e1 => ?_
  subst e1
  refine (push_loop (l := s.regs) (fun _ => rfl) (by simp; omega) fun v hv => by have := h.r v hv; omega).bind fun v1 e1 => ?_
  subst e1
  refine (push_loop (l := s.mem) (fun _ => rfl) (by simp; omega) fun v hv => by have := h.m v hv; omega).bind fun v1 e1 => ?_
  subst e1
  refine Ret.bind (P := (· = [] ++ s.at_ ++ s.regs ++ s.mem)) ?_ fun v e => .pure (by rw [e]; rfl)
  refine Ret.loop (fun z => z.1 = [] ++ s.at_ ++ s.regs ++ s.mem ∧ z.2 = 0) (fun _ => 0) ⟨rfl, rfl⟩ fun z ⟨h1, h2⟩ => ?_
  unfold F_spec_l3Key_L37
  refine .bifD (fun h0 => ?_) fun _ => .pure h1
  rw [h.b, h2] at h0
  exact absurd h0 (by simp)
/-- how far a state with this key has come -/
def depth (n : Nat) (k : ByteArray) : Nat := ((k.data.toList.take n).map (·.toNat)).sum
theorem toNat_byte {v : Int} (h : 0 ≤ v ∧ v ≤ 255) : (UInt8.ofNat v.toNat).toNat = v.toNat := by
  rw [UInt8.toNat_ofNat']
  omega
theorem depth_key {p : List (List Ximpl_Instr)} (hp : goP p = true) {s : Xspec_l3State} (h : WS p s) : depth p.length (keyOf s) = (s.at_.map Int.toNat).sum := by
  have hv := h.at255 hp
  unfold depth keyOf strOfNums
  simp only [List.append_assoc, List.map_append]
  rw [List.take_append_of_le_length (by rw [List.length_map, h.al]; exact Nat.le_refl _), List.take_of_length_le (by rw [List.length_map, h.al]; exact Nat.le_refl _), List.map_map]
  congr 1
  exact List.map_congr_left fun v hm => toNat_byte (by have := hv v hm; omega)
theorem byte_le (s : ByteArray) (i : Nat) : 0 ≤ ((s.data.getD i 0).toNat : Int) ∧ ((s.data.getD i 0).toNat : Int) ≤ 255 := by
  have := (s.data.getD i 0).toNat_lt
  omega
theorem hash_ret (s : ByteArray) (hs : s.size ≤ 1000000) : Ret (F_spec_l3Hash s) fun v => 0 ≤ v ∧ v < 4096 := by
  unfold F_spec_l3Hash
  refine Ret.bind (P := fun v : Int => 0 ≤ v ∧ v < 4096) ?_ fun v hv => .pure hv
  refine Ret.loop (fun z => 0 ≤ z.1 ∧ z.1 ≤ (s.size : Int) ∧ 0 ≤ z.2 ∧ z.2 < 4096) (fun z => ((s.size : Int) - z.1).toNat) ⟨Int.le_refl _, by simp only []; omega, Int.le_refl _, by decide⟩ fun z ⟨h1, h2, h3, h4⟩ => ?_
  unfold F_spec_l3Hash_L3
  have hb := byte_le s z.1.toNat
  refine .bifD (fun h0 => .gdI (by omega) (.gdD ⟨h1, h0⟩ (.gdI (by omega) (.gdI (by omega) (.gdD (by decide) (.gdI (by omega) (.pure ⟨⟨by simp only []; omega, by simp only []; omega, ?_, ?_⟩, by simp only []; omega⟩))))))) fun _ => .pure ⟨h3, h4⟩
  · exact Int.tmod_nonneg _ (by omega)
  · exact Int.tmod_lt_of_pos _ (by decide)
theorem getD_d (tbl : List (List ByteArray)) (i : Nat) : tbl.getD i default = tbl.getD i [] := rfl
theorem found_ret {tbl : List (List ByteArray)} (k : ByteArray) (hk : k.size ≤ 1000000) (hl : tbl.length = 4096) (hr : ∀ i, (tbl.getD i []).length ≤ 1000000000) : Ret (F_spec_l3Found tbl k) fun f => f = true → ∃ i, k ∈ tbl.getD i [] := by
  unfold F_spec_l3Found
  refine (hash_ret k hk).bind fun v ⟨h1, h2⟩ => .gdD ⟨h1, by omega⟩ ?_
  refine Ret.sum (PS := fun _ => True) (PW := fun f : Bool => f = true → ∃ i, k ∈ tbl.getD i []) ?_ fun _ _ => .pure nofun
  have hr := hr v.toNat
  refine Ret.loop (fun z => 0 ≤ z ∧ z ≤ ((tbl.getD v.toNat default).length : Int)) (fun z => (((tbl.getD v.toNat default).length : Int) - z).toNat) ⟨Int.le_refl _, by omega⟩ fun z ⟨g1, g2⟩ => ?_
  unfold F_spec_l3Found_L5
  refine .bifD (fun h0 => .gdD ⟨g1, h0⟩ ?_) fun _ => .pure trivial
  refine .bifD (fun he => .pure fun _ => ⟨v.toNat, ?_⟩) fun _ => .gdI (by rw [getD_d] at h0; omega) (.pure ⟨⟨by omega, by omega⟩, by omega⟩)
  have hi : z.toNat < (tbl.getD v.toNat default).length := by omega
  rw [← he, List.getD_eq_getElem?_getD (l := tbl.getD v.toNat default), List.getElem?_eq_getElem hi]
  exact List.getElem_mem _
theorem done_ret {p : List (List Ximpl_Instr)} (hp : goP p = true) {s : Xspec_l3State} (h : WS p s) : Ret (F_spec_l3Done p s) fun d => d = true ∨ ∃ t : Nat, t < p.length ∧ s.at_.getD t default < ((p.getD t default).length : Int) := by
  have hpl := (goP_iff.1 hp).1
  unfold F_spec_l3Done
  refine Ret.sum (PS := fun _ => True) (PW := fun d : Bool => d = true ∨ ∃ t : Nat, t < p.length ∧ s.at_.getD t default < ((p.getD t default).length : Int)) ?_ fun _ _ => .pure (.inl rfl)
  refine Ret.loop (fun z => 0 ≤ z ∧ z ≤ (p.length : Int)) (fun z => ((p.length : Int) - z).toNat) ⟨Int.le_refl _, by omega⟩ fun z ⟨g1, g2⟩ => ?_
  unfold F_spec_l3Done_L3
  refine .bifD (fun h0 => .gdD ⟨g1, by rw [h.al]; exact h0⟩ (.gdD ⟨g1, h0⟩ ?_)) fun _ => .pure trivial
  exact .bifD (fun he => .pure (.inr ⟨z.toNat, by omega, he⟩)) fun _ => .gdI (by omega) (.pure ⟨⟨by omega, by omega⟩, by omega⟩)
theorem outcome_ret {p : List (List Ximpl_Instr)} (hp : goP p = true) {s : Xspec_l3State} (h : WS p s) : Ret (F_spec_l3Outcome s) fun o => o.length = 3 * p.length + 3 := by
  have hpl := (goP_iff.1 hp).1
  have hr := h.rl
  have hm := h.ml
  unfold F_spec_l3Outcome
  exact .gdC (by simp; omega) rfl (.gdC (by simp; omega) rfl (.pure (by simp; omega)))
theorem less_ret (a b : List Int) (ha : a.length ≤ 1000) : Ret (F_spec_l3Less a b) fun _ => True := by
  unfold F_spec_l3Less
  refine Ret.sum (PS := fun _ => True) (PW := fun _ : Int => True) ?_ fun _ _ => .pure trivial
  refine Ret.loop (fun z => 0 ≤ z ∧ z ≤ (a.length : Int)) (fun z => ((a.length : Int) - z).toNat) ⟨Int.le_refl _, by omega⟩ fun z ⟨g1, g2⟩ => ?_
  unfold F_spec_l3Less_L3
  refine Ret.bind (P := fun c => c = true → z < (a.length : Int) ∧ z < (b.length : Int)) (.bifD (fun h => .pure fun hd => ⟨h, of_decide_eq_true hd⟩) fun _ => .pure nofun) fun c hc => .bif (fun hb => ?_) fun _ => .pure trivial
  obtain ⟨c1, c2⟩ := hc hb
  exact .gdD ⟨g1, c1⟩ (.gdD ⟨g1, c2⟩ (.bif (fun _ => .pure trivial) fun _ => .bif (fun _ => .pure trivial) fun _ => .gdI (by omega) (.pure ⟨⟨by omega, by omega⟩, by omega⟩)))
theorem getDL_mem {l : List (List Int)} {i : Int} (h : 0 ≤ i ∧ i < (l.length : Int)) : l.getD i.toNat default ∈ l := by
  have hi : i.toNat < l.length := by omega
  rw [List.getD_eq_getElem?_getD, List.getElem?_eq_getElem hi]
  exact List.getElem_mem _
theorem put_ret {list : List (List Int)} {o : List Int} (hl : list.length ≤ 1000000000) (hi : ∀ x ∈ list, x.length ≤ 1000) : Ret (F_spec_l3Put list o) fun l => l ≠ [] ∧ l.length ≤ list.length + 1 ∧ ∀ x ∈ l, x ∈ list ∨ x = o := by
  unfold F_spec_l3Put
  refine Ret.bind (P := fun v : Int => 0 ≤ v ∧ v ≤ (list.length : Int)) ?_ fun v ⟨h1, h2⟩ => ?_
  · refine Ret.loop (fun z => 0 ≤ z ∧ z ≤ (list.length : Int)) (fun z => ((list.length : Int) - z).toNat) ⟨Int.le_refl _, by omega⟩ fun z ⟨g1, g2⟩ => ?_
    unfold F_spec_l3Put_L3
    refine Ret.bind (P := fun c => c = true → z < (list.length : Int)) (.bifD (fun h => .gdD ⟨g1, h⟩ ((less_ret _ _ (hi _ (getDL_mem ⟨g1, h⟩))).bind fun _ _ => .pure fun _ => h)) fun _ => .pure nofun) fun c hc => .bif (fun hb => ?_) fun _ => .pure ⟨g1, g2⟩
    have := hc hb
    exact .gdI (by omega) (.pure ⟨⟨by omega, by omega⟩, by omega⟩)
  · refine Ret.bind (P := fun c => c = true → v < (list.length : Int)) (.bifD (fun h => .gdD ⟨h1, h⟩ ((less_ret _ _ (hi _ (getDL_mem ⟨h1, h⟩))).bind fun _ _ => .pure fun _ => h)) fun _ => .pure nofun) fun c hc => .bif (fun hb => ?_) fun _ => ?_
    · have := hc hb
      refine .pure ⟨fun e => ?_, by omega, fun x hx => .inl hx⟩
      rw [e] at this
      simp at this
      omega
    · have hcap : ∀ n : Nat, n ≤ 1000000001 → capOK n 24 = true := fun n hn => decide_eq_true ⟨by omega, by omega⟩
      refine .gdD ⟨Int.le_refl _, h1, h2⟩ (.gd (hcap _ ?_) (.gd (hcap _ ?_) (.gdD ⟨h1, h2, Int.le_refl _⟩ (.gd (hcap _ ?_) (.pure ⟨by simp, ?_, fun x hx => ?_⟩)))))
      · simp only [List.nil_append, List.length_nil, List.length_take, List.length_drop]; omega
      · simp only [List.nil_append, List.length_take, List.length_drop]; omega
      · simp only [List.nil_append, List.length_append, List.length_cons, List.length_nil, List.length_take, List.length_drop]; omega
      · simp only [List.nil_append, List.length_append, List.length_cons, List.length_nil, List.length_take, List.length_drop]; omega
      · rcases List.mem_append.1 hx with hx | hx
        · rcases List.mem_append.1 hx with hx | hx
          · exact .inl (List.mem_of_mem_drop (List.mem_of_mem_take hx))
          · exact .inr (List.mem_singleton.1 hx)
        · exact .inl (List.mem_of_mem_drop (List.mem_of_mem_take hx))
theorem start_ret {p : List (List Ximpl_Instr)} (hp : goP p = true) : Ret (F_spec_l3Start p (0 : Int)) (WS p) := by
  have hpl := (goP_iff.1 hp).1
  unfold F_spec_l3Start
  refine .gdD (by omega) (.gdI (by omega) (.gdD (by omega) (.gdD (by decide) (.gdD (by decide) (.pure ⟨by simp, fun i hi => ?_, by simp; omega, fun v hv => ?_, by simp, fun v hv => ?_, by simp⟩)))))
  · simp [hi]
  · rw [List.eq_of_mem_replicate hv]
    decide
  · rw [List.eq_of_mem_replicate hv]
    decide
theorem copy_ret {p : List (List Ximpl_Instr)} (hp : goP p = true) {s : Xspec_l3State} (h : WS p s) : Ret (F_spec_l3Copy s) (· = s) := by
  have hpl := (goP_iff.1 hp).1
  have ha := h.al
  have hr := h.rl
  have hm := h.ml
  unfold F_spec_l3Copy
  refine .gdC (by simp; omega) rfl (.gdC (by simp; omega) rfl (.gdC (by simp; omega) rfl ?_))
  refine Ret.bind (P := fun _ => True) ?_ fun _ _ => .pure ?_
  · refine Ret.loop (fun _ => True) (fun _ => 0) trivial fun z _ => ?_
    unfold F_spec_l3Copy_L6
    refine .bifD (fun h0 => ?_) fun _ => .pure trivial
    rw [h.b] at h0
    exact absurd h0 (by simp)
  · have hb := h.b
    cases s
    simp only at hb
    subst hb
    rfl
theorem instr_go {p : List (List Ximpl_Instr)} (hp : goP p = true) {a b : Int} (ha : 0 ≤ a ∧ a < (p.length : Int)) (hb : 0 ≤ b ∧ b < ((p.getD a.toNat default).length : Int)) : goI ((p.getD a.toNat default).getD b.toNat default) = true := by
  have h1 : a.toNat < p.length := by omega
  have e1 : p.getD a.toNat default = p[a.toNat] := by simp [h1]
  rw [e1] at hb ⊢
  have h2 : b.toNat < p[a.toNat].length := by omega
  have e2 : p[a.toNat].getD b.toNat default = p[a.toNat][b.toNat] := by simp [h2]
  rw [e2]
  exact ((goP_iff.1 hp).2 _ (List.getElem_mem h1)).2 _ (List.getElem_mem h2)
theorem reg_ret {n : Nat} (hn : n ≤ 3) {t g : Int} (ht : 0 ≤ t ∧ t < (n : Int)) (hg : 0 ≤ g ∧ g ≤ 2) : Ret (F_spec_l3Reg t g) fun v => 0 ≤ v ∧ v < ((3 * n : Nat) : Int) := by
  unfold F_spec_l3Reg
  exact .gdI (by omega) (.gdI (by omega) (.pure ⟨by omega, by omega⟩))
theorem set_all {l : List Int} {P : Int → Prop} (h : ∀ v ∈ l, P v) {i : Nat} {x : Int} (hx : P x) : ∀ v ∈ l.set i x, P v := fun v hv => by
  rcases List.mem_or_eq_of_mem_set hv with hv | rfl
  · exact h v hv
  · exact hx
theorem do_ret {p : List (List Ximpl_Instr)} (hp : goP p = true) {s : Xspec_l3State} (h : WS p s) {t : Int} (ht : 0 ≤ t ∧ t < (p.length : Int)) (hlt : s.at_.getD t.toNat default < ((p.getD t.toNat default).length : Int)) :
    Ret (F_spec_l3Do p s t) fun q => WS p q ∧ q.at_ = s.at_.set t.toNat (s.at_.getD t.toNat default + 1) := by
  have hpl := (goP_iff.1 hp).1
  have ha0 := (h.a t.toNat (by omega)).1
  have hrow := goP_row hp t.toNat
  have hg := instr_go hp ht ⟨ha0, hlt⟩
  unfold F_spec_l3Do
  generalize (p.getD t.toNat default).getD (s.at_.getD t.toNat default).toNat default = x at hg
  simp only [goI, decide_eq_true_eq] at hg
  refine (copy_ret hp h).bind fun v1 e => ?_
  subst e
  refine .gdD ht (.gdD (by rw [h.al]; exact ht) (.gdD ⟨ha0, hlt⟩ (.gdI (by omega) (.gdD (by rw [h.al]; exact ht) ?_))))
  refine Ret.bind (P := fun l : List Int => l.length = 3 * p.length ∧ ∀ v ∈ l, 0 ≤ v ∧ v ≤ 3) ?_ fun r ⟨r1, r2⟩ => ?_
  · refine (l1Reads_ret _).bind fun b _ => .bif (fun _ => ?_) fun _ => .pure ⟨h.rl, h.r⟩
    refine (reg_ret hpl.2 ht ⟨hg.2.2.1, hg.2.2.2.1⟩).bind fun v ⟨g1, g2⟩ => .gdD ⟨hg.1, by rw [h.ml]; omega⟩ (.gdD ⟨g1, by rw [h.rl]; exact g2⟩ (.pure ⟨by rw [List.length_set]; exact h.rl, ?_⟩))
    exact set_all h.r (h.m _ (getD_mem hg.1 (by rw [h.ml]; omega)))
  refine Ret.bind (P := fun l : List Int => l.length = 3 ∧ ∀ v ∈ l, 0 ≤ v ∧ v ≤ 3) ?_ fun m ⟨m1, m2⟩ => ?_
  · refine (l1Writes_ret _).bind fun b _ => .bif (fun _ => ?_) fun _ => .pure ⟨h.ml, h.m⟩
    refine Ret.bind (P := fun v : Int => 0 ≤ v ∧ v ≤ 3) ?_ fun v hv => .gdD ⟨hg.1, by rw [h.ml]; omega⟩ (.pure ⟨by rw [List.length_set]; exact h.ml, set_all h.m hv⟩)
    unfold F_spec_l3Value
    refine .bif (fun _ => ?_) fun _ => .pure ⟨hg.2.2.2.2.1, hg.2.2.2.2.2⟩
    exact (reg_ret hpl.2 ht ⟨hg.2.2.1, hg.2.2.2.1⟩).bind fun v ⟨g1, g2⟩ => .gdD ⟨g1, by rw [h.rl]; exact g2⟩ (.pure (h.r _ (getD_mem g1 (by rw [h.rl]; exact g2))))
  refine .pure ⟨⟨by rw [List.length_set]; exact h.al, fun i hi => ?_, r1, r2, m1, m2, rfl⟩, rfl⟩
  simp only
  by_cases e : t.toNat = i
  · subst e
    have : (v1.at_.set t.toNat (v1.at_.getD t.toNat default + 1)).getD t.toNat default = v1.at_.getD t.toNat default + 1 := by
      rw [List.getD_eq_getElem?_getD, List.getElem?_set_self (by rw [h.al]; exact hi)]
      rfl
    rw [this]
    omega
  · have : (v1.at_.set t.toNat (v1.at_.getD t.toNat default + 1)).getD i default = v1.at_.getD i default := by
      rw [List.getD_eq_getElem?_getD, List.getElem?_set_ne e, List.getD_eq_getElem?_getD]
    rw [this]
    exact h.a i hi
end Go.Proofs.Ytjogdblionfmiaa

namespace Go.Proofs.Ytjogdblionfmiaa
open Go.RowKit
set_option maxRecDepth 100000
def dp (s : Xspec_l3State) : Nat := (s.at_.map Int.toNat).sum
def wt (s : Xspec_l3State) : Nat := 4 ^ (12 - dp s)
def Wt (l : List Xspec_l3State) : Nat := (l.map wt).sum
theorem wt_pos (s : Xspec_l3State) : 0 < wt s := Nat.pow_pos (by decide)
theorem Wt_append (a b : List Xspec_l3State) : Wt (a ++ b) = Wt a + Wt b := by unfold Wt; rw [List.map_append, List.sum_append]
theorem Wt_one (s : Xspec_l3State) : Wt [s] = wt s := by simp [Wt]
theorem len_Wt : ∀ l : List Xspec_l3State, l.length ≤ Wt l
  | [] => Nat.zero_le _
  | s :: l => by
    have h1 := len_Wt l
    have h2 := wt_pos s
    have h3 : Wt (s :: l) = wt s + Wt l := by simp [Wt]
    rw [h3, List.length_cons]
    omega
theorem sum_le4 : ∀ {l : List Int}, (∀ v ∈ l, 0 ≤ v ∧ v ≤ 4) → (l.map Int.toNat).sum ≤ 4 * l.length
  | [], _ => by simp
  | a :: l, h => by
    have h1 := sum_le4 (l := l) fun v hv => h v (List.mem_cons_of_mem _ hv)
    have h2 := h a (List.mem_cons_self)
    simp only [List.map_cons, List.sum_cons, List.length_cons]
    omega
theorem dp_le {p : List (List Ximpl_Instr)} (hp : goP p = true) {s : Xspec_l3State} (h : WS p s) : dp s ≤ 12 := by
  have hpl := (goP_iff.1 hp).1
  have h1 := sum_le4 (h.at255 hp)
  rw [h.al] at h1
  unfold dp
  omega
theorem sum_set : ∀ {l : List Int} {i : Nat}, i < l.length → 0 ≤ l.getD i default → ((l.set i (l.getD i default + 1)).map Int.toNat).sum = (l.map Int.toNat).sum + 1
  | [], i, h, _ => absurd h (by simp)
  | a :: l, 0, _, h0 => by
    have h0 : 0 ≤ a := h0
    show ((a + 1).toNat :: l.map Int.toNat).sum = (a.toNat :: l.map Int.toNat).sum + 1
    simp only [List.sum_cons]
    omega
  | a :: l, i + 1, h, h0 => by
    have h1 := sum_set (l := l) (i := i) (by simpa using h) h0
    show (a.toNat :: (l.set i (l.getD i default + 1)).map Int.toNat).sum = (a.toNat :: l.map Int.toNat).sum + 1
    simp only [List.sum_cons]
    omega
/-- no key in the table has come farther -/
def Cov (p : List (List Ximpl_Instr)) (tb : Tb) (s : Xspec_l3State) : Prop := ∀ i k, k ∈ tb.getD i [] → depth p.length k ≤ dp s
theorem getD_set (tb : Tb) (v i : Nat) (r : List ByteArray) : (tb.set v r).getD i [] = tb.getD i [] ∨ (i = v ∧ (tb.set v r).getD i [] = r) := by
  by_cases e : v = i
  · subst e
    by_cases h : v < tb.length
    · exact .inr ⟨rfl, by rw [List.getD_eq_getElem?_getD, List.getElem?_set_self h]; rfl⟩
    · left
      rw [List.getD_eq_getElem?_getD, List.getD_eq_getElem?_getD, List.getElem?_eq_none (by rw [List.length_set]; omega), List.getElem?_eq_none (by omega)]
  · left
    rw [List.getD_eq_getElem?_getD, List.getD_eq_getElem?_getD, List.getElem?_set_ne e]
theorem mem_mark {tb : Tb} {v i : Nat} {k k' : ByteArray} (h : k' ∈ (tb.set v (tb.getD v [] ++ [k])).getD i []) : k' ∈ tb.getD i [] ∨ k' = k := by
  rcases getD_set tb v i (tb.getD v [] ++ [k]) with e | ⟨rfl, e⟩
  · rw [e] at h; exact .inl h
  · rw [e] at h
    rcases List.mem_append.1 h with h | h
    · exact .inl h
    · exact .inr (List.mem_singleton.1 h)
theorem len_mark (tb : Tb) (v i : Nat) (k : ByteArray) : ((tb.set v (tb.getD v [] ++ [k])).getD i []).length ≤ (tb.getD i []).length + 1 := by
  rcases getD_set tb v i (tb.getD v [] ++ [k]) with e | ⟨rfl, e⟩
  · rw [e]; omega
  · rw [e]; simp
theorem key_size {p : List (List Ximpl_Instr)} (hp : goP p = true) {s : Xspec_l3State} (h : WS p s) : (keyOf s).size ≤ 1000000 := by
  have hpl := (goP_iff.1 hp).1
  have ha := h.al
  have hr := h.rl
  have hm := h.ml
  have : (keyOf s).size = (s.at_ ++ s.regs ++ s.mem).length := by simp [keyOf, strOfNums, ByteArray.size]
  rw [this, List.length_append, List.length_append]
  omega
theorem cap_bd {n m : Nat} (hn : n ≤ 100000000) (hm : Nat.ble m 1000 = true) : capOK n m = true := by
  have h1 := Nat.le_of_ble_eq_true hm
  have h2 : n * m ≤ 100000000 * 1000 := Nat.mul_le_mul hn h1
  exact decide_eq_true ⟨by omega, by omega⟩
theorem inner_ret {p : List (List Ximpl_Instr)} (hp : goP p = true) {sv : Xspec_l3State} (hs : WS p sv) {tb0 : Tb} {wk0 : List Xspec_l3State} {st : Nat} (A : Prop)
    (hA : A ∨ (∃ s ∈ wk0, Cov p tb0 s) ∨ (Cov p tb0 sv ∧ ∃ t : Nat, t < p.length ∧ sv.at_.getD t default < ((p.getD t default).length : Int))) (hl : tb0.length = 4096) (hw : ∀ s ∈ wk0, WS p s)
    (hr : ∀ i, (tb0.getD i []).length ≤ st + wk0.length) (hb : st + Wt wk0 + 3 * (wt sv / 4) ≤ 16777216) :
    Ret (loopO (F_spec_l3Seq_I p sv) ((0 : Int), tb0, wk0)) fun y => y.1.length = 4096 ∧ (∀ s ∈ y.2, WS p s) ∧ (∀ i, (y.1.getD i []).length ≤ st + y.2.length) ∧ Wt y.2 ≤ Wt wk0 + 3 * (wt sv / 4) ∧ (A ∨ ∃ s ∈ y.2, Cov p y.1 s) := by
  have hpl := (goP_iff.1 hp).1
  refine Ret.loop (fun z => (0 ≤ z.1 ∧ z.1 ≤ (p.length : Int)) ∧ z.2.1.length = 4096 ∧ (∀ s ∈ z.2.2, WS p s) ∧ (∀ i, (z.2.1.getD i []).length ≤ st + z.2.2.length) ∧ (∃ m, m + z.1.toNat = p.length ∧ Wt z.2.2 + m * (wt sv / 4) ≤ Wt wk0 + 3 * (wt sv / 4)) ∧
      (A ∨ (∃ s ∈ z.2.2, Cov p z.2.1 s) ∨ (Cov p z.2.1 sv ∧ ∃ t : Nat, z.1 ≤ (t : Int) ∧ t < p.length ∧ sv.at_.getD t default < ((p.getD t default).length : Int)))) (fun z => ((p.length : Int) - z.1).toNat)
    ⟨⟨Int.le_refl _, by simp only []; omega⟩, hl, hw, hr, ⟨p.length, rfl, Nat.add_le_add_left (Nat.mul_le_mul_right _ hpl.2) _⟩, ?_⟩ fun z ⟨h1, h2, h3, h4, ⟨m, hm, h5⟩, h6⟩ => ?_
  · rcases hA with h | h | ⟨h, t, h7, h8⟩
    · exact .inl h
    · exact .inr (.inl h)
    · exact .inr (.inr ⟨h, t, by simp only []; omega, h7, h8⟩)
  obtain ⟨t, tb, wk⟩ := z
  simp only at h1 h2 h3 h4 h5 h6 hm
  unfold F_spec_l3Seq_I
  refine .bifD (fun h0 => .gdD ⟨h1.1, by rw [hs.al]; exact h0⟩ (.gdD ⟨h1.1, h0⟩ ?_)) fun h0 => .pure ⟨h2, h3, h4, by omega, ?_⟩
  · obtain ⟨m, rfl⟩ : ∃ m', m = m' + 1 := ⟨m - 1, by omega⟩
    rw [Nat.succ_mul] at h5
    have hmt : m + (t + 1).toNat = p.length := by omega
    refine .bif (fun he => .gdI (by omega) (.pure ⟨⟨⟨by simp only []; omega, by simp only []; omega⟩, h2, h3, h4, ⟨m, hmt, by simp only []; omega⟩, ?_⟩, by simp only []; omega⟩)) fun he => ?_
    · rcases h6 with h | h | ⟨h, t', h7, h8, h9⟩
      · exact .inl h
      · exact .inr (.inl h)
      · refine .inr (.inr ⟨h, t', ?_, h8, h9⟩)
        have : (t' : Int) ≠ t := fun e => by
          have : t' = t.toNat := by omega
          subst this
          have he' : sv.at_.getD t.toNat default = ((p.getD t.toNat default).length : Int) := eq_of_beq he
          omega
        simp only
        omega
    · have hne : sv.at_.getD t.toNat default ≠ ((p.getD t.toNat default).length : Int) := fun e => by rw [e] at he; simp at he
      have hat := hs.a t.toNat (by omega)
      have hlt : sv.at_.getD t.toNat default < ((p.getD t.toNat default).length : Int) := by omega
      refine (do_ret hp hs ⟨h1.1, h0⟩ hlt).bind fun q ⟨hq, hqa⟩ => (key_ret hp hq).bind fun k hk => ?_
      subst hk
      have hdq : dp q = dp sv + 1 := by
        unfold dp
        rw [hqa]
        exact sum_set (by rw [hs.al]; omega) hat.1
      have hdk : depth p.length (keyOf q) = dp q := depth_key hp hq
      have hd12 := dp_le hp hq
      have hwq : wt q = wt sv / 4 := by
        unfold wt
        rw [show 12 - dp sv = (12 - dp q) + 1 by omega, Nat.pow_succ, Nat.mul_div_cancel _ (by decide)]
      have hlW := len_Wt wk
      refine (found_ret (keyOf q) (key_size hp hq) h2 fun i => by have := h4 i; omega).bind fun f hf => .bif (fun hb => ?_) fun hb => ?_
      · refine (hash_ret (keyOf q) (key_size hp hq)).bind fun v ⟨v1, v2⟩ => .gdD ⟨v1, by simp only [h2]; omega⟩ (.gd (cap_bd (by have := h4 v.toNat; simp only []; omega) rfl) (.gd (cap_bd (by simp only []; omega) rfl) (.gdI (by omega) (.pure ⟨⟨⟨by simp only []; omega, by simp only []; omega⟩, by simp only [List.length_set]; exact h2, ?_, ?_, ⟨m, hmt, ?_⟩, ?_⟩, by simp only []; omega⟩))))
        · intro s hsm
          rcases List.mem_append.1 hsm with hsm | hsm
          · exact h3 s hsm
          · rw [List.mem_singleton.1 hsm]
            exact hq
        · intro i
          have a1 := len_mark tb v.toNat i (keyOf q)
          have a2 := h4 i
          simp only [List.length_append, List.length_cons, List.length_nil]
          omega
        · simp only [Wt_append, Wt_one, hwq]
          omega
        · have up : ∀ s, Cov p tb s → dp q ≤ dp s → Cov p (tb.set v.toNat (tb.getD v.toNat [] ++ [keyOf q])) s := fun s hc hle i k hk => by
            rcases mem_mark hk with hk | rfl
            · exact hc i k hk
            · rw [hdk]; exact hle
          have upq : ∀ s, Cov p tb s → dp s ≤ dp q → Cov p (tb.set v.toNat (tb.getD v.toNat [] ++ [keyOf q])) q := fun s hc hle => up q (fun i k hk => Nat.le_trans (hc i k hk) hle) (Nat.le_refl _)
          rcases h6 with h | ⟨s, hsm, hc⟩ | ⟨hc, _⟩
          · exact .inl h
          · refine .inr (.inl ?_)
            rcases Nat.le_total (dp q) (dp s) with hle | hle
            · exact ⟨s, List.mem_append_left _ hsm, up s hc hle⟩
            · exact ⟨q, List.mem_append_right _ (List.mem_singleton.2 rfl), upq s hc hle⟩
          · exact .inr (.inl ⟨q, List.mem_append_right _ (List.mem_singleton.2 rfl), upq sv hc (by omega)⟩)
      · have hft : f = true := by simpa using hb
        obtain ⟨i, hi⟩ := hf hft
        refine .gdI (by omega) (.pure ⟨⟨⟨by simp only []; omega, by simp only []; omega⟩, h2, h3, h4, ⟨m, hmt, by simp only []; omega⟩, ?_⟩, by simp only []; omega⟩)
        rcases h6 with h | h | ⟨hc, _⟩
        · exact .inl h
        · exact .inr (.inl h)
        · have := hc i (keyOf q) hi
          omega
  · rcases h6 with h | h | ⟨h, t', h7, h8, h9⟩
    · exact .inl h
    · exact .inr h
    · omega
end Go.Proofs.Ytjogdblionfmiaa

namespace Go.Proofs.Ytjogdblionfmiaa
open Go.RowKit
set_option maxRecDepth 100000
theorem rep_nil (n i : Nat) : (List.replicate n ([] : List ByteArray)).getD i [] = [] := by simp [List.getElem?_replicate]; split <;> rfl
theorem seq_ret {p : List (List Ximpl_Instr)} (hp : goP p = true) : Ret (F_spec_l3Seq p) fun q => q.outcomes ≠ [] ∧ (∀ o ∈ q.outcomes, o.length = 3 * p.length + 3) ∧ q.outcomes.length ≤ 16777216 := by
  have hpl := (goP_iff.1 hp).1
  unfold F_spec_l3Seq
  refine (start_ret hp).bind fun s hs => (key_ret hp hs).bind fun k hk => ?_
  subst hk
  have hl0 : (List.replicate 4096 ([] : List ByteArray)).length = 4096 := List.length_replicate
  have hn0 := rep_nil 4096
  generalize List.replicate 4096 ([] : List ByteArray) = tb0 at hl0 hn0 ⊢
  refine (hash_ret (keyOf s) (key_size hp hs)).bind fun v ⟨v1, v2⟩ => .gdD ⟨v1, by rw [hl0]; exact v2⟩ ?_
  have ht : tb0.set v.toNat ([] ++ [keyOf s]) = tb0.set v.toNat (tb0.getD v.toNat [] ++ [keyOf s]) := by rw [hn0]
  rw [ht]
  have hl1 : (tb0.set v.toNat (tb0.getD v.toNat [] ++ [keyOf s])).length = 4096 := by rw [List.length_set]; exact hl0
  have hr1 : ∀ i, ((tb0.set v.toNat (tb0.getD v.toNat [] ++ [keyOf s])).getD i []).length ≤ 1 := fun i => by
    have := len_mark tb0 v.toNat i (keyOf s)
    rw [hn0 i] at this
    exact this
  have hc1 : Cov p (tb0.set v.toNat (tb0.getD v.toNat [] ++ [keyOf s])) s := fun i k hk => by
    rcases mem_mark hk with hk | rfl
    · rw [hn0] at hk
      cases hk
    · exact Nat.le_of_eq (depth_key hp hs)
  generalize tb0.set v.toNat (tb0.getD v.toNat [] ++ [keyOf s]) = tb1 at hl1 hr1 hc1 ⊢
  refine Ret.bind (P := fun y : Int × List (List Int) => y.2 ≠ [] ∧ (∀ o ∈ y.2, o.length = 3 * p.length + 3) ∧ y.2.length ≤ 16777216) ?_ fun y hy => .pure hy
  refine Ret.loop (fun z => z.1.length = 4096 ∧ (∀ s ∈ z.2.1, WS p s) ∧ 0 ≤ z.2.2.1 ∧ (∀ i, (z.1.getD i []).length ≤ z.2.2.1.toNat + z.2.1.length) ∧ z.2.2.1.toNat + Wt z.2.1 ≤ 16777216 ∧ (∀ o ∈ z.2.2.2, o.length = 3 * p.length + 3) ∧ z.2.2.2.length ≤ z.2.2.1.toNat ∧
      (z.2.2.2 ≠ [] ∨ ∃ s ∈ z.2.1, Cov p z.1 s)) (fun z => Wt z.2.1) ⟨hl1, fun x hx => by rw [List.mem_singleton.1 hx]; exact hs, Int.le_refl _, fun i => by have := hr1 i; simpa using this, ?_, nofun, Nat.zero_le _, .inr ⟨s, List.mem_singleton.2 rfl, hc1⟩⟩ fun z ⟨h1, h2, h3, h4, h5, h6, h7, h8⟩ => ?_
  · simp only [Wt_one]
    have : wt s ≤ 4 ^ 12 := Nat.pow_le_pow_right (by decide) (by omega)
    have e : (4 : Nat) ^ 12 = 16777216 := by decide
    have e0 : (0 : Int).toNat = 0 := rfl
    omega
  obtain ⟨tbl, work, st, outs⟩ := z
  simp only at h1 h2 h3 h4 h5 h6 h7 h8
  unfold F_spec_l3Seq_O
  simp only
  have hlW := len_Wt work
  refine .bifD (fun h0 => ?_) fun h0 => .pure ⟨?_, h6, by simp only []; omega⟩
  · have hwl : ((work.length : Int) - 1).toNat = work.length - 1 := by omega
    rw [hwl]
    have hlt : work.length - 1 < work.length := by omega
    have hgd : work.getD (work.length - 1) default = work[work.length - 1] := by simp [hlt]
    have hsplit : work = work.take (work.length - 1) ++ [work.getD (work.length - 1) default] := by
      rw [hgd, List.take_append_getElem hlt, show work.length - 1 + 1 = work.length by omega, List.take_length]
    have hll : (work.take (work.length - 1)).length + 1 = work.length := by rw [List.length_take]; omega
    generalize work.getD (work.length - 1) default = sv at hsplit ⊢
    generalize work.take (work.length - 1) = wk0 at hsplit hll ⊢
    have hW : Wt work = Wt wk0 + wt sv := by rw [hsplit, Wt_append, Wt_one]
    have hsv : WS p sv := h2 sv (by rw [hsplit]; exact List.mem_append_right _ (List.mem_singleton.2 rfl))
    have hwk : ∀ s ∈ wk0, WS p s := fun s hs => h2 s (by rw [hsplit]; exact List.mem_append_left _ hs)
    have hpos := wt_pos sv
    refine .gdI (by omega) (.gdD ⟨by omega, by omega⟩ (.gdI (by omega) ((done_ret hp hsv).bind fun d hd => ?_)))
    refine Ret.bind (P := fun l : List (List Int) => (∀ o ∈ l, o.length = 3 * p.length + 3) ∧ l.length ≤ st.toNat + 1 ∧ (l ≠ [] ∨ (l = outs ∧ d = false))) ?_ fun outs' ⟨o1, o2, o3⟩ => ?_
    · refine .bif (fun _ => ?_) fun hdf => .pure ⟨h6, by omega, .inr ⟨rfl, hdf⟩⟩
      refine (outcome_ret hp hsv).bind fun o ho => (put_ret (by omega) fun x hx => by have := h6 x hx; omega).mono fun l ⟨l1, l2, l3⟩ => ⟨fun x hx => ?_, by omega, .inl l1⟩
      rcases l3 x hx with hx | rfl
      · exact h6 x hx
      · exact ho
    have hA : outs' ≠ [] ∨ (∃ s ∈ wk0, Cov p tbl s) ∨ (Cov p tbl sv ∧ ∃ t : Nat, t < p.length ∧ sv.at_.getD t default < ((p.getD t default).length : Int)) := by
      rcases o3 with h | ⟨rfl, hdf⟩
      · exact .inl h
      · rcases h8 with h | ⟨s, hsm, hc⟩
        · exact .inl h
        · rw [hsplit] at hsm
          rcases List.mem_append.1 hsm with hsm | hsm
          · exact .inr (.inl ⟨s, hsm, hc⟩)
          · rw [List.mem_singleton.1 hsm] at hc
            rcases hd with hd | hd
            · rw [hdf] at hd; cases hd
            · exact .inr (.inr ⟨hc, hd⟩)
    have e1 : (st + 1).toNat = st.toNat + 1 := by omega
    refine (inner_ret (st := st.toNat + 1) hp hsv (outs' ≠ []) hA h1 hwk (fun i => by have := h4 i; omega) (by omega)).bind fun y ⟨y1, y2, y3, y4, y5⟩ => .pure ⟨⟨y1, y2, by simp only []; omega, fun i => by rw [e1]; exact y3 i, by simp only [e1]; omega, o1, by simp only [e1]; omega, y5⟩, by simp only []; omega⟩
  · rcases h8 with h | ⟨s, hsm, _⟩
    · exact h
    · have : work = [] := List.eq_nil_of_length_eq_zero (by omega)
      rw [this] at hsm
      cases hsm
end Go.Proofs.Ytjogdblionfmiaa

namespace Go.Proofs.Ytjogdblionfmiaa
open Go.RowKit
set_option maxRecDepth 100000
theorem goP_sz {p : List (List Ximpl_Instr)} (h : goP p = true) : p.length ≤ 1048576 ∧ total p ≤ 1048576 := by
  rw [goP_iff] at h
  have h1 := total_le (m := 4) (fun r hr => (h.2 r hr).1)
  have h2 : p.length * 4 ≤ 12 := by omega
  exact ⟨by omega, by omega⟩
def parsedGo (t : ByteArray) : Bool := match C_spec_ParseProgram t with
  | some v => !v.2 || goP v.1
  | none => false
theorem parsed_all_go : ∀ l, F_spec_l1Tests = some l → l.all parsedGo = true := by
  intro l h
  obtain rfl := Option.some.inj h
  decide +kernel
theorem parsed_go {t : ByteArray} (h : parsedGo t = true) : Ret (F_spec_ParseProgram t) fun v => v.2 = true → goP v.1 = true := by
  unfold parsedGo at h
  cases hc : C_spec_ParseProgram t with
  | none => rw [hc] at h; cases h
  | some v =>
    rw [hc] at h
    refine ⟨v, C_spec_ParseProgram_le t v hc, fun h2 => ?_⟩
    replace h : (!v.2 || goP v.1) = true := h
    rw [h2] at h
    exact h
theorem parse_go : ∀ l, F_spec_l1Tests = some l → ∀ t ∈ l, Ret (F_spec_ParseProgram t) fun v => v.2 = true → goP v.1 = true :=
  fun l h t ht => parsed_go (List.all_eq_true.1 (parsed_all_go l h) t ht)
theorem l1Instr_go {k : Int} {r : Xspec_l17Rd} (h : Rd k r) (hk : k ≤ 10000000) : Ret (F_spec_l1Instr r) fun v => Rd (k + 4) v.1 ∧ goI v.2 = true := by
  unfold F_spec_l1Instr
  refine (pick_ret h.mk' (by omega) 2).bind fun v1 ⟨a1, a2, a3⟩ => (pick_ret a1.mk' (by omega) 7).bind fun v2 ⟨b1, b2, b3⟩ => ?_
  refine .bif (fun _ => .pure ⟨b1.mono (by omega), by simp only [goI]; exact decide_eq_true (by omega)⟩) fun _ => ?_
  refine .bif (fun _ => (pick_ret b1.mk' (by omega) 2).bind fun v3 ⟨c1, c2, c3⟩ => .pure ⟨c1.mono (by omega), decide_eq_true (by simp only []; omega)⟩) fun _ => ?_
  refine .bif (fun _ => (pick_ret b1.mk' (by omega) 2).bind fun v3 ⟨c1, c2, c3⟩ => (pick_ret c1.mk' (by omega) 3).bind fun v4 ⟨d1, d2, d3⟩ => .gdI (by omega) (.pure ⟨d1.mono (by omega), decide_eq_true (by simp only []; omega)⟩)) fun _ => ?_
  refine Ret.bind (P := fun _ => True) (.bif (fun _ => .pure trivial) (fun _ => .pure trivial)) fun s _ => ?_
  refine .bif (fun _ => (pick_ret b1.mk' (by omega) 3).bind fun v3 ⟨c1, c2, c3⟩ => .gdI (by omega) (.pure ⟨c1.mono (by omega), decide_eq_true (by simp only []; omega)⟩)) fun _ => ?_
  exact (pick_ret b1.mk' (by omega) 2).bind fun v3 ⟨c1, c2, c3⟩ => .pure ⟨c1.mono (by omega), decide_eq_true (by simp only []; omega)⟩
/-- one thread -/
theorem thread_go {k : Int} {b : List Int} {p n : Int} (h : Rd k ⟨b, p⟩) (hk : k ≤ 1000000) (hn : 0 ≤ n ∧ n ≤ 3) : Ret (loopO F_spec_l1Draw_L21 (b, p, ([] : List Ximpl_Instr), n)) fun v => Rd (k + 12) ⟨v.1, v.2.1⟩ ∧ v.2.2.length ≤ 3 ∧ ∀ x ∈ v.2.2, goI x = true := by
  refine Ret.loop (fun s => Rd (k + 4 * (3 - s.2.2.2)) ⟨s.1, s.2.1⟩ ∧ (0 ≤ s.2.2.2 ∧ s.2.2.2 + (s.2.2.1.length : Int) ≤ 3) ∧ ∀ x ∈ s.2.2.1, goI x = true) (fun s => s.2.2.2.toNat) ⟨h.mono (by simp only []; omega), by simp; omega, by simp⟩ fun s ⟨h1, h2, h3⟩ => ?_
  unfold F_spec_l1Draw_L21
  refine .bifD (fun h0 => ?_) fun h0 => .pure ⟨h1.mono (by omega), by simp only []; omega, h3⟩
  refine (l1Instr_go h1 (by omega)).bind fun v ⟨a1, a2⟩ => .gdC (by omega) rfl (.gdI (by omega) (.pure ⟨⟨a1.mk'.mono (by simp only []; omega), by simp only [List.length_append, List.length_cons, List.length_nil]; omega, fun x hx => ?_⟩, by simp only []; omega⟩))
  rcases List.mem_append.1 hx with hx | hx
  · exact h3 x hx
  · rw [List.mem_singleton.1 hx]
    exact a2
theorem threads_go {k : Int} {b : List Int} {p n : Int} (h : Rd k ⟨b, p⟩) (hk : k ≤ 100000) (hn : 1 ≤ n ∧ n ≤ 3) : Ret (loopO F_spec_l1Draw_L13 (b, p, ([] : List (List Ximpl_Instr)), n)) fun v => Rd (k + 39) ⟨v.1, v.2.1⟩ ∧ goP v.2.2 = true := by
  refine Ret.loop (fun s => Rd (k + 13 * (3 - s.2.2.2)) ⟨s.1, s.2.1⟩ ∧ (0 ≤ s.2.2.2 ∧ 1 ≤ s.2.2.2 + (s.2.2.1.length : Int) ∧ s.2.2.2 + (s.2.2.1.length : Int) ≤ 3) ∧ ∀ r ∈ s.2.2.1, r.length ≤ 4 ∧ ∀ x ∈ r, goI x = true) (fun s => s.2.2.2.toNat) ⟨h.mono (by simp only []; omega), by simp; omega, by simp⟩ fun s ⟨h1, h2, h3⟩ => ?_
  unfold F_spec_l1Draw_L13
  refine .bifD (fun h0 => ?_) fun h0 => .pure ⟨h1.mono (by omega), goP_iff.2 ⟨by simp only []; omega, h3⟩⟩
  refine Ret.bind (P := fun v => Rd (k + 13 * (3 - s.2.2.2) + 13) ⟨v.1, v.2.1⟩ ∧ ∃ t : List Ximpl_Instr, v.2.2 = s.2.2.1 ++ [t] ∧ t.length ≤ 4 ∧ ∀ x ∈ t, goI x = true) ?_ fun v ⟨a1, t, a2, a3, a4⟩ => ?_
  · refine Ret.bind (P := fun v => Rd (k + 13 * (3 - s.2.2.2) + 13) ⟨v.1, v.2.1⟩ ∧ v.2.2.length ≤ 3 ∧ ∀ x ∈ v.2.2, goI x = true) ?_ fun v ⟨a1, a2, a3⟩ => .gdC (by omega) rfl (.pure ⟨a1, v.2.2, rfl, by omega, a3⟩)
    refine (num_ret h1 (by omega) _ (by simp)).bind fun v ⟨b1, b2⟩ => (thread_go (n := v.2) b1.mk' (by omega) (by simp only [List.mem_cons, List.not_mem_nil, or_false] at b2; omega)).mono fun u ⟨c1, c2, c3⟩ => ⟨c1.mono (by omega), c2, c3⟩
  · refine .gdI (by omega) (.pure ⟨⟨a1.mono (by simp only []; omega), by simp only [a2, List.length_append, List.length_cons, List.length_nil]; omega, fun r hr => ?_⟩, by simp only []; omega⟩)
    simp only [a2] at hr
    rcases List.mem_append.1 hr with hr | hr
    · exact h3 r hr
    · rw [List.mem_singleton.1 hr]
      exact ⟨a3, a4⟩
theorem l1Draw_go {k : Int} {r : Xspec_l17Rd} (h : Rd k r) (hk : k ≤ 10000) (hp : ∀ l, F_spec_l1Tests = some l → ∀ t ∈ l, Ret (F_spec_ParseProgram t) fun v => v.2 = true → goP v.1 = true) : Ret (F_spec_l1Draw r) fun v => Rd (k + 46) v.1 ∧ goP v.2 = true := by
  unfold F_spec_l1Draw
  have e1 : ∃ l, F_spec_l1Tests = some l ∧ 0 < l.length ∧ l.length ≤ 100 := ⟨_, rfl, by decide, by decide⟩
  obtain ⟨l, e1, e2, e3⟩ := e1
  have hp' := hp l e1
  refine (Ret.of (P := fun v => v = l) e1 rfl).bind fun v1 hv => ?_
  subst hv
  refine Ret.sum (PS := fun s => Rd (k + 2) ⟨s.1, s.2⟩) (PW := fun v : Xspec_l17Rd × List (List Ximpl_Instr) => Rd (k + 46) v.1 ∧ goP v.2 = true) ?_ fun s hs => ?_
  · refine (pick_ret h.mk' (by omega) 3).bind fun v3 ⟨a1, a2, a3⟩ => .bif (fun _ => ?_) fun _ => .pure (a1.mk'.mono (by omega))
    refine (pick_ret a1.mk' (by omega) _).bind fun v5 ⟨b1, b2, b3⟩ => .gdD ⟨b2, by omega⟩ ?_
    have hlt : v5.2.toNat < v1.length := by omega
    refine Ret.bind (hp' (v1.getD v5.2.toNat default) (by rw [List.getD_eq_getElem?_getD, List.getElem?_eq_getElem hlt]; exact List.getElem_mem _)) fun v7 h7 => ?_
    exact .bif (fun hb => .pure ⟨b1.mk'.mono (by omega), h7 hb⟩) fun _ => .pure (b1.mk'.mono (by omega))
  · refine Ret.bind (P := fun v => Rd (k + 42) ⟨v.1, v.2.1⟩ ∧ goP v.2.2 = true) ?_ fun v ⟨a1, a2⟩ => ?_
    · exact (num_ret hs (by omega) _ (by simp)).bind fun v ⟨b1, b2⟩ => (threads_go (n := v.2) b1.mk' (by omega) (by simp only [List.mem_cons, List.not_mem_nil, or_false] at b2; omega)).mono fun u ⟨c1, c2⟩ => ⟨c1.mono (by omega), c2⟩
    · have hv : Ret (F_spec_ProgramValid v.2.2) fun _ => True := .gdD (goP_sz a2) (.pure trivial)
      refine hv.bind fun b _ => .bif (fun _ => .pure ⟨a1.mono (by omega), a2⟩) fun _ => ?_
      exact (l1Instr_go a1 (by omega)).bind fun u ⟨c1, c2⟩ => .pure ⟨c1.mk'.mono (by omega), goP_iff.2 ⟨by simp, by simp [c2]⟩⟩
end Go.Proofs.Ytjogdblionfmiaa
