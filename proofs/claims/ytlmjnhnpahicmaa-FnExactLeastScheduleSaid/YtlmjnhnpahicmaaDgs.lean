/-
 RunSchedule, of impl and of spec: both are there or neither. Plain theorems. No conditions.
-/
import Derived.Test.YtlmjnhnpahicmaaDgr
namespace Go.Proofs.Ytlmjnhnpahicmaa
open Go.RowKit
set_option maxRecDepth 100000
section
variable {p : List (List ZIn)} {u : ZVa} {z : ZSt}
theorem run2 (hp : PV p) {s : List Int} (hs : s.length <= 1048576) : ∀ (n i : Nat) (u : ZVa) (z : ZSt),i + n = s.length -> Rel p u z -> (∀ t : Nat,t < p.length -> z.at_.getD t default = ((s.take i).count (t : Int) : Int)) -> Good p s i ->
  (loopO (F_impl_follow__impl_seq_L5 s) ((i : Int),⟨u⟩) = some (.inr (none,false)) /\ loopO (F_spec_RunSchedule_L8 p s) (z.at_,z.regs,z.mem,z.buf,(i : Int)) = some (.inr ([],false)) /\ ¬ Good p s s.length) \/
  (∃ u' z',loopO (F_impl_follow__impl_seq_L5 s) ((i : Int),⟨u⟩) = some (.inl ⟨u'⟩) /\ loopO (F_spec_RunSchedule_L8 p s) (z.at_,z.regs,z.mem,z.buf,(i : Int)) = some (.inl (z'.at_,z'.regs,z'.mem,z'.buf)) /\ Rel p u' z' /\ Good p s s.length /\ ∀ t : Nat,t < p.length -> z'.at_.getD t default = (s.count (t : Int) : Int)) := by
 intro n
 induction n with
 | zero =>
  intro i u z hi h hc hg
  have e : i = s.length := by omega
  subst e
  refine .inr ⟨u,z,?_,?_,h,hg,by simpa using hc⟩
  ·rw [loopO_eq]
   unfold F_impl_follow__impl_seq_L5
   simp only [decide_eq_false (Int.lt_irrefl (s.length : Int))]
   rfl
  ·rw [loopO_eq]
   unfold F_spec_RunSchedule_L8
   simp only [decide_eq_false (Int.lt_irrefl (s.length : Int))]
   rfl
 | succ n ih =>
  intro i u z hi h hc hg
  have hi' : i < s.length := by omega
  obtain ⟨h1,h2⟩ := run_step hp hs hi' h
  by_cases hok : (0 <= s.getD i default /\ s.getD i default < (p.length : Int)) /\ z.at_.getD (s.getD i default).toNat default < ((p.getD (s.getD i default).toNat default).length : Int)
  ·obtain ⟨u',z',e1,e2,h',ha⟩ := h2 hok
   have hn : (s.getD i default).toNat < p.length := by omega
   have key := hc _ hn
   have em : (((s.getD i default).toNat : Nat) : Int) = s.getD i default := Int.toNat_of_nonneg hok.1.1
   rw [em] at key
   have := ih (i + 1) u' z' (by omega) h' (fun t ht => ?_) (fun j hj => ?_)
   ·rcases this with ⟨g1,g2,g5⟩ | ⟨u2,z2,g1,g2,g3,g4,g5⟩
    ·exact .inl ⟨by rw [loopO_eq,e1]; exact g1,by rw [loopO_eq,e2]; exact g2,g5⟩
    ·exact .inr ⟨u2,z2,by rw [loopO_eq,e1]; exact g1,by rw [loopO_eq,e2]; exact g2,g3,g4,g5⟩
   ·rw [ha,getD_set_eq (by rw [h.al]; exact hn),take_count hi',key]
    by_cases e : t = (s.getD i default).toNat
    ·have e' : s.getD i default = (t : Int) := by omega
     rw [if_pos e,if_pos e',e']
     omega
    ·have e' : ¬ s.getD i default = (t : Int) := by omega
     rw [if_neg e,if_neg e',hc t ht]
     rfl
   ·by_cases e : j = i
    ·subst e
     exact ⟨hok.1,by rw [key] at hok; omega⟩
    ·exact hg j (by omega)
  ·obtain ⟨e1,e2⟩ := h1 hok
   refine .inl ⟨by rw [loopO_eq,e1]; rfl,by rw [loopO_eq,e2]; rfl,fun hG => hok ?_⟩
   obtain ⟨q1,q2⟩ := hG i hi'
   refine ⟨q1,?_⟩
   have em : (((s.getD i default).toNat : Nat) : Int) = s.getD i default := Int.toNat_of_nonneg q1.1
   have key := hc (s.getD i default).toNat (by omega)
   rw [em] at key
   rw [key]
   omega
def Open (p : List (List ZIn)) (z : ZSt) : Prop := ∃ t : Nat,t < p.length /\ z.at_.getD t default < ((p.getD t default).length : Int)
theorem sdone_ret (hp : PV p) (h : Rel p u z) : Ret (F_spec_l3Done p z) fun d => d = true ↔ ¬ Open p z := by
 have hl := hp.vs.1
 unfold F_spec_l3Done
 refine Ret.sum (PS:=fun _ => ¬ Open p z) (PW:=fun d : Bool => d = true ↔ ¬ Open p z) ?_ fun _ hn => .pure ⟨fun _ => hn,fun _ => rfl⟩
 refine Ret.loop (fun i => 0 <= i /\ i <= (p.length : Int) /\ ∀ t : Nat,(t : Int) < i -> ¬ z.at_.getD t default < ((p.getD t default).length : Int)) (fun i => ((p.length : Int) - i).toNat) ⟨Int.le_refl _,by omega,fun t ht => absurd ht (by omega)⟩ fun i ⟨h1,h2,h3⟩ => ?_
 unfold F_spec_l3Done_L5
 refine .bifD (fun h0 => .gdD ⟨h1,by rw [h.al]; exact h0⟩ (.gdD ⟨h1,h0⟩ ?_)) fun hge => .pure ?_
 ·refine .bifD (fun he => .pure ⟨nofun,fun hn => absurd ⟨i.toNat,by omega,he⟩ hn⟩) fun he => .gdI (by omega) (.pure ⟨⟨by omega,by omega,fun t ht => ?_⟩,by omega⟩)
  by_cases e : t = i.toNat
  ·subst e; exact he
  ·exact h3 t (by omega)
 ·rintro ⟨t,ht,hlt⟩
  exact h3 t (by omega) hlt
theorem idone_ret (hp : PV p) (h : Rel p u z) : Ret (F_impl_seq_done ⟨u⟩) fun d => d = true ↔ ¬ Open p z := by
 have hl := hp.vs.1
 unfold F_impl_seq_done F_impl_values_allDone
 refine Ret.bind (P:=fun d : Bool => d = true ↔ ¬ Open p z) ?_ fun v hv => .pure hv
 refine Ret.sum (PS:=fun _ => ¬ Open p z) (PW:=fun d : Bool => d = true ↔ ¬ Open p z) ?_ fun _ hn => .pure ⟨fun _ => hn,fun _ => rfl⟩
 refine Ret.loop (fun i => 0 <= i /\ i <= (p.length : Int) /\ ∀ t : Nat,(t : Int) < i -> ¬ z.at_.getD t default < ((p.getD t default).length : Int)) (fun i => ((p.length : Int) - i).toNat) ⟨Int.le_refl _,by omega,fun t ht => absurd ht (by omega)⟩ fun i ⟨h1,h2,h3⟩ => ?_
 unfold F_impl_values_allDone_L5
 simp only [h.up]
 refine .bifD (fun h0 => (next_ret hp h ⟨h1,h0⟩).bind fun v ⟨e1,_⟩ => ?_) fun hge => .pure ?_
 ·refine .bif (fun hb => .pure ⟨nofun,fun hn => absurd ⟨i.toNat,by omega,of_decide_eq_true (e1.symm.trans hb)⟩ hn⟩) fun hb => .gdI (by omega) (.pure ⟨⟨by omega,by omega,fun t ht => ?_⟩,by omega⟩)
  ·by_cases e : t = i.toNat
   ·subst e
    rw [hb] at e1
    exact of_decide_eq_false e1.symm
   ·exact h3 t (by omega)
 ·rintro ⟨t,ht,hlt⟩
  exact h3 t (by omega) hlt
theorem rep_row (hp : p.length <= 3) (h : Rel p u z) {n : Nat} (hn : n < p.length) (base : List Int) (hb : base.length <= 1000) {step : (List Int × Int) -> Option ((List Int × Int) ⊕ List Int)} (hs : ∀ s : List Int × Int,step s = bif decide (s.2 < (3 : Int)) then
  gd (decide (0 <= s.2 /\ s.2 < 3)) <| gd (inK .i64 (Z3b.get (Z33.get u.reg (n : Int)) s.2)) <| gd (capOK (s.1.length + 1) 8) <| gd (inK .i64 (s.2 + (1 : Int))) <|
  some (.inl ((s.1 ++ [(Z3b.get (Z33.get u.reg (n : Int)) s.2)]),(s.2 + (1 : Int)))) else some (.inr s.1)) : Ret (loopO step (base,(0 : Int))) (· = base ++ (z.regs.drop (3 * n)).take 3) := by
 refine Ret.loop (fun s => ∃ k : Nat,k <= 3 /\ s = (base ++ (z.regs.drop (3 * n)).take k,(k : Int))) (fun s => (3 - s.2).toNat) ⟨0,by omega,by simp⟩ fun s ⟨k,h1,h2⟩ => ?_
 subst h2
 rw [hs]
 refine .bifD (fun hk => ?_) fun hk => .pure ?_
 ·simp only [] at hk
  have hv := h.regv hn (g:=k) (by omega)
  have hr := h.r n k hn (by omega)
  refine .gdD ⟨by simp only []; omega,hk⟩ (.gdI (by simp only []; omega) (.gd (capOK_le ?_ rfl) (.gdI (by simp only []; omega) (.pure ⟨⟨k + 1,by omega,?_⟩,by simp only []; omega⟩))))
  ·simp only [List.length_append,List.length_take,List.length_drop]; omega
  ·simp only []
   rw [<- hr,List.append_assoc]
   have hkl : 3 * n + k < z.regs.length := by rw [h.rl]; omega
   have hd : (z.regs.drop (3 * n)).take (k + 1) = (z.regs.drop (3 * n)).take k ++ [z.regs.getD (3 * n + k) default] := by
    rw [<- List.take_append_getElem (by rw [List.length_drop]; omega),List.getElem_drop,List.getD_eq_getElem?_getD,List.getElem?_eq_getElem hkl]
    rfl
   rw [hd]
   rfl
 ·simp only [] at hk
  have : k = 3 := by omega
  subst this
  rfl
theorem ioutcome_ret (hp : PV p) (h : Rel p u z) : Ret (F_impl_values_outcome u) (· = z.regs ++ z.mem) := by
 have hl := hp.vs.1
 unfold F_impl_values_outcome
 refine Ret.bind (P:=(· = z.regs)) ?_ fun v hv => ?_
 ·refine Ret.loop (fun s => ∃ n : Nat,n <= p.length /\ s = (z.regs.take (3 * n),(n : Int))) (fun s => ((p.length : Int) - s.2).toNat) ⟨0,by omega,by simp⟩ fun s ⟨n,h1,h2⟩ => ?_
  subst h2
  unfold F_impl_values_outcome_L8
  simp only [h.up]
  refine .bifD (fun hk => ?_) fun hk => .pure ?_
  ·refine Ret.bind (P:=(· = z.regs.take (3 * n) ++ (z.regs.drop (3 * n)).take 3)) (.gdD ⟨by omega,by omega⟩ (rep_row hl h (n:=n) (by omega) _ (by rw [List.length_take]; omega) fun s => by unfold F_impl_values_outcome_L21; rfl)) fun v hv => .gdI (by omega) (.pure ⟨⟨n + 1,by omega,?_⟩,by simp only []; omega⟩)
   subst hv
   rw [show 3 * (n + 1) = 3 * n + 3 by omega,List.take_add]
   rfl
  ·have : n = p.length := by omega
   subst this
   exact List.take_of_length_le (by rw [h.rl]; exact Nat.le_refl _)
 ·subst hv
  refine Ret.bind (P:=(· = z.regs ++ z.mem)) ?_ fun v hv => .pure hv
  refine Ret.loop (fun s => ∃ k : Nat,k <= 3 /\ s = (z.regs ++ z.mem.take k,(k : Int))) (fun s => (3 - s.2).toNat) ⟨0,by omega,by simp⟩ fun s ⟨k,h1,h2⟩ => ?_
  subst h2
  unfold F_impl_values_outcome_L44
  have hrl := h.rl
  have hml := h.ml
  refine .bifD (fun hk => ?_) fun hk => .pure ?_
  ·simp only [] at hk
   have hv := h.memv (l:=k) (by omega)
   have hm := h.m k (by omega)
   refine .gdD ⟨by simp only []; omega,hk⟩ (.gdI (by simp only []; omega) (.gd (capOK_le (by simp only [List.length_append,List.length_take]; omega) rfl) (.gdI (by simp only []; omega) (.pure ⟨⟨k + 1,by omega,?_⟩,by simp only []; omega⟩))))
   simp only []
   rw [<- hm,List.append_assoc]
   have hd : z.mem.take (k + 1) = z.mem.take k ++ [z.mem.getD k default] := by
    rw [<- List.take_append_getElem (by omega),List.getD_eq_getElem?_getD,List.getElem?_eq_getElem (by omega)]
    rfl
   rw [hd]
   rfl
  ·simp only [] at hk
   have : k = 3 := by omega
   subst this
   simp only []
   rw [List.take_of_length_le (by omega)]
theorem soutcome_ret (hp : PV p) (h : Rel p u z) : Ret (F_spec_l3Outcome z) (· = z.regs ++ z.mem) := by
 have hl := hp.vs.1
 have hrl := h.rl
 have hml := h.ml
 unfold F_spec_l3Outcome
 exact .gd (capOK_le (by simp; omega) rfl) (.gd (capOK_le (by simp; omega) rfl) (.pure rfl))
def u0 (p : List (List ZIn)) : ZVa := ⟨p,⟨0,0,0⟩,⟨⟨0,0,0⟩,⟨0,0,0⟩,⟨0,0,0⟩⟩,⟨0,0,0⟩⟩
theorem iR_bad {s : List Int} (hI : F_impl_ProgramValid p = some true) (g1 : loopO (F_impl_follow__impl_seq_L5 s) ((0 : Int),⟨u0 p⟩) = some (.inr (none,false))) : Ret (F_impl_RunSchedule p s) (· = ([],false)) := by
 unfold F_impl_RunSchedule
 refine (Ret.of (P:=(· = true)) hI rfl).bind fun v hv => .bif (fun h => by subst hv; simp at h) fun _ => ?_
 refine Ret.bind (P:=(· = ⟨u0 p⟩)) (.pure rfl) fun v3 h3 => ?_
 subst h3
 refine Ret.bind (P:=(· = ([],false))) ?_ fun v hv => .pure (by rw [hv])
 unfold F_impl_finished__impl_seq
 refine Ret.bind (P:=(· = (none,false))) (by unfold F_impl_follow__impl_seq; exact .sumR (.of g1 rfl)) fun v hv => ?_
 subst hv
 exact Ret.bind (P:=(· = true)) (.bif (fun _ => .pure rfl) fun h => by simp at h) fun b hb => .bif (fun _ => .pure rfl) fun h => by subst hb; cases h
theorem iR_good {s : List Int} {u' : ZVa} {d : Bool} {o : List Int} (hI : F_impl_ProgramValid p = some true) (g1 : loopO (F_impl_follow__impl_seq_L5 s) ((0 : Int),⟨u0 p⟩) = some (.inl ⟨u'⟩)) (hd : F_impl_seq_done ⟨u'⟩ = some d) (ho : F_impl_values_outcome u' = some o) :
  Ret (F_impl_RunSchedule p s) (· = bif d then (o,true) else ([],false)) := by
 unfold F_impl_RunSchedule
 refine (Ret.of (P:=(· = true)) hI rfl).bind fun v hv => .bif (fun h => by subst hv; simp at h) fun _ => ?_
 refine Ret.bind (P:=(· = ⟨u0 p⟩)) (.pure rfl) fun v3 h3 => ?_
 subst h3
 refine Ret.bind (P:=(· = bif d then (o,true) else ([],false))) ?_ fun v hv => .pure (by rw [hv])
 unfold F_impl_finished__impl_seq
 refine Ret.bind (P:=(· = (some ⟨u'⟩,true))) (by unfold F_impl_follow__impl_seq; exact .sumL (.of g1 rfl) (.pure rfl)) fun v hv => ?_
 subst hv
 refine Ret.bind (P:=(· = !d)) (.bif (fun h => by simp at h) fun _ => .gd rfl ((Ret.of (P:=(· = d)) hd rfl).bind fun v hv => .pure (by rw [hv]))) fun b hb => ?_
 subst hb
 cases d with
 | true => exact .gd rfl ((Ret.of (P:=(· = o)) ho rfl).bind fun v hv => .pure (by rw [hv]; rfl))
 | false => exact .pure rfl
theorem sR_bad {s : List Int} {z0 : ZSt} (hI : F_spec_ProgramValid p = some true) (h0 : F_spec_l3Start p 0 = some z0) (g1 : loopO (F_spec_RunSchedule_L8 p s) (z0.at_,z0.regs,z0.mem,z0.buf,(0 : Int)) = some (.inr ([],false))) : Ret (F_spec_RunSchedule p s) (· = ([],false)) := by
 unfold F_spec_RunSchedule
 refine (Ret.of (P:=(· = true)) hI rfl).bind fun v hv => .bif (fun h => by subst hv; simp at h) fun _ => ?_
 refine (Ret.of (P:=(· = z0)) h0 rfl).bind fun v3 h3 => ?_
 subst h3
 exact .sumR (.of g1 rfl)
theorem sR_good {s : List Int} {z0 z' : ZSt} {d : Bool} {o : List Int} (hI : F_spec_ProgramValid p = some true) (h0 : F_spec_l3Start p 0 = some z0) (g1 : loopO (F_spec_RunSchedule_L8 p s) (z0.at_,z0.regs,z0.mem,z0.buf,(0 : Int)) = some (.inl (z'.at_,z'.regs,z'.mem,z'.buf))) (hd : F_spec_l3Done p z' = some d) (ho : F_spec_l3Outcome z' = some o) :
  Ret (F_spec_RunSchedule p s) (· = bif d then (o,true) else ([],false)) := by
 unfold F_spec_RunSchedule
 refine (Ret.of (P:=(· = true)) hI rfl).bind fun v hv => .bif (fun h => by subst hv; simp at h) fun _ => ?_
 refine (Ret.of (P:=(· = z0)) h0 rfl).bind fun v3 h3 => ?_
 subst h3
 refine .sumL (.of g1 rfl) ((Ret.of (P:=(· = d)) hd rfl).bind fun b hb => ?_)
 subst hb
 cases b with
 | true => exact (Ret.of (P:=(· = o)) ho rfl).bind fun v hv => .pure (by rw [hv]; rfl)
 | false => exact .pure rfl
def Whole (p : List (List ZIn)) (s : List Int) : Prop := validB (p.map fun r => r.map toIns) = true /\ Good p s s.length /\ ∀ t : Nat,t < p.length -> s.count (t : Int) = (p.getD t default).length
theorem irun_ret (p : List (List ZIn)) {s : List Int} (hsz : p.length <= 1048576 /\ total p <= 1048576) (hs : s.length <= 1048576) :
  ∃ o b,F_impl_RunSchedule p s = some (o,b) /\ F_spec_RunSchedule p s = some (o,b) /\ (b = true ↔ Whole p s) := by
 have hI : F_impl_ProgramValid p = some (validB (p.map fun r => r.map toIns)) := gd_true (decide_eq_true hsz)
 have hS : F_spec_ProgramValid p = some (validB (p.map fun r => r.map toIns)) := gd_true (decide_eq_true hsz)
 cases hv : validB (p.map fun r => r.map toIns) with
 | false =>
  unfold F_impl_RunSchedule F_spec_RunSchedule
  rw [hI,hS,hv]
  exact ⟨[],false,rfl,rfl,nofun,fun h => by have := h.1; rw [hv] at this; cases this⟩
 | true =>
  rw [hv] at hI hS
  have hp := PV.of hv
  obtain ⟨z0,e0,h0⟩ := start_ret hp
  have hr := run2 hp hs s.length 0 _ z0 (by omega) h0 (fun t ht => by
   rw [h0.a t ht]
   simp only [Z3b.get,List.take_zero,List.count_nil]
   split <;> (try split) <;> rfl) (fun j hj => absurd hj (by omega))
  rcases hr with ⟨g1,g2,g5⟩ | ⟨u',z',g1,g2,g3,g4,g5⟩
  ·exact ⟨[],false,(iR_bad hI g1).eq,(sR_bad hS e0 g2).eq,nofun,fun h => absurd h.2.1 g5⟩
  ·obtain ⟨d,d1,d2⟩ := sdone_ret hp g3
   obtain ⟨d',d1',d2'⟩ := idone_ret hp g3
   have ed : d' = d := Bool.eq_iff_iff.2 (d2'.trans d2.symm)
   subst ed
   have k1 := (iR_good hI g1 d1' (ioutcome_ret hp g3).eq).eq
   have k2 := (sR_good hS e0 g2 d1 (soutcome_ret hp g3).eq).eq
   have hw : d' = true ↔ Whole p s := by
    rw [d2]
    refine ⟨fun h => ⟨hv,g4,fun t ht => ?_⟩,fun h ⟨t,ht,hlt⟩ => ?_⟩
    ·have h1 := (g3.al1 t ht).2
     have h2 := g5 t ht
     have h3 : ¬ z'.at_.getD t default < ((p.getD t default).length : Int) := fun hlt => h ⟨t,ht,hlt⟩
     omega
    ·have h2 := g5 t ht
     have h3 := h.2.2 t ht
     omega
   cases d' with
   | true => exact ⟨_,true,k1,k2,hw⟩
   | false => exact ⟨[],false,k1,k2,hw⟩
end
end Go.Proofs.Ytlmjnhnpahicmaa
