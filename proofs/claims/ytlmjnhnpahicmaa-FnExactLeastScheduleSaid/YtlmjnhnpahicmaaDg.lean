/-
 Events of impl and of spec, and instructions that are valid. Plain theorems. No conditions.
-/
import Derived.Test.YtlmjnhnpahicmaaS26d
import Derived.Test.YtlmjnhnpahicmaaHo
namespace Go.Proofs.Ytlmjnhnpahicmaa
open Go.RowKit
set_option maxRecDepth 100000
def rdX (x : ZIn) : Bool := x.Op == 1 || x.Op == 5
def wrX (x : ZIn) : Bool := x.Op == 2 || x.Op == 3 || x.Op == 5
def evI (t k : Nat) (x : ZIn) : List ZEv := if x.Op = 4 then [] else [⟨t,k,x.Loc,rdX x,wrX x⟩]
def evR (t : Nat) (row : List ZIn) : Nat -> List ZEv
 | 0 => []
 | n + 1 => evR t row n ++ evI t n (row.getD n default)
def ev0 : List ZEv := [⟨-1,0,0,false,true⟩,⟨-1,1,1,false,true⟩,⟨-1,2,2,false,true⟩]
def evP (p : List (List ZIn)) : Nat -> List ZEv
 | 0 => ev0
 | n + 1 => evP p n ++ evR n (p.getD n default) (p.getD n default).length
def evs (p : List (List ZIn)) : List ZEv := evP p p.length
theorem evI_len (t k : Nat) (x : ZIn) : (evI t k x).length <= 1 := by unfold evI; split <;> simp
theorem evR_len (t : Nat) (row : List ZIn) (n : Nat) : (evR t row n).length <= n := by
 induction n with
 | zero => exact Nat.le_refl _
 | succ n ih =>
  have := evI_len t n (row.getD n default)
  simp only [evR,List.length_append]
  omega
def Vs (p : List (List ZIn)) : Prop := p.length <= 3 /\ ∀ n,(p.getD n default).length <= 7
theorem evP_len {p : List (List ZIn)} (h : Vs p) (n : Nat) : (evP p n).length <= 3 + 7 * n := by
 induction n with
 | zero => exact Nat.le_refl _
 | succ n ih =>
  have h1 := evR_len n (p.getD n default) (p.getD n default).length
  have h2 := h.2 n
  simp only [evP,List.length_append]
  omega
theorem ireads (x : ZIn) : Ret (F_impl_Instr_reads x) (· = rdX x) := by
 unfold F_impl_Instr_reads rdX
 exact Ret.bind (P:=(· = (x.Op == 1 || x.Op == 5))) (.bif (fun h => .pure (by rw [h]; rfl)) fun h => .pure (by rw [h]; rfl)) fun v hv => .pure hv
theorem iwrites (x : ZIn) : Ret (F_impl_Instr_writes x) (· = wrX x) := by
 unfold F_impl_Instr_writes wrX
 exact Ret.bind (P:=(· = (x.Op == 2 || x.Op == 3))) (.bif (fun h => .pure (by rw [h]; rfl)) fun h => .pure (by rw [h]; rfl)) fun v hv => Ret.bind (P:=(· = (x.Op == 2 || x.Op == 3 || x.Op == 5))) (.bif (fun h => .pure (by rw [<- hv,h]; rfl)) fun h => .pure (by rw [<- hv,h]; rfl)) fun v hv => .pure hv
theorem sreads (x : ZIn) : Ret (F_spec_l1Reads x) (· = rdX x) := by
 unfold F_spec_l1Reads rdX
 exact Ret.bind (P:=(· = (x.Op == 1 || x.Op == 5))) (.bif (fun h => .pure (by rw [h]; rfl)) fun h => .pure (by rw [h]; rfl)) fun v hv => .pure hv
theorem swrites (x : ZIn) : Ret (F_spec_l1Writes x) (· = wrX x) := by
 unfold F_spec_l1Writes wrX
 exact Ret.bind (P:=(· = (x.Op == 2 || x.Op == 3))) (.bif (fun h => .pure (by rw [h]; rfl)) fun h => .pure (by rw [h]; rfl)) fun v hv => Ret.bind (P:=(· = (x.Op == 2 || x.Op == 3 || x.Op == 5))) (.bif (fun h => .pure (by rw [<- hv,h]; rfl)) fun h => .pure (by rw [<- hv,h]; rfl)) fun v hv => .pure hv
theorem ievents {p : List (List ZIn)} (hp : Vs p) : Ret (F_impl_events p) (· = evs p) := by
 have hpl := hp.1
 unfold F_impl_events
 refine Ret.bind (P:=(· = ev0)) ?_ fun l hl => Ret.bind (P:=(· = evs p)) ?_ fun v hv => .pure hv
 ·refine Ret.loop (fun s => ∃ n : Nat,n <= 3 /\ s = (ev0.take n,(n : Int))) (fun s => (3 - s.2).toNat) ⟨0,by omega,rfl⟩ fun s ⟨n,h1,h2⟩ => ?_
  subst h2
  unfold F_impl_events_L8
  refine .bifD (fun h => ?_) fun h => .pure ?_
  ·match n,h1,h with
   | 0,_,_ => exact .gdC (by decide) rfl (.gdI (by decide) (.pure ⟨⟨1,by omega,rfl⟩,by decide⟩))
   | 1,_,_ => exact .gdC (by decide) rfl (.gdI (by decide) (.pure ⟨⟨2,by omega,rfl⟩,by decide⟩))
   | 2,_,_ => exact .gdC (by decide) rfl (.gdI (by decide) (.pure ⟨⟨3,by omega,rfl⟩,by decide⟩))
   | 3,_,h => exact absurd h (by decide)
  ·have : n = 3 := by simp only [] at h; omega
   subst this
   rfl
 ·subst hl
  refine Ret.loop (fun s => ∃ n : Nat,n <= p.length /\ s = (evP p n,(n : Int))) (fun s => ((p.length : Int) - s.2).toNat) ⟨0,by omega,rfl⟩ fun s ⟨n,h1,h2⟩ => ?_
  subst h2
  unfold F_impl_events_L25
  refine .bifD (fun h => ?_) fun h => .pure ?_
  ·have hlen := evP_len hp n
   have hrow := hp.2 n
   simp only [] at h
   refine Ret.bind (P:=(· = evP p (n + 1))) (.gdD ⟨by simp only []; omega,h⟩ ?_) fun v hv => .gdI (by simp only []; omega) (.pure ⟨⟨n + 1,by omega,by rw [hv]; rfl⟩,by simp only []; omega⟩)
   refine Ret.loop (fun t => ∃ k : Nat,k <= (p.getD n default).length /\ t = (evP p n ++ evR n (p.getD n default) k,(k : Int))) (fun t => (((p.getD n default).length : Int) - t.2).toNat) ⟨0,by omega,by simp [evR]⟩ fun t ⟨k,k1,k2⟩ => ?_
   subst k2
   unfold F_impl_events_L38
   simp only [Int.toNat_natCast]
   refine .bifD (fun hk => ?_) fun hk => .pure ?_
   ·have hl2 := evR_len n (p.getD n default) k
    refine Ret.bind (P:=(· = evP p n ++ evR n (p.getD n default) (k + 1))) (.gdD ⟨by omega,hk⟩ ?_) fun v hv => .gdI (by omega) (.pure ⟨⟨k + 1,by omega,by rw [hv]; rfl⟩,by simp only []; omega⟩)
    refine .bif (fun ho => ?_) fun ho => .pure ?_
    ·refine (ireads _).bind fun a ha => (iwrites _).bind fun b hb => .gdC (by simp only [List.length_append]; omega) rfl (.pure ?_)
     have h4 : ¬ ((p.getD n default).getD k default).Op = 4 := by simpa using ho
     subst ha hb
     simp only [evR,evI,if_neg h4,List.append_assoc]
    ·have h4 : ((p.getD n default).getD k default).Op = 4 := by simpa using ho
     simp only [evR,evI,if_pos h4,List.append_nil]
   ·have : k = (p.getD n default).length := by omega
    subst this
    rfl
  ·have : n = p.length := by simp only [] at h; omega
   subst this
   rfl
theorem sevents {p : List (List ZIn)} (hp : Vs p) : Ret (F_spec_l6Events p) (· = evs p) := by
 have hpl := hp.1
 unfold F_spec_l6Events
 refine Ret.bind (P:=(· = ev0)) ?_ fun l hl => Ret.bind (P:=(· = evs p)) ?_ fun v hv => .pure hv
 ·refine Ret.loop (fun s => ∃ n : Nat,n <= 3 /\ s = (ev0.take n,(n : Int))) (fun s => (3 - s.2).toNat) ⟨0,by omega,rfl⟩ fun s ⟨n,h1,h2⟩ => ?_
  subst h2
  unfold F_spec_l6Events_L6
  refine .bifD (fun h => ?_) fun h => .pure ?_
  ·match n,h1,h with
   | 0,_,_ => exact .gdC (by decide) rfl (.gdI (by decide) (.pure ⟨⟨1,by omega,rfl⟩,by decide⟩))
   | 1,_,_ => exact .gdC (by decide) rfl (.gdI (by decide) (.pure ⟨⟨2,by omega,rfl⟩,by decide⟩))
   | 2,_,_ => exact .gdC (by decide) rfl (.gdI (by decide) (.pure ⟨⟨3,by omega,rfl⟩,by decide⟩))
   | 3,_,h => exact absurd h (by decide)
  ·have : n = 3 := by simp only [] at h; omega
   subst this
   rfl
 ·subst hl
  refine Ret.loop (fun s => ∃ n : Nat,n <= p.length /\ s = (evP p n,(n : Int))) (fun s => ((p.length : Int) - s.2).toNat) ⟨0,by omega,rfl⟩ fun s ⟨n,h1,h2⟩ => ?_
  subst h2
  unfold F_spec_l6Events_L17
  refine .bifD (fun h => ?_) fun h => .pure ?_
  ·have hlen := evP_len hp n
   have hrow := hp.2 n
   simp only [] at h
   refine Ret.bind (P:=(· = evP p (n + 1))) ?_ fun v hv => .gdI (by simp only []; omega) (.pure ⟨⟨n + 1,by omega,by rw [hv]; rfl⟩,by simp only []; omega⟩)
   refine Ret.loop (fun t => ∃ k : Nat,k <= (p.getD n default).length /\ t = (evP p n ++ evR n (p.getD n default) k,(k : Int))) (fun t => (((p.getD n default).length : Int) - t.2).toNat) ⟨0,by omega,by simp [evR]⟩ fun t ⟨k,k1,k2⟩ => ?_
   subst k2
   unfold F_spec_l6Events_L25
   simp only [Int.toNat_natCast]
   refine .gdD ⟨by omega,h⟩ (.bifD (fun hk => ?_) fun hk => .pure ?_)
   ·have hl2 := evR_len n (p.getD n default) k
    refine Ret.bind (P:=(· = evP p n ++ evR n (p.getD n default) (k + 1))) (.gdD ⟨by omega,hk⟩ ?_) fun v hv => .gdI (by omega) (.pure ⟨⟨k + 1,by omega,by rw [hv]; rfl⟩,by simp only []; omega⟩)
    refine .bif (fun ho => ?_) fun ho => .pure ?_
    ·refine (sreads _).bind fun a ha => (swrites _).bind fun b hb => .gdC (by simp only [List.length_append]; omega) rfl (.pure ?_)
     have h4 : ¬ ((p.getD n default).getD k default).Op = 4 := by simpa using ho
     subst ha hb
     simp only [evR,evI,if_neg h4,List.append_assoc]
    ·have h4 : ((p.getD n default).getD k default).Op = 4 := by simpa using ho
     simp only [evR,evI,if_pos h4,List.append_nil]
   ·have : k = (p.getD n default).length := by omega
    subst this
    rfl
  ·have : n = p.length := by simp only [] at h; omega
   subst this
   rfl
theorem evR_mem {t : Nat} {row : List ZIn} {n : Nat} {e : ZEv} (h : e ∈ evR t row n) : ∃ k : Nat,k < n /\ e.Thread = t /\ e.Index = k := by
 induction n with
 | zero => simp [evR] at h
 | succ n ih =>
  simp only [evR,List.mem_append] at h
  rcases h with h | h
  ·obtain ⟨k,h1,h2⟩ := ih h
   exact ⟨k,by omega,h2⟩
  ·unfold evI at h
   split at h
   ·simp at h
   ·rw [List.mem_singleton] at h
    subst h
    exact ⟨n,by omega,rfl,rfl⟩
theorem Vs.of {p : List (List ZIn)} (h : validB (p.map fun r => r.map toIns) = true) : Vs p /\ ∀ t k : Nat,t < p.length -> k < (p.getD t default).length -> insOk (toIns ((p.getD t default).getD k default)) = true := by
 simp only [validB,shapeB,Bool.and_eq_true,decide_eq_true_eq,List.all_eq_true,rowOk] at h
 have hl : p.length <= 3 := by simpa using h.1.1.1.1
 have hr := h.1.1.1.2
 refine ⟨⟨hl,fun n => ?_⟩,fun t k ht hk => ?_⟩
 ·by_cases hn : n < p.length
  ·have e : p.getD n default = p[n] := by simp [hn]
   rw [e]
   have := (hr (p[n].map toIns) (List.mem_map.2 ⟨p[n],List.getElem_mem hn,rfl⟩)).1
   simpa using this
  ·rw [List.getD_eq_getElem?_getD,List.getElem?_eq_none (by omega)]
   exact Nat.zero_le _
 ·have e : p.getD t default = p[t] := by simp [ht]
  rw [e] at hk ⊢
  have h1 := (hr (p[t].map toIns) (List.mem_map.2 ⟨p[t],List.getElem_mem ht,rfl⟩)).2
  have e2 : p[t].getD k default = p[t][k] := by simp [hk]
  rw [e2]
  exact h1 _ (List.mem_map.2 ⟨_,List.getElem_mem hk,rfl⟩)
def InR (x : ZIn) : Prop := 0 <= x.Loc /\ x.Loc <= 2 /\ 0 <= x.Reg /\ x.Reg <= 2 /\ 0 <= x.Val /\ x.Val <= 3
theorem insOk_fld {x : ZIn} (h : insOk (toIns x) = true) : InR x := by
 obtain ⟨o,l,r,v⟩ := x
 unfold InR
 simp only
 unfold insOk toIns at h
 simp only [inB] at h
 split at h
 ·simp only [Bool.and_eq_true,decide_eq_true_eq,beq_iff_eq] at h; omega
 ·split at h
  ·simp only [Bool.and_eq_true,decide_eq_true_eq,beq_iff_eq] at h; omega
  ·split at h
   ·simp only [Bool.and_eq_true,decide_eq_true_eq,beq_iff_eq] at h; omega
   ·split at h
    ·simp only [Bool.and_eq_true,decide_eq_true_eq] at h; omega
    ·cases h
structure PV (p : List (List ZIn)) : Prop where
 vs : Vs p
 pos : 0 < p.length
 ins : ∀ t k : Nat,t < p.length -> k < (p.getD t default).length -> InR ((p.getD t default).getD k default)
theorem PV.of {p : List (List ZIn)} (h : validB (p.map fun r => r.map toIns) = true) : PV p := by
 have h1 := Vs.of h
 refine ⟨h1.1,?_,fun t k ht hk => insOk_fld (h1.2 t k ht hk)⟩
 simp only [validB,Bool.and_eq_true,decide_eq_true_eq,List.length_map] at h
 exact h.1.2
theorem capOK_le {n m : Nat} (hn : n <= 4000000) (hm : Nat.ble m 1000 = true) : capOK n m = true := by
 have h1 := Nat.le_of_ble_eq_true hm
 have h2 : n * m <= 4000000 * 1000 := Nat.mul_le_mul hn h1
 exact decide_eq_true ⟨by omega,by omega⟩
end Go.Proofs.Ytlmjnhnpahicmaa
