/-
 The first schedule of a candidate, as spec finds it. Plain theorems. No conditions.
-/
import Derived.Test.YtlmjnhnpahicmaaDt3
namespace Go.Proofs.Ytlmjnhnpahicmaa
open Go.RowKit
set_option maxRecDepth 100000
section
variable {p : List (List ZIn)} {x : XS} {F : List Int}
def wrs (p : List (List ZIn)) (l : Int) : List Int := ((List.range (evs p).length).map fun (i : Nat) => (i : Int)).filter (Wl p l)
theorem rng_mem (n : Int) : n ∈ (List.range (evs p).length).map (fun (i : Nat) => (i : Int)) ↔ 0 <= n /\ n < ((evs p).length : Int) := by
 rw [List.mem_map]
 constructor
 ·rintro ⟨a,h1,rfl⟩
  have := List.mem_range.1 h1
  omega
 ·rintro ⟨h1,h2⟩
  exact ⟨n.toNat,List.mem_range.2 (by omega),by omega⟩
theorem rng_nd : ((List.range (evs p).length).map (fun (i : Nat) => (i : Int))).Nodup := List.pairwise_map.2 (List.nodup_range.imp fun h e => h (by omega))
theorem wrs_mem (R : RunOf p x F) {l : Int} (hl : 0 <= l /\ l <= 2) (n : Int) : n ∈ wrs p l ↔ n ∈ od x l := by
 rw [(R.od l hl).2]
 unfold wrs
 rw [List.mem_filter,List.mem_filter,rng_mem,R.mem]
theorem wrs_head {l : Nat} (hl : l < 3) : ∃ t,wrs p (l : Int) = (l : Int) :: t := by
 have h3 : 3 <= (evs p).length := (evP_pre p (Nat.zero_le p.length)).length_le
 refine ⟨((List.range' 3 ((evs p).length - 3)).map fun (i : Nat) => (i : Int)).filter (Wl p (l : Int)),?_⟩
 have e : List.range (evs p).length = [0,1,2] ++ List.range' 3 ((evs p).length - 3) := by
  rw [List.range_eq_range',show [0,1,2] = List.range' 0 3 from rfl]
  have := List.range'_append (s:=0) (m:=3) (n:=(evs p).length - 3) (step:=1)
  rw [show 3 + ((evs p).length - 3) = (evs p).length by omega] at this
  exact this.symm
 unfold wrs
 rw [e,List.map_append,List.filter_append]
 have := W3 (p:=p) l hl
 rw [show (([0,1,2] : List Nat).map fun (i : Nat) => (i : Int)) = ([0,1,2] : List Int) from rfl,this]
 rfl
theorem od_head (R : RunOf p x F) {l : Nat} (hl : l < 3) : ∃ t,od x (l : Int) = (l : Int) :: t := by
 obtain ⟨o,ho⟩ := R.ini
 refine ⟨o.filter (Wl p (l : Int)),?_⟩
 rw [(R.od (l : Int) (by omega)).2,ho,List.filter_append,W3 l hl]
 rfl
theorem order_ok (hp : PV p) (R : RunOf p x F) {l : Nat} (hl : l < 3) : Ret (F_spec_l6Order (od x (l : Int)) (wrs p (l : Int))) (· = true) := by
 have O := (R.od (l : Int) (by omega)).1
 have hnd : (wrs p (l : Int)).Nodup := List.Pairwise.filter _ rng_nd
 have hlen : (od x (l : Int)).length = (wrs p (l : Int)).length := by
  have h1 := List.Nodup.length_le_of_subset (l₂:=wrs p (l : Int)) O.nd fun n hn => (wrs_mem R (by omega) n).2 hn
  have h2 := List.Nodup.length_le_of_subset (l₂:=od x (l : Int)) hnd fun n hn => (wrs_mem R (by omega) n).1 hn
  omega
 have hle : (od x (l : Int)).length <= 4000000 := (exok hp R).r l
 obtain ⟨t1,e1⟩ := wrs_head (p:=p) hl
 obtain ⟨t2,e2⟩ := od_head R hl
 have g1 : (od x (l : Int)).getD (0 : Int).toNat default = (l : Int) := by rw [e2]; rfl
 have g2 : (wrs p (l : Int)).getD (0 : Int).toNat default = (l : Int) := by rw [e1]; rfl
 have p1 : 0 < (od x (l : Int)).length := by rw [e2]; simp
 unfold F_spec_l6Order
 refine Ret.sum (PS:=fun _ => True) (PW:=(· = true)) (Ret.bind (P:=(· = false)) (.bif (fun h => ?_) fun _ => .gdD ⟨by omega,by omega⟩ (.gdD ⟨by omega,by omega⟩ (.pure (by rw [g1,g2]; simp)))) fun v hv => by subst hv; exact .pure trivial) fun _ _ => ?_
 ·rw [hlen] at h
  simp at h
 ·refine Ret.sum (PS:=fun _ => True) (PW:=(· = true)) ?_ fun _ _ => .pure rfl
  refine Ret.loop (fun z => ∃ i : Nat,i <= (wrs p (l : Int)).length /\ z = (i : Int)) (fun z => (((wrs p (l : Int)).length : Int) - z).toNat) ⟨0,by omega,rfl⟩ fun z ⟨i,h1,h2⟩ => ?_
  subst h2
  unfold F_spec_l6Order_L11
  simp only [Int.toNat_natCast]
  refine .bifD (fun hk => .gdD ⟨by omega,hk⟩ ((place_ret hle _).bind fun v hv => ?_)) fun _ => .pure trivial
  have hm : (wrs p (l : Int)).getD i default ∈ od x (l : Int) := (wrs_mem R (by omega) _).1 (getD_memI (by omega))
  have hv0 : 0 <= v := by rw [hv,plc_mem hm]; omega
  exact .bifD (fun h => by omega) fun _ => .gdI (by omega) (.pure ⟨⟨i + 1,by omega,rfl⟩,by omega⟩)
theorem valid_ret (hp : PV p) (hv : validB (p.map fun r => r.map toIns) = true) (hsz : p.length <= 1048576 /\ total p <= 1048576) (R : RunOf p x F) : Ret (F_spec_ExecValid p ⟨x.1,x.2⟩) (· = true) := by
 have hel := evs_len hp.vs
 have hX := exok hp R
 have hS : F_spec_ProgramValid p = some (validB (p.map fun r => r.map toIns)) := gd_true (decide_eq_true hsz)
 unfold F_spec_ExecValid
 refine (Ret.of (P:=(· = true)) hS hv).bind fun v1 h1 => ?_
 subst h1
 refine .bif (fun h => by cases h) fun _ => (sevents hp.vs).bind fun v3 h3 => ?_
 subst h3
 refine Ret.bind (P:=(· = false)) (.bif (fun h => by simp only [hX.f] at h; simp at h) fun _ => .pure (by simp only [hX.o]; rfl)) fun v4 h4 => ?_
 subst h4
 refine .bif (fun h => by cases h) fun _ => ?_
 refine Ret.sum (PS:=fun _ => True) (PW:=(· = true)) ?_ fun _ _ => Ret.sum (PS:=fun _ => True) (PW:=(· = true)) ?_ fun _ _ => .pure rfl
 ·refine Ret.loop (fun z => ∃ n : Nat,n <= (evs p).length /\ z = (n : Int)) (fun z => (((evs p).length : Int) - z).toNat) ⟨0,by omega,rfl⟩ fun z ⟨n,n1,n2⟩ => ?_
  subst n2
  unfold F_spec_ExecValid_L11
  have en : (evs p).getD n default = ev p (n : Int) := by unfold ev; rw [Int.toNat_natCast]
  simp only [Int.toNat_natCast,en]
  refine .bifD (fun hk => ?_) fun _ => .pure trivial
  have hnF : (n : Int) ∈ F := (R.mem _).2 ⟨by omega,hk⟩
  have hl := ev_loc hp (n:=(n : Int)) (by omega) hk
  refine Ret.sum (PS:=fun _ => True) ?_ fun _ _ => .gdI (by omega) (.pure ⟨⟨n + 1,by omega,rfl⟩,by omega⟩)
  refine Ret.sum (PS:=fun _ => True) ?_ fun _ _ => ?_
  ·refine Ret.bind (P:=(· = false)) (.gdD ⟨by omega,hk⟩ (.bif (fun hr => (writers_ret hp _).bind fun v18 h18 => .gdD ⟨by omega,by rw [hX.f]; exact hk⟩ ((place_ret (by
     subst h18
     have := List.length_filter_le (Wl p (ev p (n : Int)).Loc) ((List.range (evs p).length).map fun (i : Nat) => (i : Int))
     simp only [List.length_map,List.length_range] at this
     omega) _).bind fun v20 h20 => .pure ?_)) fun _ => .pure rfl)) fun v hv => by subst hv; exact .pure trivial
   subst h18
   obtain ⟨c,c1,c2,_⟩ := R.rd hp hnF hr
   rw [Int.toNat_natCast] at c2
   have hm : x.1.getD n default ∈ wrs p (ev p (n : Int)).Loc := (wrs_mem R hl _).2 (by rw [c2]; exact getD_memI c1)
   have hm2 : x.1.getD n default ∈ ((List.range (evs p).length).map fun (i : Nat) => (i : Int)).filter (Wl p (ev p (n : Int)).Loc) := hm
   rw [h20,plc_mem hm2]
   exact decide_eq_false (by omega)
  ·refine .gdD ⟨by omega,hk⟩ (Ret.bind (P:=(· = false)) (.bif (fun hr => .gdD ⟨by omega,by rw [hX.f]; exact hk⟩ (.pure ?_)) fun _ => .pure rfl) fun v23 h23 => ?_)
   ·have := R.frN (n : Int) hnF (by simpa using hr)
    rw [Int.toNat_natCast] at this
    rw [this]
    rfl
   subst h23
   refine Ret.bind (P:=(· = false)) (.bif (fun h => by cases h) fun _ => .gdD ⟨by omega,by rw [hX.f]; exact hk⟩ (.pure ?_)) fun v26 h26 => by subst h26; exact .pure trivial
   cases hr : (ev p (n : Int)).Reads with
   | false =>
    have := R.frN (n : Int) hnF hr
    rw [Int.toNat_natCast] at this
    rw [this]
    exact beq_eq_false_iff_ne.2 (by omega)
   | true =>
    obtain ⟨c,c1,c2,c3⟩ := R.rd hp hnF hr
    rw [Int.toNat_natCast] at c2
    refine beq_eq_false_iff_ne.2 fun e => ?_
    have := (c3 c c1).1 (Nat.le_refl _)
    rw [<- c2,e] at this
    omega
 ·refine Ret.loop (fun z => ∃ n : Nat,n <= 3 /\ z = (n : Int)) (fun z => (3 - z).toNat) ⟨0,by omega,rfl⟩ fun z ⟨n,n1,n2⟩ => ?_
  subst n2
  unfold F_spec_ExecValid_L35
  refine .bifD (fun hk => .gdD ⟨by omega,by simp only [hX.o]; omega⟩ ((writers_ret hp _).bind fun v38 h38 => ?_)) fun _ => .pure trivial
  subst h38
  refine (order_ok hp R (l:=n) (by omega)).bind fun v39 h39 => ?_
  subst h39
  exact .bif (fun h => by cases h) fun _ => .gdI (by omega) (.pure ⟨⟨n + 1,by omega,rfl⟩,by omega⟩)
theorem event_ret (hp : PV p) {t k : Nat} (ht : t < p.length) (hk : k < (p.getD t default).length) : Ret (F_spec_l13Event (evs p) (t : Int) (k : Int)) (· = if isF4 p t k then -1 else (base p t k : Int)) := by
 have hel := evs_len hp.vs
 unfold F_spec_l13Event
 refine Ret.sum (PS:=fun _ => isF4 p t k) (PW:=(· = if isF4 p t k then -1 else (base p t k : Int))) ?_ fun _ hf => .pure (by rw [if_pos hf])
 refine Ret.loop (fun z => ∃ n : Nat,n <= (evs p).length /\ z = (n : Int) /\ ∀ j : Nat,j < n -> ¬ ((ev p (j : Int)).Thread = t /\ (ev p (j : Int)).Index = k)) (fun z => (((evs p).length : Int) - z).toNat) ⟨0,by omega,rfl,fun j hj => by omega⟩ fun z ⟨n,n1,n2,n3⟩ => ?_
 subst n2
 unfold F_spec_l13Event_L5
 have en : (evs p).getD n default = ev p (n : Int) := by unfold ev; rw [Int.toNat_natCast]
 simp only [Int.toNat_natCast,en]
 refine .bifD (fun hkk => .gdD ⟨by omega,hkk⟩ (Ret.bind (P:=fun b => (b = true ↔ (ev p (n : Int)).Thread = t /\ (ev p (n : Int)).Index = k)) (.bif (fun h => .pure ?_) fun h => .pure ?_) fun b hb => .bif (fun h => .pure ?_) fun h => .gdI (by omega) (.pure ⟨⟨n + 1,by omega,rfl,fun j hj => ?_⟩,by omega⟩))) fun hkk => .pure ?_
 ·have h := eq_of_beq h
  rw [beq_iff_eq]
  exact ⟨fun e => ⟨h,e⟩,fun e => e.2⟩
 ·have h := beq_eq_false_iff_ne.1 h
  exact ⟨fun e => (by cases e),fun e => absurd e.1 h⟩
 ·obtain ⟨h1,h2⟩ := hb.1 h
  rcases ev_cases (p:=p) (n:=(n : Int)) (by omega) hkk with h3 | ⟨t',k',h3,e⟩
  ·rw [(ev_init (p:=p) (l:=n) (by omega)).1] at h1
   simp only at h1
   omega
  ·rw [e,h3.ev.1] at h1 h2
   simp only at h1 h2
   have e1 : t' = t := by omega
   have e2 : k' = k := by omega
   subst e1 e2
   rw [if_neg (show ¬ isF4 p t' k' from h3.o)]
   exact e
 ·rcases Nat.lt_or_ge j n with h' | h'
  ·exact n3 j h'
  ·rw [show j = n by omega]
   exact fun e => by rw [hb.2 e] at h; cases h
 ·have : n = (evs p).length := by omega
  subst this
  by_cases hf : isF4 p t k
  ·exact hf
  ·exfalso
   have hI : Isn p t k := ⟨ht,hk,hf⟩
   refine n3 (base p t k) hI.ev.2 ?_
   rw [hI.ev.1]
   exact ⟨rfl,rfl⟩
def dmk (p : List (List ZIn)) (a : Nat -> Nat) : Int := ((msk (fun j => dn p a (j : Int)) (evs p).length : Nat) : Int)
theorem ready_ret (hp : PV p) (R : RunOf p x F) (a : Nat -> Nat) {n : Nat} (hn : n < (evs p).length) : Ret (F_spec_l13Ready (rowsB p (bef p x) (evs p).length) (dmk p a) (n : Int)) fun b => (b = true ↔ ReadyE p x F a (n : Int)) := by
 have hel := evs_len hp.vs
 unfold F_spec_l13Ready
 refine Ret.sum (PS:=fun _ => ReadyE p x F a (n : Int)) (PW:=fun b => (b = true ↔ ReadyE p x F a (n : Int))) ?_ fun _ h => .pure ⟨fun _ => h,fun _ => rfl⟩
 refine Ret.loop (fun z => ∃ i : Nat,i <= (evs p).length /\ z = (i : Int) /\ ∀ j : Nat,j < i -> bef p x (j : Int) (n : Int) = true -> dn p a (j : Int) = true) (fun z => (((evs p).length : Int) - z).toNat) ⟨0,by omega,rfl,fun j hj => by omega⟩ fun z ⟨i,i1,i2,i3⟩ => ?_
 subst i2
 unfold F_spec_l13Ready_L5
 simp only [rowsB_len]
 refine .bifD (fun hk => ?_) fun hk => .pure ?_
 ·refine Ret.bind (P:=(· = bef p x (i : Int) (n : Int))) ?_ fun v7 h7 => ?_
  ·unfold F_spec_l2Has
   simp only [rowsB_len,Int.toNat_natCast]
   refine .gdD ⟨by omega,hk⟩ (.gdD (by omega) (.pure ?_))
   rw [rowsB_get _ (by omega),bit_is (msk_small (by omega)) (by omega),msk_bit,decide_eq_true hn,Bool.true_and]
   cases bef p x (i : Int) (n : Int) <;> rfl
  ·subst h7
   refine Ret.bind (P:=(· = (bef p x (i : Int) (n : Int) && !dn p a (i : Int)))) (.bif (fun h => .gdD (by omega) (.pure ?_)) fun h => .pure (by rw [h]; rfl)) fun v8 h8 => .bif (fun h => .pure ?_) fun h => .gdI (by omega) (.pure ⟨⟨i + 1,by omega,rfl,fun j hj hb => ?_⟩,by omega⟩)
   ·unfold dmk
    rw [h,bit_is (msk_small (by omega)) (by omega),msk_bit,decide_eq_true (show i < (evs p).length by omega),Bool.true_and]
    cases dn p a (i : Int) <;> rfl
   ·rw [h] at h8
    have h8 := h8.symm
    simp only [Bool.and_eq_true,Bool.not_eq_true'] at h8
    refine ⟨fun e => (by cases e),fun hr => ?_⟩
    have := hr (i : Int) ((R.mem _).2 ⟨by omega,hk⟩) h8.1
    rw [h8.2] at this
    cases this
   ·rcases Nat.lt_or_ge j i with h' | h'
    ·exact i3 j h' hb
    ·have : j = i := by omega
     subst this
     rw [h,hb,Bool.true_and] at h8
     simpa using h8.symm
 ·have : i = (evs p).length := by omega
  subst this
  intro m hm hb
  obtain ⟨m0,m1⟩ := (R.mem m).1 hm
  have := i3 m.toNat (by omega)
  rw [Int.toNat_of_nonneg m0] at this
  exact this hb
def mu (p : List (List ZIn)) (a : Nat -> Nat) : Nat := ((List.range p.length).map fun t => (p.getD t default).length - a t).sum
theorem sum_adv {f g : Nat -> Nat} : ∀ {n t : Nat},t < n -> f t = g t + 1 -> (∀ u,u < n -> u ≠ t -> f u = g u) -> ((List.range n).map f).sum = ((List.range n).map g).sum + 1
 | 0,t,h,_,_ => by omega
 | n + 1,t,h,h1,h2 => by
  rw [List.range_succ,List.map_append,List.map_append,List.sum_append,List.sum_append]
  simp only [List.map_cons,List.map_nil,List.sum_cons,List.sum_nil]
  by_cases e : t = n
  ·subst e
   have : (List.range t).map f = (List.range t).map g := List.map_congr_left fun u hu => h2 u (by have := List.mem_range.1 hu; omega) (by have := List.mem_range.1 hu; omega)
   rw [this,h1]
   omega
  ·have := sum_adv (n:=n) (t:=t) (by omega) h1 fun u hu hne => h2 u (by omega) hne
   rw [this,h2 n (by omega) (fun e' => e e'.symm)]
   omega
theorem mu_adv {a : Nat -> Nat} {t : Nat} (ht : t < p.length) (hk : a t < (p.getD t default).length) : mu p a = mu p (adv a t) + 1 :=
 sum_adv ht (by
  show (p.getD t default).length - a t = (p.getD t default).length - adv a t t + 1
  unfold adv
  rw [if_pos rfl]
  omega) fun u _ hne => by
  show (p.getD u default).length - a u = (p.getD u default).length - adv a t u
  unfold adv
  rw [if_neg hne]
theorem sum_le {f : Nat -> Nat} {m : Nat} (h : ∀ u,f u <= m) : ∀ n : Nat,((List.range n).map f).sum <= n * m
 | 0 => by simp
 | n + 1 => by
  rw [List.range_succ,List.map_append,List.sum_append]
  simp only [List.map_cons,List.map_nil,List.sum_cons,List.sum_nil]
  have h1 := sum_le h n
  have h2 := h n
  rw [Nat.add_mul]
  omega
theorem mu_le (hp : PV p) (a : Nat -> Nat) : mu p a <= 21 := by
 have h1 := sum_le (f:=fun t => (p.getD t default).length - a t) (m:=7) (fun u => by have := hp.vs.2 u; show (p.getD u default).length - a u <= 7; omega) p.length
 have h2 := hp.vs.1
 unfold mu
 omega
def ats (p : List (List ZIn)) (a : Nat -> Nat) : List Int := (List.range p.length).map fun t => (a t : Int)
theorem ats_get {a : Nat -> Nat} {t : Nat} (ht : t < p.length) : (ats p a).getD t default = (a t : Int) := by
 unfold ats
 rw [List.getD_eq_getElem?_getD,List.getElem?_map,List.getElem?_range ht]
 rfl
theorem ats_len (a : Nat -> Nat) : (ats p a).length = p.length := by simp [ats]
theorem ats_adv {a : Nat -> Nat} {t : Nat} (ht : t < p.length) : (ats p a).set t ((a t : Int) + 1) = ats p (adv a t) := by
 apply List.ext_getElem?
 intro i
 rw [List.getElem?_set]
 unfold ats
 simp only [List.length_map,List.length_range,List.getElem?_map]
 by_cases e : t = i
 ·subst e
  rw [if_pos rfl,if_pos ht,List.getElem?_range ht]
  simp [adv]
 ·rw [if_neg e]
  rcases Nat.lt_or_ge i p.length with h | h
  ·rw [List.getElem?_range h]
   simp [adv,Ne.symm e]
  ·rw [List.getElem?_eq_none (by simpa using h)]
   rfl
theorem StA.adv {a : Nat -> Nat} {t : Nat} (h : StA p a) (hk : a t < (p.getD t default).length) : StA p (Go.Proofs.Ytlmjnhnpahicmaa.adv a t) := fun u hu => by
 unfold Go.Proofs.Ytlmjnhnpahicmaa.adv
 by_cases e : u = t
 ·subst e; rw [if_pos rfl]; omega
 ·rw [if_neg e]; exact h u hu
theorem dmk_adv (hp : PV p) (R : RunOf p x F) {a : Nat -> Nat} {t : Nat} (ht : t < p.length) (hk : a t < (p.getD t default).length) : (if isF4 p t (a t) then dmk p a else bOr .i64 (dmk p a) (bShl .i64 1 (base p t (a t) : Int))) = dmk p (adv a t) := by
 have hel := evs_len hp.vs
 have hB := behind_adv R ht hk
 have mF : ∀ j : Nat,j < (evs p).length -> (j : Int) ∈ F := fun j hj => (R.mem _).2 ⟨by omega,by omega⟩
 by_cases hf : isF4 p t (a t)
 ·rw [if_pos hf]
  unfold dmk
  congr 1
  apply Nat.eq_of_testBit_eq
  intro j
  rw [msk_bit,msk_bit]
  by_cases hj : j < (evs p).length
  ·rw [decide_eq_true hj,Bool.true_and,Bool.true_and]
   have := hB (j : Int) (mF j hj)
   unfold nxt at this
   rw [if_pos hf] at this
   rw [Bool.eq_iff_iff,this]
   simp
  ·rw [decide_eq_false hj]; rfl
 ·rw [if_neg hf]
  have hI : Isn p t (a t) := ⟨ht,hk,hf⟩
  have hb := hI.ev.2
  unfold dmk
  rw [bShl_one (by omega),bOr_nat (msk_small (by omega)) (by have := Nat.pow_lt_pow_right (a:=2) (by omega) (show base p t (a t) < 63 by omega); omega)]
  congr 1
  apply Nat.eq_of_testBit_eq
  intro j
  rw [Nat.testBit_or,msk_bit,msk_bit,Nat.testBit_two_pow]
  by_cases hj : j < (evs p).length
  ·rw [decide_eq_true hj,Bool.true_and,Bool.true_and]
   have := hB (j : Int) (mF j hj)
   unfold nxt at this
   rw [if_neg hf] at this
   rw [Bool.eq_iff_iff,this]
   simp only [Bool.or_eq_true,decide_eq_true_eq,Option.some.injEq]
   constructor
   ·rintro (h | h)
    ·exact .inl h
    ·exact .inr (by omega)
   ·rintro (h | h)
    ·exact .inl h
    ·exact .inr (by omega)
  ·rw [decide_eq_false hj]
   simp only [Bool.false_and,Bool.false_or,decide_eq_false_iff_not]
   omega
theorem dmk_zero (hp : PV p) : dmk p (fun _ => 0) = 7 := by
 have h3 : 3 <= (evs p).length := (evP_pre p (Nat.zero_le p.length)).length_le
 unfold dmk
 have : msk (fun j => dn p (fun _ => 0) (j : Int)) (evs p).length = 2 ^ 3 - 1 := by
  apply Nat.eq_of_testBit_eq
  intro j
  rw [msk_bit,Nat.testBit_two_pow_sub_one]
  by_cases hj : j < (evs p).length
  ·rw [decide_eq_true hj,Bool.true_and]
   rcases ev_cases (p:=p) (n:=(j : Int)) (by omega) (by omega) with h | ⟨t,k,h,e⟩
   ·rw [decide_eq_true (show j < 3 by omega)]
    exact dn_init (by omega) h
   ·have := base_ge (p:=p) t k
    rw [decide_eq_false (show ¬ j < 3 by omega),e]
    cases hd : dn p (fun _ => 0) (base p t k : Int) with
    | false => rfl
    | true => have := (dn_base h).1 hd; omega
  ·rw [decide_eq_false hj,decide_eq_false (show ¬ j < 3 by omega)]; rfl
 rw [this]
 rfl
theorem closed_zero (hp : PV p) (R : RunOf p x F) : Closed p x F (fun _ => 0) := fun i k hi hk hb hd => by
 obtain ⟨k0,k1⟩ := (R.mem k).1 hk
 obtain ⟨i0,i1⟩ := (R.mem i).1 hi
 rcases ev_cases k0 k1 with h | ⟨t,j,h,rfl⟩
 ·rcases ev_cases i0 i1 with h' | ⟨t',j',h',rfl⟩
  ·exact dn_init i0 h'
  ·exfalso
   -- an instruction's event does not come before a location's
   have hk3 := (ev_init (p:=p) (l:=k.toNat) (by omega)).1
   rw [Int.toNat_of_nonneg k0] at hk3
   have hr := bef_rk hp R hi hk hb
   obtain ⟨o,ho⟩ := R.ini
   have hk4 : k ∈ ([0,1,2] : List Int) := by
    simp only [List.mem_cons,List.not_mem_nil,or_false]
    omega
   have h5 : (base p t' j' : Int) ∉ ([0,1,2] : List Int) := fun hm => by
    have := base_ge (p:=p) t' j'
    simp only [List.mem_cons,List.not_mem_nil,or_false] at hm
    omega
   unfold rk at hr
   rw [ho,List.idxOf_append,if_neg h5,List.idxOf_append,if_pos hk4] at hr
   have := List.idxOf_lt_length_of_mem hk4
   omega
 ·have := (dn_base h).1 hd
  omega
theorem readyT_iff (R : RunOf p x F) {a : Nat -> Nat} {t : Nat} (ht : t < p.length) (hk : a t < (p.getD t default).length) : ReadyT p x F a t ↔ isF4 p t (a t) \/ ReadyE p x F a (base p t (a t) : Int) := by
 unfold ReadyT nxt
 by_cases hf : isF4 p t (a t)
 ·rw [if_pos hf]
  exact ⟨fun _ => .inl hf,fun _ => ⟨ht,hk,fun n h => by cases h⟩⟩
 ·rw [if_neg hf]
  refine ⟨fun h => .inr (h.2.2 _ rfl),fun h => ⟨ht,hk,fun n hn => ?_⟩⟩
  injection hn with hn
  subst hn
  rcases h with h | h
  ·exact absurd h hf
  ·exact h
theorem closed_adv (R : RunOf p x F) {a : Nat -> Nat} {t : Nat} (hc : Closed p x F a) (h : ReadyT p x F a t) : Closed p x F (adv a t) := closed_on hc h.2.2 (behind_adv R h.1 h.2.1)
theorem sort_ret (hp : PV p) (R : RunOf p x F) : Ret (F_spec_l13Sort p (rowsB p (bef p x) (evs p).length)) fun v => v.2 = true /\ Gr p x F (fun _ => 0) v.1 := by
 have hl := hp.vs.1
 have hel := evs_len hp.vs
 unfold F_spec_l13Sort
 refine (sevents hp.vs).bind fun v1 h1 => ?_
 subst h1
 refine .gdD (by omega) (Ret.bind (P:=(· = 7)) ?_ fun v3 h3 => ?_)
 ·unfold F_spec_l2Full
  exact .gdD (by omega) (.gd rfl (.pure rfl))
 subst h3
 refine Ret.bind (P:=fun z => z.1.length = p.length /\ (∀ t : Nat,t < p.length -> z.1.getD t default = ((p.getD t default).length : Int)) /\ Gr p x F (fun _ => 0) z.2) ?_ fun s4 ⟨g1,g2,g3⟩ => ?_
 ·refine Ret.loop (fun z => ∃ a,StA p a /\ Closed p x F a /\ z.1 = ats p a /\ z.2.2.2 = dmk p a /\ z.2.1.length + mu p a <= 21 /\ (∀ r,Gr p x F a r -> Gr p x F (fun _ => 0) (z.2.1 ++ r)) /\ (z.2.2.1 = false -> ∀ t,¬ ReadyT p x F a t)) (fun z => (((21 - z.2.1.length : Nat)) * 2 + if z.2.2.1 then 1 else 0)) ⟨fun _ => 0,fun t _ => Nat.zero_le _,closed_zero hp R,?_,(dmk_zero hp).symm,by have := mu_le hp (fun _ => 0); simpa using this,(by intro r hr; exact hr),fun h => by cases h⟩ fun z ⟨a,z1,z2,z3,z4,z5,z6,z7⟩ => ?_
  ·simp only [Int.toNat_natCast]
   apply List.ext_getElem?
   intro i
   unfold ats
   rw [List.getElem?_replicate,List.getElem?_map]
   split
   ·rename_i h
    rw [List.getElem?_range h]
    rfl
   ·rename_i h
    rw [List.getElem?_eq_none (by simpa using h)]
    rfl
  obtain ⟨atl,out,more,dm⟩ := z
  simp only at z3 z4 z5 z6 z7
  subst z3 z4
  unfold F_spec_l13Sort_L10
  simp only []
  refine .bif (fun hm => ?_) fun hm => .pure ?_
  ·refine Ret.loop (fun w => ∃ n : Nat,n <= p.length /\ w.2.2.1 = (n : Int) /\ ((w.2.2.2.1 = false /\ w.1 = ats p a /\ w.2.1 = out /\ w.2.2.2.2 = dmk p a /\ ∀ u,u < n -> ¬ ReadyT p x F a u) \/ (w.2.2.2.1 = true /\ ∃ u,ReadyT p x F a u /\ (∀ v,v < u -> ¬ ReadyT p x F a v) /\ w.1 = ats p (adv a u) /\ w.2.1 = out ++ [(u : Int)] /\ w.2.2.2.2 = dmk p (adv a u)))) (fun w => ((p.length : Int) - w.2.2.1).toNat) ⟨0,by omega,rfl,.inl ⟨rfl,rfl,rfl,rfl,fun u hu => by omega⟩⟩ fun w ⟨n,n1,n2,n3⟩ => ?_
   obtain ⟨w1,w2,w3,w4,w5⟩ := w
   simp only at n2 n3
   subst n2
   unfold F_spec_l13Sort_L19
   simp only [Int.toNat_natCast]
   refine Ret.bind (P:=fun b => (b = true ↔ n < p.length /\ w4 = false)) (.bifD (fun h => .pure ?_) fun h => .pure ?_) fun b hb => .bif (fun h => ?_) fun h => .pure ?_
   ·cases w4
    ·exact ⟨fun _ => ⟨by omega,rfl⟩,fun _ => rfl⟩
    ·exact ⟨fun e => (by cases e),fun e => (by cases e.2)⟩
   ·exact ⟨fun e => (by cases e),fun e => by omega⟩
   ·obtain ⟨hn,e4⟩ := hb.1 h
    subst e4
    rcases n3 with n3 | ⟨e,_⟩
    rotate_left
    ·cases e
    obtain ⟨_,e1,e2,e5,hno⟩ := n3
    subst e1 e2 e5
    have hrow := hp.vs.2 n
    have ha := z1 n hn
    refine Ret.bind (P:=fun s => (s.2.2.1 = false /\ s.1 = ats p a /\ s.2.1 = w2 /\ s.2.2.2 = dmk p a /\ ¬ ReadyT p x F a n) \/ (s.2.2.1 = true /\ ReadyT p x F a n /\ s.1 = ats p (adv a n) /\ s.2.1 = w2 ++ [(n : Int)] /\ s.2.2.2 = dmk p (adv a n))) (.gdD ⟨by omega,by rw [ats_len]; omega⟩ (.gdD ⟨by omega,by omega⟩ ?_)) fun s hs => .gdI (by omega) (.pure ⟨⟨n + 1,by omega,rfl,?_⟩,by simp only []; omega⟩)
    ·rw [ats_get hn]
     refine .bif (fun he => .pure (.inl ⟨rfl,rfl,rfl,rfl,fun hr => ?_⟩)) fun he => ?_
     ·have he := eq_of_beq he
      have := hr.2.1
      omega
     have he := beq_eq_false_iff_ne.1 he
     have hk : a n < (p.getD n default).length := by omega
     refine (event_ret hp hn hk).bind fun v29 h29 => ?_
     refine Ret.bind (P:=fun b => (b = true ↔ ¬ ReadyT p x F a n)) (.bifD (fun h0 => ?_) fun h0 => .pure ⟨fun e => (by cases e),fun e => ?_⟩) fun b30 h30 => .bif (fun h => .pure (.inl ⟨rfl,rfl,rfl,rfl,h30.1 h⟩)) fun h => ?_
     ·have hf : ¬ isF4 p n (a n) := fun hf => by rw [if_pos hf] at h29; omega
      rw [if_neg hf] at h29
      subst h29
      refine (ready_ret hp R a (n:=base p n (a n)) (Isn.ev ⟨hn,hk,hf⟩).2).bind fun v32 h32 => .pure ?_
      rw [readyT_iff R hn hk]
      cases v32 with
      | true => exact ⟨fun e => (by cases e),fun e => absurd (.inr (h32.1 rfl)) e⟩
      | false =>
       refine ⟨fun _ e => ?_,fun _ => rfl⟩
       rcases e with e | e
       ·exact hf e
       ·have := h32.2 e
        cases this
     ·have hf : isF4 p n (a n) := Classical.byContradiction fun hf => by rw [if_neg hf] at h29; omega
      exact absurd ((readyT_iff R hn hk).2 (.inl hf)) e
     ·have hr : ReadyT p x F a n := Classical.byContradiction fun hr => by rw [h30.2 hr] at h; cases h
      refine Ret.bind (P:=(· = dmk p (adv a n))) ?_ fun v34 h34 => .gdI (by omega) (.gd (capOK_le (by omega) rfl) (.pure (.inr ⟨rfl,hr,ats_adv hn,rfl,h34⟩)))
      have hd := dmk_adv hp R hn hk
      refine .bifD (fun h0 => .gdD h0 (.pure ?_)) fun h0 => .pure ?_
      ·have hf : ¬ isF4 p n (a n) := fun hf => by rw [if_pos hf] at h29; omega
       rw [if_neg hf] at hd h29
       rw [h29]
       exact hd
      ·have hf : isF4 p n (a n) := Classical.byContradiction fun hf => by rw [if_neg hf] at h29; omega
       rw [if_pos hf] at hd
       exact hd
    ·rcases hs with ⟨s1,s2,s3,s4,s5⟩ | ⟨s1,s2,s3,s4,s5⟩
     ·refine .inl ⟨s1,s2,s3,s4,fun u hu => ?_⟩
      rcases Nat.lt_or_ge u n with h' | h'
      ·exact hno u h'
      ·rw [show u = n by omega]; exact s5
     ·exact .inr ⟨s1,n,s2,hno,s3,s4,s5⟩
   ·rcases n3 with ⟨e4,e1,e2,e5,hno⟩ | ⟨e4,u,hu,hno,e1,e2,e5⟩
    ·subst e4 e1 e2 e5
     have hn : n = p.length := by
      rcases Nat.lt_or_ge n p.length with h' | h'
      ·rw [hb.2 ⟨h',rfl⟩] at h; cases h
      ·omega
     exact ⟨⟨a,z1,z2,rfl,rfl,z5,z6,fun _ t ht => hno t (by have := ht.1; omega) ht⟩,by simp only [hm]; simp⟩
    ·subst e4 e1 e2 e5
     have hmu := mu_adv hu.1 hu.2.1
     refine ⟨⟨adv a u,z1.adv hu.2.1,closed_adv R z2 hu,rfl,rfl,by simp only [List.length_append,List.length_singleton]; omega,fun r hr => ?_,fun e => by cases e⟩,?_⟩
     ·rw [List.append_assoc]
      exact z6 _ (.cons hu hno hr)
     ·simp only [hm,List.length_append,List.length_singleton]
      omega
  ·have hf : Fin3 p a := Classical.byContradiction fun hf => by
    obtain ⟨t,ht⟩ := goes_on hp R z1 hf
    exact z7 hm t ht
   refine ⟨ats_len a,fun t ht => by rw [ats_get ht,hf t ht],?_⟩
   have := z6 [] (.nil hf)
   rwa [List.append_nil] at this
 ·refine Ret.sum (PS:=fun _ => True) (PW:=fun (v : List Int × Bool) => v.2 = true /\ Gr p x F (fun _ => 0) v.1) ?_ fun _ _ => .pure ⟨rfl,g3⟩
  refine Ret.loop (fun z => ∃ n : Nat,n <= p.length /\ z = (n : Int)) (fun z => ((p.length : Int) - z).toNat) ⟨0,by omega,rfl⟩ fun z ⟨n,n1,n2⟩ => ?_
  subst n2
  unfold F_spec_l13Sort_L48
  simp only [Int.toNat_natCast]
  refine .bifD (fun hk => .gdD ⟨by omega,by omega⟩ (.gdD ⟨by omega,hk⟩ (.bifD (fun h => ?_) fun _ => .gdI (by omega) (.pure ⟨⟨n + 1,by omega,rfl⟩,by omega⟩)))) fun _ => .pure trivial
  rw [g2 n (by omega)] at h
  omega
end
end Go.Proofs.Ytlmjnhnpahicmaa
