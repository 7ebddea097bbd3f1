/-
 How many writes are done, and whether an instruction can come next, as impl finds them. Plain theorems. No conditions.
-/
import Derived.Test.YtlmjnhnpahicmaaDt4
namespace Go.Proofs.Ytlmjnhnpahicmaa
open Go.RowKit
set_option maxRecDepth 100000
section
variable {p : List (List ZIn)} {x : XS} {F : List Int}
def wq (p : List (List ZIn)) (t : Nat) (l : Int) (k : Nat) : Bool := wrX (ins p t k) && decide ((ins p t k).Loc = l)
def cwr (p : List (List ZIn)) (t : Nat) (l : Int) (m : Nat) : Nat := ((List.range m).filter (wq p t l)).length
theorem cwr_succ (t : Nat) (l : Int) (m : Nat) : cwr p t l (m + 1) = cwr p t l m + if wq p t l m then 1 else 0 := by
 unfold cwr
 rw [List.range_succ,List.filter_append,List.length_append]
 by_cases h : wq p t l m = true
 ·rw [if_pos h,List.filter_cons_of_pos h]; rfl
 ·rw [if_neg h,List.filter_cons_of_neg h]; rfl
def cnt (p : List (List ZIn)) (a : Nat -> Nat) (l : Int) (n : Nat) : Nat := ((List.range n).map fun t => cwr p t l (a t)).sum
theorem cnt_succ (a : Nat -> Nat) (l : Int) (n : Nat) : cnt p a l (n + 1) = cnt p a l n + cwr p n l (a n) := by
 unfold cnt
 rw [List.range_succ,List.map_append,List.sum_append]
 simp
def dE (a : Nat -> Nat) (l : Int) (e : ZEv) : Bool := (e.Writes && decide (e.Loc = l)) && (decide (e.Thread < 0) || decide (e.Index < (a e.Thread.toNat : Int)))
theorem evR_cnt (a : Nat -> Nat) (l : Int) (t : Nat) : ∀ m : Nat,((evR t (p.getD t default) m).filter (dE a l)).length = cwr p t l (min m (a t))
 | 0 => by simp [evR,cwr]
 | m + 1 => by
  have ih := evR_cnt a l t m
  simp only [evR,List.filter_append,List.length_append,ih]
  have hx : ((p.getD t default).getD m default) = ins p t m := rfl
  unfold evI
  rw [hx]
  by_cases ho : (ins p t m).Op = 4
  ·rw [if_pos ho]
   have hw : wq p t l m = false := by unfold wq wrX; rw [ho]; rfl
   by_cases hm : m < a t
   ·rw [show min (m + 1) (a t) = min m (a t) + 1 by omega,cwr_succ,show min m (a t) = m by omega,hw]; rfl
   ·rw [show min (m + 1) (a t) = min m (a t) by omega]; rfl
  ·rw [if_neg ho]
   have hd : dE a l ⟨t,m,(ins p t m).Loc,rdX (ins p t m),wrX (ins p t m)⟩ = (wq p t l m && decide (m < a t)) := by
    unfold dE wq
    simp only [Int.toNat_natCast]
    congr 1
    rw [Bool.eq_iff_iff]
    simp only [Bool.or_eq_true,decide_eq_true_eq]
    omega
   by_cases hm : m < a t
   ·rw [decide_eq_true hm,Bool.and_true] at hd
    rw [show min (m + 1) (a t) = min m (a t) + 1 by omega,cwr_succ,show min m (a t) = m by omega]
    by_cases hw : wq p t l m = true
    ·rw [List.filter_cons_of_pos (by rw [hd]; exact hw),if_pos hw]; rfl
    ·rw [List.filter_cons_of_neg (by rw [hd]; exact hw),if_neg hw]; rfl
   ·rw [decide_eq_false hm,Bool.and_false] at hd
    rw [show min (m + 1) (a t) = min m (a t) by omega,List.filter_cons_of_neg (by rw [hd]; decide)]; rfl
theorem evP_cnt {a : Nat -> Nat} (ha : StA p a) {l : Nat} (hl : l < 3) : ∀ n : Nat,n <= p.length -> ((evP p n).filter (dE a (l : Int))).length = cnt p a (l : Int) n + 1
 | 0,_ => by
  match l,hl with
  | 0,_ => rfl
  | 1,_ => rfl
  | 2,_ => rfl
 | n + 1,hn => by
  have ih := evP_cnt ha hl n (by omega)
  simp only [evP,List.filter_append,List.length_append,ih,evR_cnt,cnt_succ]
  rw [show min (p.getD n default).length (a n) = a n by have := ha n (by omega); omega]
  omega
theorem filter_range {α : Type} (P : α -> Bool) (d : α) (L : List α) : ((List.range L.length).filter fun i => P (L.getD i d)).length = (L.filter P).length := by
 induction L using snoc_ind with
 | h0 => rfl
 | hs L b ih =>
  rw [List.length_append,List.length_singleton,List.range_succ,List.filter_append,List.length_append,List.filter_append,List.length_append]
  have e1 : (List.range L.length).filter (fun i => P ((L ++ [b]).getD i d)) = (List.range L.length).filter fun i => P (L.getD i d) := List.filter_congr fun i hi => by
   rw [List.getD_eq_getElem?_getD,List.getD_eq_getElem?_getD,List.getElem?_append_left (List.mem_range.1 hi)]
  have e2 : (L ++ [b]).getD L.length d = b := by
   rw [List.getD_eq_getElem?_getD,List.getElem?_append_right (Nat.le_refl _)]
   simp
  rw [e1,ih]
  congr 1
  by_cases h : P b = true
  ·rw [List.filter_cons_of_pos h,List.filter_cons_of_pos (by rw [e2]; exact h)]; rfl
  ·rw [List.filter_cons_of_neg h,List.filter_cons_of_neg (by rw [e2]; exact h)]; rfl
theorem dc_is (hp : PV p) (R : RunOf p x F) {a : Nat -> Nat} (ha : StA p a) {l : Nat} (hl : l < 3) : dc p x a (l : Int) = cnt p a (l : Int) p.length + 1 := by
 rw [<- evP_cnt ha hl p.length (Nat.le_refl _)]
 show dc p x a (l : Int) = ((evs p).filter (dE a (l : Int))).length
 rw [<- filter_range (dE a (l : Int)) default (evs p)]
 have O := (R.od (l : Int) (by omega)).1
 have h1 : ((List.range (evs p).length).filter fun i => dE a (l : Int) ((evs p).getD i default)).length = ((wrs p (l : Int)).filter (dn p a)).length := by
  unfold wrs
  rw [List.filter_filter,List.filter_map,List.length_map]
  congr 2
  funext i
  show dE a (l : Int) ((evs p).getD i default) = (dn p a (i : Int) && Wl p (l : Int) (i : Int))
  unfold dE dn Wl ev
  rw [Int.toNat_natCast,Bool.and_comm]
 rw [h1]
 have hnd : ((wrs p (l : Int)).filter (dn p a)).Nodup := List.Pairwise.filter _ (List.Pairwise.filter _ rng_nd)
 have hnd2 : ((od x (l : Int)).filter (dn p a)).Nodup := List.Pairwise.filter _ O.nd
 have g1 := List.Nodup.length_le_of_subset hnd2 (l₂:=(wrs p (l : Int)).filter (dn p a)) fun n hn => by
  obtain ⟨m1,m2⟩ := List.mem_filter.1 hn
  exact List.mem_filter.2 ⟨(wrs_mem R (by omega) n).2 m1,m2⟩
 have g2 := List.Nodup.length_le_of_subset hnd (l₂:=(od x (l : Int)).filter (dn p a)) fun n hn => by
  obtain ⟨m1,m2⟩ := List.mem_filter.1 hn
  exact List.mem_filter.2 ⟨(wrs_mem R (by omega) n).1 m1,m2⟩
 unfold dc
 omega
def aP (pc : Z3i) (t : Nat) : Nat := if t < 3 then (Z3i.get pc (t : Int)).toNat else 0
def NNp (pc : Z3i) : Prop := 0 <= pc.x0 /\ 0 <= pc.x1 /\ 0 <= pc.x2
theorem aP_get {pc : Z3i} (h : NNp pc) {t : Nat} (ht : t < 3) : Z3i.get pc (t : Int) = (aP pc t : Int) := by
 obtain ⟨a,b,c⟩ := pc
 obtain ⟨h0,h1,h2⟩ := h
 unfold aP
 rw [if_pos ht]
 match t,ht with
 | 0,_ => exact (Int.toNat_of_nonneg h0).symm
 | 1,_ => exact (Int.toNat_of_nonneg h1).symm
 | 2,_ => exact (Int.toNat_of_nonneg h2).symm
theorem aP_set {pc : Z3i} (h : NNp pc) {t : Nat} (ht : t < 3) : aP (Z3i.set pc (t : Int) (Z3i.get pc (t : Int) + 1)) = adv (aP pc) t /\ NNp (Z3i.set pc (t : Int) (Z3i.get pc (t : Int) + 1)) := by
 have h0 := aP_get h ht
 refine ⟨funext fun u => ?_,?_⟩
 ·unfold adv
  by_cases hu : u < 3
  ·unfold aP
   rw [if_pos hu,get_set3i _ _ _ _ (by omega) (by omega)]
   by_cases e : u = t
   ·subst e
    rw [if_pos rfl,if_pos rfl,if_pos hu]
    omega
   ·rw [if_neg (by omega),if_neg e,if_pos hu]
  ·unfold aP
   rw [if_neg hu,if_neg (by omega),if_neg hu]
 ·obtain ⟨a,b,c⟩ := pc
  obtain ⟨g0,g1,g2⟩ := h
  simp only at g0 g1 g2
  match t,ht with
  | 0,_ => exact ⟨by show 0 <= a + 1; omega,g1,g2⟩
  | 1,_ => exact ⟨g0,by show 0 <= b + 1; omega,g2⟩
  | 2,_ => exact ⟨g0,g1,by show 0 <= c + 1; omega⟩
theorem last_ret (hp : PV p) {pc : Z3i} (h : NNp pc) (ha : StA p (aP pc)) (e : ZEx) (nm : List (List Int)) (l : Int) : Ret (F_impl_tracer_last ⟨p,e,nm⟩ pc l) (· = (cnt p (aP pc) l p.length : Int)) := by
 have hl := hp.vs.1
 have cwl : ∀ t k : Nat,cwr p t l k <= k := fun t k => Nat.le_trans (List.length_filter_le _ _) (by simp)
 unfold F_impl_tracer_last
 refine Ret.bind (P:=(· = (cnt p (aP pc) l p.length : Int))) ?_ fun v hv => .pure hv
 refine Ret.loop (fun z => ∃ n : Nat,n <= p.length /\ z = ((n : Int),(cnt p (aP pc) l n : Int)) /\ cnt p (aP pc) l n <= 7 * n) (fun z => ((p.length : Int) - z.1).toNat) ⟨0,by omega,rfl,by simp [cnt]⟩ fun z ⟨n,n1,n2,n3⟩ => ?_
 subst n2
 unfold F_impl_tracer_last_L5
 simp only [Int.toNat_natCast]
 refine .bifD (fun hk => ?_) fun hk => .pure ?_
 ·have hn : n < p.length := by omega
  have hg := aP_get h (t:=n) (by omega)
  have han := ha n hn
  have hrow := hp.vs.2 n
  have hcl := cwl n (aP pc n)
  refine Ret.bind (P:=(· = (cnt p (aP pc) l (n + 1) : Int))) (.gdD ⟨by omega,hk⟩ (.gdD ⟨by omega,by omega⟩ (.gdD ⟨by omega,by omega,by omega⟩ ?_))) fun v hv => .gdI (by omega) (.pure ⟨⟨n + 1,by omega,by rw [hv]; rfl,by rw [cnt_succ]; omega⟩,by simp only []; omega⟩)
  have hsl : (((p.getD n default).drop (0 : Int).toNat).take ((Z3i.get pc (n : Int)).toNat - (0 : Int).toNat)) = (p.getD n default).take (aP pc n) := by rw [hg]; simp
  refine Ret.loop (fun z => ∃ k : Nat,k <= aP pc n /\ z = ((k : Int),((cnt p (aP pc) l n + cwr p n l k : Nat) : Int))) (fun z => ((aP pc n : Int) - z.1).toNat) ⟨0,by omega,rfl⟩ fun z ⟨k,k1,k2⟩ => ?_
  subst k2
  unfold F_impl_tracer_last_L14
  simp only [Int.toNat_natCast,hsl]
  have hlen : ((p.getD n default).take (aP pc n)).length = aP pc n := by rw [List.length_take]; omega
  rw [hlen]
  refine .bifD (fun hkk => ?_) fun hkk => .pure ?_
  ·have hgk : ((p.getD n default).take (aP pc n)).getD k default = ins p n k := by
    unfold ins
    rw [List.getD_eq_getElem?_getD,List.getElem?_take,if_pos (by omega),<- List.getD_eq_getElem?_getD]
   rw [hgk]
   obtain ⟨b2,w1,w2⟩ := iwrites (ins p n k)
   have hck := cwl n k
   refine Ret.bind (P:=(· = ((cnt p (aP pc) l n + cwr p n l (k + 1) : Nat) : Int))) (.gdD ⟨by omega,hkk⟩ ((Ret.of (P:=(· = wrX (ins p n k))) w1 w2).bind fun v18 h18 => ?_)) fun v hv => .gdI (by omega) (.pure ⟨⟨k + 1,by omega,by rw [hv]; rfl⟩,by simp only []; omega⟩)
   subst h18
   refine Ret.bind (P:=(· = wq p n l k)) (.bif (fun hw => .pure ?_) fun hw => .pure ?_) fun b hb => ?_
   ·unfold wq; rw [hw,Bool.true_and]; exact beqD _ _
   ·unfold wq; rw [hw]; rfl
   ·subst hb
    rw [cwr_succ]
    exact .bif (fun hw => .gdI (by omega) (.pure (by rw [if_pos hw]; omega))) fun hw => .pure (by rw [if_neg (by rw [hw]; decide)]; rfl)
  ·have : k = aP pc n := by omega
   rw [this,cnt_succ]
 ·have : n = p.length := by omega
  rw [this]
structure Nums (p : List (List ZIn)) (nm : List (List Int)) : Prop where
 len : nm.length = p.length
 row : ∀ t : Nat,t < p.length -> nm.getD t [] = numR p t (p.getD t default).length
theorem can_ret (hp : PV p) (R : RunOf p x F) {nm : List (List Int)} (hn : Nums p nm) {pc : Z3i} (h : NNp pc) (ha : StA p (aP pc)) {t : Nat} (ht : t < p.length) : Ret (F_impl_tracer_can ⟨p,⟨x.1,x.2⟩,nm⟩ pc (t : Int)) fun b => (b = true ↔ CanT p x (aP pc) t) := by
 have hl := hp.vs.1
 have hX := exok hp R
 have hg := aP_get h (t:=t) (by omega)
 have hrow := hp.vs.2 t
 unfold F_impl_tracer_can
 simp only [Int.toNat_natCast,hg]
 refine .gdD ⟨by omega,by omega⟩ (.gdD ⟨by omega,by omega⟩ (.bif (fun he => .pure ?_) fun he => ?_))
 ·have he := eq_of_beq he
  exact ⟨fun e => (by cases e),fun e => by have := e.2.1; omega⟩
 have he := beq_eq_false_iff_ne.1 he
 have hk : aP pc t < (p.getD t default).length := by have := ha t ht; omega
 have hnl : (nm.getD t default).length = (p.getD t default).length := by rw [getD_nil,hn.row t ht]; simp [numR]
 have hnum : (nm.getD t default).getD (aP pc t) default = num p t (aP pc t) := by
  rw [getD_nil,hn.row t ht]
  unfold numR
  rw [List.getD_eq_getElem?_getD,List.getElem?_map,List.getElem?_range hk]
  rfl
 refine .gdD ⟨by omega,by omega⟩ (.gdD ⟨by omega,by rw [hn.len]; omega⟩ (.gdD ⟨by omega,by rw [hnl]; omega⟩ (.bif (fun ho => .pure ?_) fun ho => ?_)))
 ·have ho : isF4 p t (aP pc t) := eq_of_beq ho
  refine ⟨fun _ => ⟨ht,hk,fun n hn => ?_⟩,fun _ => rfl⟩
  unfold nxt at hn
  rw [if_pos ho] at hn
  cases hn
 have ho : ¬ isF4 p t (aP pc t) := beq_eq_false_iff_ne.1 ho
 have hI : Isn p t (aP pc t) := ⟨ht,hk,ho⟩
 have hev := hI.ev.1
 have hb := hI.ev.2
 have hF : (base p t (aP pc t) : Int) ∈ F := (R.mem _).2 ⟨by omega,by omega⟩
 have hloc := hp.ins t (aP pc t) ht hk
 have hL0 : 0 <= (ins p t (aP pc t)).Loc := hloc.1
 have hL2 : (ins p t (aP pc t)).Loc <= 2 := hloc.2.1
 have hnv : num p t (aP pc t) = (base p t (aP pc t) : Int) := if_neg ho
 have hdc := dc_is hp R ha (l:=(ins p t (aP pc t)).Loc.toNat) (by omega)
 rw [Int.toNat_of_nonneg hL0] at hdc
 have O := (R.od (ins p t (aP pc t)).Loc ⟨hL0,hL2⟩).1
 have hdl := (dc_pos hp R (aP pc) (l:=(ins p t (aP pc t)).Loc) ⟨hL0,hL2⟩).2
 have hod : x.2.getD (ins p t (aP pc t)).Loc.toNat default = od x (ins p t (aP pc t)).Loc := rfl
 have hle := hX.r (ins p t (aP pc t)).Loc.toNat
 rw [hod] at hle
 have hnd : dn p (aP pc) (base p t (aP pc t) : Int) = false := by
  cases hd : dn p (aP pc) (base p t (aP pc t) : Int) with
  | false => rfl
  | true => have := (dn_base hI).1 hd; omega
 have hlt : wrX (ins p t (aP pc t)) = true -> dc p x (aP pc) (ins p t (aP pc t)).Loc < (od x (ins p t (aP pc t)).Loc).length := fun hw => by
  have hm : (base p t (aP pc t) : Int) ∈ od x (ins p t (aP pc t)).Loc := (O.mem _).2 ⟨hF,by rw [hev]; exact hw,by rw [hev]⟩
  exact List.length_filter_lt_length_iff_exists.2 ⟨_,hm,by rw [hnd]; decide⟩
 have hcan : CanT p x (aP pc) t ↔ (rdX (ins p t (aP pc t)) = true -> x.1.getD (base p t (aP pc t)) default = (od x (ins p t (aP pc t)).Loc).getD (dc p x (aP pc) (ins p t (aP pc t)).Loc - 1) default) /\ (wrX (ins p t (aP pc t)) = true -> (od x (ins p t (aP pc t)).Loc).getD (dc p x (aP pc) (ins p t (aP pc t)).Loc) default = (base p t (aP pc t) : Int)) := by
  unfold CanT nxt CanE
  rw [if_neg ho]
  constructor
  ·intro h1
   have := h1.2.2 _ rfl
   rw [hev,Int.toNat_natCast] at this
   exact this
  ·intro h1
   refine ⟨ht,hk,fun n hn => ?_⟩
   injection hn with hn
   subst hn
   rw [hev,Int.toNat_natCast]
   exact h1
 rw [hcan]
 have hins : (p.getD t default).getD (aP pc t) default = ins p t (aP pc t) := rfl
 simp only [hins,hnum,hnv,hod,Int.toNat_natCast]
 refine .gdD ⟨hL0,by rw [hX.o]; omega⟩ ((last_ret hp h ha _ _ _).bind fun v9 h9 => ?_)
 subst h9
 obtain ⟨b1,r1,r2⟩ := ireads (ins p t (aP pc t))
 obtain ⟨b2,w1,w2⟩ := iwrites (ins p t (aP pc t))
 subst r2 w2
 have hc1 : ((cnt p (aP pc) (ins p t (aP pc t)).Loc p.length : Int)).toNat = dc p x (aP pc) (ins p t (aP pc t)).Loc - 1 := by omega
 have hc2 : ((cnt p (aP pc) (ins p t (aP pc t)).Loc p.length : Int) + 1).toNat = dc p x (aP pc) (ins p t (aP pc t)).Loc := by omega
 refine Ret.bind (P:=fun b => (b = true ↔ (rdX (ins p t (aP pc t)) = true -> x.1.getD (base p t (aP pc t)) default = (od x (ins p t (aP pc t)).Loc).getD (dc p x (aP pc) (ins p t (aP pc t)).Loc - 1) default) /\ (wrX (ins p t (aP pc t)) = true -> (od x (ins p t (aP pc t)).Loc).getD (dc p x (aP pc) (ins p t (aP pc t)).Loc) default = (base p t (aP pc t) : Int)))) ?_ fun v hv => .pure hv
 rw [show (⟨(ins p t (aP pc t)).Op,(ins p t (aP pc t)).Loc,(ins p t (aP pc t)).Reg,(ins p t (aP pc t)).Val⟩ : ZIn) = ins p t (aP pc t) from rfl,r1,w1]
 have wpart : ∀ rd : Prop,rd -> Ret (bif !wrX (ins p t (aP pc t)) then some true else gd (inK .i64 ((cnt p (aP pc) (ins p t (aP pc t)).Loc p.length : Int) + (1 : Int))) <| gd (decide (0 <= ((cnt p (aP pc) (ins p t (aP pc t)).Loc p.length : Int) + (1 : Int)) /\ ((cnt p (aP pc) (ins p t (aP pc t)).Loc p.length : Int) + (1 : Int)) < ((od x (ins p t (aP pc t)).Loc).length : Int))) <| some (((od x (ins p t (aP pc t)).Loc).getD ((cnt p (aP pc) (ins p t (aP pc t)).Loc p.length : Int) + (1 : Int)).toNat default) == (base p t (aP pc t) : Int))) fun b => (b = true ↔ rd /\ (wrX (ins p t (aP pc t)) = true -> (od x (ins p t (aP pc t)).Loc).getD (dc p x (aP pc) (ins p t (aP pc t)).Loc) default = (base p t (aP pc t) : Int))) := fun rd hrd => by
  refine .bif (fun hw => .pure ⟨fun _ => ⟨hrd,fun e => by rw [e] at hw; cases hw⟩,fun _ => rfl⟩) fun hw => ?_
  have hw : wrX (ins p t (aP pc t)) = true := by simpa using hw
  have := hlt hw
  refine .gdI (by omega) (.gdD ⟨by omega,by omega⟩ (.pure ?_))
  rw [hc2,beq_iff_eq]
  exact ⟨fun e => ⟨hrd,fun _ => e⟩,fun e => e.2 hw⟩
 refine .bif (fun hr => ?_) fun hr => ?_
 ·have hr : ¬ rdX (ins p t (aP pc t)) = true := by simpa using hr
  exact wpart _ (fun e => absurd e hr)
 ·have hr : rdX (ins p t (aP pc t)) = true := by simpa using hr
  refine .gdD ⟨by omega,by rw [hX.f]; omega⟩ (.gdD ⟨by omega,by omega⟩ ?_)
  rw [hc1]
  refine .bif (fun he => ?_) fun he => .pure ⟨fun e => (by cases e),fun e => ?_⟩
  ·exact wpart _ (fun _ => eq_of_beq he)
  ·exact absurd (e.1 hr) (beq_eq_false_iff_ne.1 he)
end
end Go.Proofs.Ytlmjnhnpahicmaa
