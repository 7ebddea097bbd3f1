/-
 What a schedule's run is, of impl and of spec. Plain theorems. No conditions.
-/
import Derived.Test.YtlmjnhnpahicmaaDgs
import Derived.Test.YtlmjnhnpahicmaaDga
namespace Go.Proofs.Ytlmjnhnpahicmaa
open Go.RowKit
set_option maxRecDepth 100000
theorem mul_all : ((List.range 25).all fun n => decide (F_math_bits_Mul64 1 (n : Int) = some (0,(n : Int)))) = true := by decide +kernel
theorem mul_is {n : Nat} (h : n < 25) : F_math_bits_Mul 1 (n : Int) = some (0,(n : Int)) := by
 have := List.all_eq_true.1 mul_all n (List.mem_range.2 h)
 unfold F_math_bits_Mul
 rw [of_decide_eq_true this]
 rfl
theorem repeat_ret {n : Nat} (h : n < 25) (h0 : 0 < n) (c : Int) : Ret (F_slices_Repeat_int_int [c] (n : Int)) (· = List.replicate n c) := by
 unfold F_slices_Repeat_int_int
 refine Ret.bind (P:=fun _ => True) (.bifD (fun h => absurd h (by omega)) fun _ => .pure trivial) fun _ _ => .gd (inU_of (by simp)) (.gd (inU_of (by omega)) ?_)
 refine (Ret.of (P:=(· = (0,(n : Int)))) (mul_is h) rfl).bind fun v5 h5 => ?_
 subst h5
 refine Ret.bind (P:=fun _ => True) (Ret.bind (P:=(· = false)) (.bifD (fun h => absurd h (Int.lt_irrefl 0)) fun _ => .pure (by simp only []; rw [decide_eq_false (by omega)])) fun b hb => .bif (fun h => by subst hb; cases h) fun _ => .pure trivial) fun _ _ => .gdI (by simp only []; omega) (.gdD (by simp only []; omega) ?_)
 simp only [Int.toNat_natCast,List.length_replicate]
 refine Ret.bind (P:=(· = List.replicate n c)) ?_ fun v hv => .pure hv
 refine Ret.loop (fun s => ∃ (k : Nat) (r : List Int),0 < k /\ k <= n /\ s.2 = (k : Int) /\ s.1 = List.replicate k c ++ r /\ r.length = n - k) (fun s => ((n : Int) - s.2).toNat) ⟨1,List.replicate (n - 1) default,by omega,by omega,by simp; omega,?_,by simp⟩ fun s ⟨k,r,k0,k1,k2,k3,k4⟩ => ?_
 ·unfold cpy
  rw [if_pos (by simp)]
  simp only [List.take_zero,List.nil_append,List.length_singleton,List.drop_replicate]
  rw [show min 1 n = 1 by omega]
  rfl
 ·obtain ⟨l,m⟩ := s
  simp only at k2 k3
  subst k2
  have hl : l.length = n := by rw [k3,List.length_append,List.length_replicate,k4]; omega
  unfold F_slices_Repeat_int_int_L17
  simp only [hl,Int.toNat_natCast,Int.toNat_zero,Nat.zero_add,List.drop_zero,Nat.sub_zero]
  refine .bifD (fun hk => ?_) fun hk => .pure ?_
  ·have ht : l.take k = List.replicate k c := by rw [k3,List.take_append_of_le_length (by simp),List.take_of_length_le (by simp)]
   simp only [ht,List.length_replicate]
   refine .gdD (by omega) (.gdD (by omega) (.gdI (by omega) (.pure ⟨⟨k + min k (n - k),r.drop (min k (n - k)),by omega,by omega,by simp,?_,by rw [List.length_drop]; omega⟩,by simp only []; omega⟩)))
   unfold cpy
   rw [if_pos (by omega),ht]
   simp only [List.length_replicate,List.take_replicate]
   rw [show min (min k (n - k)) k = min k (n - k) by omega,List.replicate_append_replicate,k3,List.drop_append,List.length_replicate,List.drop_of_length_le (by simp),List.nil_append,Nat.add_sub_cancel_left]
  ·have : k = n := by omega
   subst this
   have : r = [] := List.eq_nil_of_length_eq_zero (by omega)
   rw [k3,this,List.append_nil]
section
variable {p : List (List ZIn)}
def base (p : List (List ZIn)) (t k : Nat) : Nat := (evP p t).length + (evR t (p.getD t default) k).length
def num (p : List (List ZIn)) (t k : Nat) : Int := if ((p.getD t default).getD k default).Op = 4 then -1 else (base p t k : Int)
theorem evR_pre (t : Nat) (row : List ZIn) : ∀ {n m : Nat},n <= m -> evR t row n <+: evR t row m := by
 intro n m h
 induction h with
 | refl => exact List.prefix_refl _
 | step _ ih => exact ih.trans (List.prefix_append _ _)
theorem evP_pre (p : List (List ZIn)) : ∀ {n m : Nat},n <= m -> evP p n <+: evP p m := by
 intro n m h
 induction h with
 | refl => exact List.prefix_refl _
 | step _ ih => exact ih.trans (List.prefix_append _ _)
theorem pre_getD {l m : List ZEv} (h : l <+: m) {i : Nat} (hi : i < l.length) : m.getD i default = l.getD i default /\ i < m.length := by
 obtain ⟨r,rfl⟩ := h
 refine ⟨?_,by rw [List.length_append]; omega⟩
 rw [List.getD_eq_getElem?_getD,List.getD_eq_getElem?_getD,List.getElem?_append_left hi]
theorem num_ev {t k : Nat} (ht : t < p.length) (hk : k < (p.getD t default).length) (ho : ¬ ((p.getD t default).getD k default).Op = 4) :
  (evs p).getD (base p t k) default = ⟨t,k,((p.getD t default).getD k default).Loc,rdX ((p.getD t default).getD k default),wrX ((p.getD t default).getD k default)⟩ /\ base p t k < (evs p).length := by
 have h1 : evP p t ++ (evR t (p.getD t default) k ++ [⟨t,k,((p.getD t default).getD k default).Loc,rdX ((p.getD t default).getD k default),wrX ((p.getD t default).getD k default)⟩]) <+: evs p := by
  refine List.IsPrefix.trans ?_ (evP_pre p (show t + 1 <= p.length by omega))
  refine (List.prefix_append_right_inj _).2 ?_
  refine List.IsPrefix.trans ?_ (evR_pre t (p.getD t default) (show k + 1 <= (p.getD t default).length by omega))
  show _ <+: evR t (p.getD t default) k ++ evI t k ((p.getD t default).getD k default)
  unfold evI
  rw [if_neg ho]
  exact List.prefix_refl _
 obtain ⟨e1,e2⟩ := pre_getD h1 (i:=base p t k) (by simp only [base,List.length_append,List.length_singleton]; omega)
 refine ⟨e1.trans ?_,e2⟩
 rw [List.getD_eq_getElem?_getD,base,List.getElem?_append_right (by omega),Nat.add_sub_cancel_left,List.getElem?_append_right (by omega),Nat.sub_self]
 rfl
def fnd (t k : Int) : Nat -> List ZEv -> List Int
 | _,[] => []
 | b,e :: l => (if e.Thread = t /\ e.Index = k then [(b : Int)] else []) ++ fnd t k (b + 1) l
theorem fnd_append (t k : Int) : ∀ (l m : List ZEv) (b : Nat),fnd t k b (l ++ m) = fnd t k b l ++ fnd t k (b + l.length) m
 | [],m,b => by simp [fnd]
 | e :: l,m,b => by
  simp only [List.cons_append,fnd,fnd_append t k l m,List.append_assoc,List.length_cons]
  rw [show b + 1 + l.length = b + (l.length + 1) by omega]
theorem fnd_none (t k : Int) : ∀ (l : List ZEv) (b : Nat),(∀ e ∈ l,¬ (e.Thread = t /\ e.Index = k)) -> fnd t k b l = []
 | [],_,_ => rfl
 | e :: l,b,h => by
  simp only [fnd]
  rw [if_neg (h e (List.mem_cons_self)),fnd_none t k l _ fun x hx => h x (List.mem_cons_of_mem _ hx)]
  rfl
theorem fnd_row (t : Nat) (row : List ZIn) (k : Nat) (n b : Nat) : fnd t k b (evR t row n) = if k < n /\ ¬ (row.getD k default).Op = 4 then [((b + (evR t row k).length : Nat) : Int)] else [] := by
 induction n with
 | zero => rw [if_neg (by omega)]; rfl
 | succ n ih =>
  show fnd t k b (evR t row n ++ evI t n (row.getD n default)) = _
  rw [fnd_append,ih]
  by_cases e : k = n
  ·subst e
   rw [if_neg (by omega)]
   unfold evI
   by_cases ho : (row.getD k default).Op = 4
   ·rw [if_pos ho,if_neg (fun h => h.2 ho)]
    rfl
   ·rw [if_neg ho,if_pos ⟨by omega,ho⟩]
    simp [fnd]
  ·have h2 : fnd t k (b + (evR t row n).length) (evI t n (row.getD n default)) = [] := by
    refine fnd_none _ _ _ _ fun x hx => ?_
    unfold evI at hx
    split at hx
    ·simp at hx
    ·rw [List.mem_singleton] at hx
     subst hx
     simp only []
     omega
   rw [h2,List.append_nil]
   by_cases h : k < n
   ·simp only [h,show k < n + 1 by omega,true_and]
   ·rw [if_neg (by omega),if_neg (by omega)]
theorem fnd_evP (p : List (List ZIn)) (t k : Nat) (n : Nat) : fnd t k 0 (evP p n) = if t < n /\ k < (p.getD t default).length /\ ¬ ((p.getD t default).getD k default).Op = 4 then [(base p t k : Int)] else [] := by
 induction n with
 | zero =>
  rw [if_neg (by omega)]
  refine fnd_none _ _ _ _ fun e he => ?_
  simp only [evP,ev0,List.mem_cons,List.not_mem_nil,or_false] at he
  rcases he with rfl | rfl | rfl <;> (simp only []; omega)
 | succ n ih =>
  show fnd t k 0 (evP p n ++ evR n (p.getD n default) (p.getD n default).length) = _
  rw [fnd_append,ih]
  by_cases e : t = n
  ·subst e
   rw [if_neg (by omega),fnd_row,Nat.zero_add]
   by_cases h : k < (p.getD t default).length /\ ¬ ((p.getD t default).getD k default).Op = 4
   ·rw [if_pos h,if_pos ⟨by omega,h⟩]
    rfl
   ·rw [if_neg h,if_neg fun g => h g.2]
    rfl
  ·have h2 : fnd t k (0 + (evP p n).length) (evR n (p.getD n default) (p.getD n default).length) = [] := by
    refine fnd_none _ _ _ _ fun x hx => ?_
    obtain ⟨j,_,h3,_⟩ := evR_mem hx
    rw [h3]
    omega
   rw [h2,List.append_nil]
   by_cases h : t < n
   ·simp only [h,show t < n + 1 by omega,true_and]
   ·rw [if_neg (by omega),if_neg (by omega)]
def stepN (p : List (List ZIn)) (t k : Nat) : List Int := if ((p.getD t default).getD k default).Op = 4 then [] else [(base p t k : Int)]
def stT (s : List Int) (j : Nat) : Nat := (s.getD j default).toNat
def stK (s : List Int) (j : Nat) : Nat := (s.take j).count (s.getD j default)
def ordF (p : List (List ZIn)) (s : List Int) : Nat -> List Int
 | 0 => []
 | n + 1 => ordF p s n ++ stepN p (stT s n) (stK s n)
theorem ordF_len (p : List (List ZIn)) (s : List Int) (n : Nat) : (ordF p s n).length <= n := by
 induction n with
 | zero => exact Nat.le_refl _
 | succ n ih =>
  have : (stepN p (stT s n) (stK s n)).length <= 1 := by unfold stepN; split <;> simp
  simp only [ordF,List.length_append]
  omega
theorem evs_len {p : List (List ZIn)} (h : Vs p) : (evs p).length <= 24 := by
 have h1 := evP_len h p.length
 have h2 := h.1
 unfold evs
 omega
theorem fnd_snoc (t k : Int) (l : List ZEv) (e : ZEv) : fnd t k 0 (l ++ [e]) = fnd t k 0 l ++ if e.Thread = t /\ e.Index = k then [(l.length : Int)] else [] := by
 rw [fnd_append,Nat.zero_add]
 simp [fnd]
theorem order_ret (hp : PV p) {s : List Int} (hs : s.length <= 1048576) (hg : Good p s s.length) : Ret (F_spec_l13Order p s) (· = ordF p s s.length) := by
 have hl := hp.vs.1
 have hel := evs_len hp.vs
 unfold F_spec_l13Order
 refine (sevents hp.vs).bind fun v1 h1 => .gdD (by omega) ?_
 subst h1
 refine Ret.bind (P:=fun z => z.2 = ordF p s s.length) ?_ fun v hv => .pure hv
 refine Ret.loop (fun z => ∃ n : Nat,n <= s.length /\ z.2.2 = (n : Int) /\ z.2.1 = ordF p s n /\ z.1.length = p.length /\ ∀ t : Nat,t < p.length -> z.1.getD t default = ((s.take n).count (t : Int) : Int)) (fun z => ((s.length : Int) - z.2.2).toNat) ⟨0,by omega,rfl,rfl,by simp,fun t ht => ?_⟩ fun z ⟨n,h1,h2,h3,h4,h5⟩ => ?_
 ·simp only [List.take_zero,List.count_nil]
  rw [List.getD_eq_getElem?_getD,List.getElem?_replicate]
  split <;> rfl
 ·obtain ⟨at_,l,i⟩ := z
  simp only at h2 h3 h4 h5
  subst h2 h3
  unfold F_spec_l13Order_L9
  refine .bifD (fun hk => ?_) fun hk => .pure ?_
  ·simp only [] at hk
   obtain ⟨g1,g2⟩ := hg n (by omega)
   have ht : (s.getD n default).toNat < p.length := by omega
   have em : (((s.getD n default).toNat : Nat) : Int) = s.getD n default := Int.toNat_of_nonneg g1.1
   have hat := h5 _ ht
   rw [em] at hat
   have hrow := hp.vs.2 (s.getD n default).toNat
   refine Ret.bind (P:=(· = ordF p s (n + 1))) (.gdD ⟨by simp only []; omega,hk⟩ ?_) fun v hv => .gdI (by simp only []; omega) (.pure ⟨⟨n + 1,by omega,rfl,hv,by simp only [List.length_set]; exact h4,fun t htp => ?_⟩,by simp only []; omega⟩)
   ·refine Ret.bind (P:=(· = ordF p s (n + 1))) ?_ fun v hv => .gdD ⟨g1.1,by simp only []; rw [h4]; exact g1.2⟩ (.gdI (by simp only [Int.toNat_natCast]; rw [hat]; omega) (.pure hv))
    refine Ret.loop (fun y => ∃ m : Nat,m <= (evs p).length /\ y = (ordF p s n ++ fnd (s.getD n default) (stK s n) 0 ((evs p).take m),(m : Int))) (fun y => (((evs p).length : Int) - y.2).toNat) ⟨0,by omega,by simp [fnd]⟩ fun y ⟨m,m1,m2⟩ => ?_
    subst m2
    have hol := ordF_len p s n
    unfold F_spec_l13Order_L20
    refine .bifD (fun hm => ?_) fun hm => .pure ?_
    ·simp only [] at hm
     have hfl : (fnd (s.getD n default) (stK s n) 0 ((evs p).take m)).length <= m := by
      have : ∀ (l : List ZEv) (b : Nat),(fnd (s.getD n default) (stK s n) b l).length <= l.length := by
       intro l
       induction l with
       | nil => intro b; exact Nat.le_refl _
       | cons e l ih =>
        intro b
        have := ih (b + 1)
        simp only [fnd,List.length_append,List.length_cons]
        split <;> simp only [List.length_singleton,List.length_nil] <;> omega
      refine Nat.le_trans (this _ _) ?_
      rw [List.length_take]
      omega
     refine Ret.bind (P:=(· = ordF p s n ++ fnd (s.getD n default) (stK s n) 0 ((evs p).take (m + 1)))) ?_ fun v hv => .gdI (by simp only []; omega) (.pure ⟨⟨m + 1,by omega,by rw [hv]; rfl⟩,by simp only []; omega⟩)
     have hml : m < (evs p).length := by omega
     have ee : (evs p).getD m default = (evs p)[m] := by rw [List.getD_eq_getElem?_getD,List.getElem?_eq_getElem hml]; rfl
     rw [<- List.take_append_getElem hml,fnd_snoc,<- ee,List.length_take,Nat.min_eq_left (by omega)]
     simp only [Int.toNat_natCast]
     refine Ret.bind (P:=fun b => b = decide (((evs p).getD m default).Thread = s.getD n default /\ ((evs p).getD m default).Index = (stK s n : Int))) (.gdD ⟨by omega,hm⟩ (.bif (fun hb => .gdD ⟨g1.1,by rw [h4]; exact g1.2⟩ (.pure ?_)) fun hb => .pure ?_)) fun b hb => ?_
     ·rw [hat]
      have hb : ((evs p).getD m default).Thread = s.getD n default := by simpa using hb
      simp only [hb,true_and]
      rfl
     ·have hb : ¬ ((evs p).getD m default).Thread = s.getD n default := by simpa using hb
      rw [decide_eq_false fun h => hb h.1]
     ·subst hb
      refine .bifD (fun hc => .gd (capOK_le (by rw [List.length_append]; omega) rfl) (.pure ?_)) fun hc => .pure ?_
      ·rw [if_pos hc,List.append_assoc]
      ·rw [if_neg hc,List.append_nil]
    ·simp only [] at hm
     have : m = (evs p).length := by omega
     subst this
     simp only [List.take_length]
     show _ = ordF p s n ++ stepN p (stT s n) (stK s n)
     congr 1
     have := fnd_evP p (stT s n) (stK s n) p.length
     unfold stT at this
     rw [em] at this
     show fnd _ _ 0 (evP p p.length) = _
     rw [this]
     unfold stepN stT
     by_cases ho : ((p.getD (s.getD n default).toNat default).getD (stK s n) default).Op = 4
     ·rw [if_neg fun h => h.2.2 ho,if_pos ho]
     ·rw [if_pos ⟨ht,g2,ho⟩,if_neg ho]
   ·simp only [Int.toNat_natCast]
    rw [getD_set_eq (by rw [h4]; exact ht),take_count (by omega),hat]
    by_cases e : t = (s.getD n default).toNat
    ·have e' : s.getD n default = (t : Int) := by omega
     rw [if_pos e,if_pos e',e']
     omega
    ·have e' : ¬ s.getD n default = (t : Int) := by omega
     rw [if_neg e,if_neg e',h5 t htp]
     rfl
  ·simp only [] at hk
   have : n = s.length := by omega
   subst this
   rfl
end
end Go.Proofs.Ytlmjnhnpahicmaa
