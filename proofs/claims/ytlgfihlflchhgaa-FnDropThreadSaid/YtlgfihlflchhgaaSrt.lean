/-
 Lists of numbers compared, and sorted. Plain theorems. No conditions.
-/
import Derived.Test.YtlgfihlflchhgaaL28
namespace Go.Proofs.Ytlgfihlflchhgaa
open Go.RowKit
set_option maxRecDepth 100000
def cmpL:List Int->List Int->Int
 | [],[]=>0
 | [],_::_ => -1
 | _::_,[]=>1
 | a::l,b::k=>if a<b then -1 else if b<a then 1 else cmpL l k
theorem cmpL_refl:∀ l,cmpL l l=0
 | []=>rfl
 | a::l=>by rw [cmpL,if_neg (Int.lt_irrefl _),if_neg (Int.lt_irrefl _),cmpL_refl l]
theorem cmpL_neg:∀ l k,cmpL k l = - cmpL l k
 | [],[]=>rfl
 | [],_::_=>rfl
 | _::_,[]=>rfl
 | a::l,b::k=>by
  rw [cmpL,cmpL]
  by_cases h:a<b
  ·rw [if_pos h,if_pos h,if_neg (by omega)]
   rfl
  ·rw [if_neg h,if_neg h]
   by_cases h2:b<a
   ·rw [if_pos h2,if_pos h2]
   ·rw [if_neg h2,if_neg h2,cmpL_neg l k]
theorem cmpL_eq:∀ {l k},cmpL l k=0->l=k
 | [],[],_=>rfl
 | [],_::_,h=>by cases h
 | _::_,[],h=>by cases h
 | a::l,b::k,h=>by
  rw [cmpL] at h
  split at h
  ·cases h
  ·split at h
   ·cases h
   ·rw [cmpL_eq h]
    congr 1
    omega
theorem cmpL_trans:∀ {l k m},cmpL l k<0->cmpL k m<0->cmpL l m<0
 | [],[],_,h,_=>by cases h
 | [],_::_,[],_,h=>by simp [cmpL] at h
 | [],_::_,_::_,_,_=>by simp [cmpL]
 | _::_,[],_,h,_=>by simp [cmpL] at h
 | _::_,_::_,[],_,h=>by simp [cmpL] at h
 | a::l,b::k,c::m,h1,h2=>by
  rw [cmpL] at h1 h2 ⊢
  by_cases e1:a<b
  ·by_cases e2:c<b
   ·rw [if_neg (by omega),if_pos e2] at h2
    cases h2
   ·rw [if_pos (by omega)]
    decide
  ·rw [if_neg e1] at h1
   by_cases e2:b<a
   ·rw [if_pos e2] at h1
    cases h1
   ·rw [if_neg e2] at h1
    obtain rfl:a=b:=by omega
    by_cases e3:a<c
    ·rw [if_pos e3]
     decide
    ·rw [if_neg e3] at h2 ⊢
     by_cases e4:c<a
     ·rw [if_pos e4] at h2
      cases h2
     ·rw [if_neg e4] at h2 ⊢
      exact cmpL_trans h1 h2
theorem cmpL_tri (l k:List Int):cmpL l k<0\/l=k\/cmpL k l<0:=by
 have := cmpL_neg l k
 rcases Int.lt_trichotomy (cmpL l k) 0 with h | h | h
 ·exact .inl h
 ·exact .inr (.inl (cmpL_eq h))
 ·exact .inr (.inr (by omega))
def leL (x y:List Int):Bool:=decide (¬ cmpL y x<0)
def srtL (l:List (List Int)):List (List Int):=l.mergeSort leL
theorem leL_total (x y:List Int):(leL x y||leL y x)=true:=by
 unfold leL
 rw [Bool.or_eq_true,decide_eq_true_eq,decide_eq_true_eq]
 rcases cmpL_tri x y with h | h | h
 ·left;have := cmpL_neg x y;omega
 ·left;rw [h,cmpL_refl];decide
 ·right;have := cmpL_neg x y;omega
theorem leL_trans (x y z:List Int) (h1:leL x y=true) (h2:leL y z=true):leL x z=true:=by
 unfold leL at *
 rw [decide_eq_true_eq] at *
 intro h
 rcases cmpL_tri x y with g | g | g
 ·rcases cmpL_tri y z with g2 | g2 | g2
  ·exact h2 (cmpL_trans h g)
  ·rw [g2] at h1;exact h1 h
  ·exact h2 g2
 ·rw [g] at h;exact h2 h
 ·exact h1 g
theorem leL_anti (x y:List Int) (h1:leL x y=true) (h2:leL y x=true):x=y:=by
 unfold leL at *
 rw [decide_eq_true_eq] at *
 rcases cmpL_tri x y with h | h | h
 ·exact absurd h h2
 ·exact h
 ·exact absurd h h1
theorem srtL_perm (l:List (List Int)):(srtL l).Perm l:=List.mergeSort_perm l leL
theorem srtL_sorted (l:List (List Int)):(srtL l).Pairwise fun x y=>leL x y=true:=List.pairwise_mergeSort leL_trans leL_total l
theorem sorted_uniq:∀ {l k:List (List Int)},l.Perm k->l.Pairwise (fun x y=>leL x y=true)->k.Pairwise (fun x y=>leL x y=true)->l=k
 | [],k,h,_,_=>h.nil_eq
 | a::l,[],h,_,_=>absurd h.length_eq (by simp)
 | a::l,b::k,h,h1,h2=>by
  have hab:a=b:=by
   rcases List.mem_cons.1 (h.subset (List.mem_cons_self)) with e | e
   ·exact e
   ·rcases List.mem_cons.1 (h.symm.subset (List.mem_cons_self)) with e2 | e2
    ·exact e2.symm
    ·exact leL_anti a b ((List.pairwise_cons.1 h1).1 b e2) ((List.pairwise_cons.1 h2).1 a e)
  subst hab
  rw [sorted_uniq (List.perm_cons a |>.1 h) (List.pairwise_cons.1 h1).2 (List.pairwise_cons.1 h2).2]
def F_slices_SortFunc (l:List (List Int)):Option (List (List Int)):=gd (decide (l.length<4611686018427387904)) (some (srtL l))
theorem F_slices_SortFunc_nil {l q:List (List Int)} (h:l=[]) (c:F_slices_SortFunc l=some q):q=[]:=by
 subst h
 obtain ⟨_,c⟩:=gdD c
 rw [<- Option.some.inj c]
 exact (srtL_perm []).eq_nil
theorem F_slices_SortFunc_len {l q:List (List Int)} (c:F_slices_SortFunc l=some q):q.length=l.length:=by
 obtain ⟨_,c⟩:=gdD c
 rw [<- Option.some.inj c]
 exact (srtL_perm l).length_eq
end Go.Proofs.Ytlgfihlflchhgaa
