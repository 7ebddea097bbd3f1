/-
 What the candidate of a whole schedule is like: each location's order, what each event reads from. Plain theorems. No conditions.
-/
import Derived.Test.YtlmjnhnpahicmaaD27
namespace Go.Proofs.Ytlmjnhnpahicmaa
open Go.RowKit
set_option maxRecDepth 100000
theorem snoc_ind {α : Type} {Q : List α -> Prop} (h0 : Q []) (hs : ∀ l a,Q l -> Q (l ++ [a])) (l : List α) : Q l := by
 have key : ∀ m : List α,Q m.reverse := fun m => by
  induction m with
  | nil => exact h0
  | cons a m ih => rw [List.reverse_cons]; exact hs _ _ ih
 have h := key l.reverse
 rwa [List.reverse_reverse] at h
section
variable {p : List (List ZIn)}
def ev (p : List (List ZIn)) (n : Int) : ZEv := (evs p).getD n.toNat default
def Wl (p : List (List ZIn)) (l : Int) (n : Int) : Bool := (ev p n).Writes && decide ((ev p n).Loc = l)
theorem run_ord (o : List Int) : (∀ n ∈ o,OkN p n) -> ∀ l : Nat,l < 3 -> (runX p o).2.getD l [] = (l : Int) :: o.filter (Wl p (l : Int)) := by
 induction o using snoc_ind with
 | h0 =>
  intro _ l hl
  match l,hl with
  | 0,_ => rfl
  | 1,_ => rfl
  | 2,_ => rfl
 | hs o n ih =>
  intro hok l hl
  have hok' : ∀ m ∈ o,OkN p m := fun m hm => hok m (List.mem_append_left _ hm)
  have ih := ih hok'
  obtain ⟨h1,h2,h3⟩ := hok n (by simp)
  have hin := InX.run hok'
  have hloc : (((evs p).getD n.toNat default).Loc.toNat : Int) = ((evs p).getD n.toNat default).Loc := Int.toNat_of_nonneg h2
  rw [runX_snoc]
  unfold stX
  simp only []
  rw [getD_setL (by rw [hin.o]; omega),List.filter_append]
  by_cases e : l = ((evs p).getD n.toNat default).Loc.toNat
  ·subst e
   rw [if_pos rfl,ih _ (by omega)]
   by_cases hw : ((evs p).getD n.toNat default).Writes = true
   ·have : Wl p (((evs p).getD n.toNat default).Loc.toNat : Int) n = true := by
     unfold Wl ev
     rw [hw,hloc]
     simp
    rw [if_pos hw,List.filter_cons_of_pos this]
    rfl
   ·have : ¬ Wl p (((evs p).getD n.toNat default).Loc.toNat : Int) n = true := by
     unfold Wl ev
     rw [Bool.eq_false_iff.2 hw]
     simp
    rw [if_neg hw,List.filter_cons_of_neg this]
    simp
  ·have : ¬ Wl p (l : Int) n = true := by
    unfold Wl ev
    simp only [Bool.and_eq_true,decide_eq_true_eq,not_and]
    intro _ hc
    exact e (by omega)
   rw [if_neg e,ih l hl,List.filter_cons_of_neg this]
   simp
theorem run_len (o : List Int) (h : ∀ n ∈ o,OkN p n) : (runX p o).1.length = (evs p).length /\ (runX p o).2.length = 3 := ⟨(InX.run h).f,(InX.run h).o⟩
theorem run_from (o : List Int) : o.Nodup -> (∀ n ∈ o,OkN p n) -> (∀ i : Int,i ∈ o -> (ev p i).Reads = true -> ∃ o1 o2,o = o1 ++ i :: o2 /\ (runX p o).1.getD i.toNat default = ((ev p i).Loc :: o1.filter (Wl p (ev p i).Loc)).getD (o1.filter (Wl p (ev p i).Loc)).length default) /\
  ∀ i : Nat,i < (evs p).length -> ¬ ((i : Int) ∈ o /\ (ev p i).Reads = true) -> (runX p o).1.getD i default = -1 := by
 induction o using snoc_ind with
 | h0 =>
  intro _ _
  refine ⟨fun i hi => by simp at hi,fun i hi _ => ?_⟩
  show (List.replicate (evs p).length (-1 : Int)).getD i default = -1
  rw [List.getD_eq_getElem?_getD,List.getElem?_replicate,if_pos hi]
  rfl
 | hs o n ih =>
  intro hnd hok
  have hok' : ∀ m ∈ o,OkN p m := fun m hm => hok m (List.mem_append_left _ hm)
  obtain ⟨hnd1,_,hnd2⟩ := List.nodup_append.1 hnd
  have hno : n ∉ o := fun hm => hnd2 n hm n (by simp) rfl
  obtain ⟨ih1,ih2⟩ := ih hnd1 hok'
  obtain ⟨h1,h2,h3⟩ := hok n (by simp)
  have hin := InX.run hok'
  have hloc : (((evs p).getD n.toNat default).Loc.toNat : Int) = ((evs p).getD n.toNat default).Loc := Int.toNat_of_nonneg h2
  have hord := run_ord o hok' ((evs p).getD n.toNat default).Loc.toNat (by omega)
  rw [runX_snoc]
  unfold stX
  simp only []
  rw [hord]
  have key : ∀ j : Nat,(if ((evs p).getD n.toNat default).Reads = true then (runX p o).1.set n.toNat (((((evs p).getD n.toNat default).Loc.toNat : Int) :: o.filter (Wl p (((evs p).getD n.toNat default).Loc.toNat : Int))).getD (((((((evs p).getD n.toNat default).Loc.toNat : Int) :: o.filter (Wl p (((evs p).getD n.toNat default).Loc.toNat : Int))).length : Nat) : Int) - 1).toNat default) else (runX p o).1).getD j default =
    if j = n.toNat /\ (ev p n).Reads = true then ((ev p n).Loc :: o.filter (Wl p (ev p n).Loc)).getD (o.filter (Wl p (ev p n).Loc)).length default else (runX p o).1.getD j default := fun j => by
   rw [hloc]
   by_cases hr : ((evs p).getD n.toNat default).Reads = true
   ·rw [if_pos hr,getD_set_eq (by rw [hin.f]; omega)]
    by_cases e : j = n.toNat
    ·rw [if_pos e,if_pos ⟨e,hr⟩]
     unfold ev
     congr 1
     rw [List.length_cons]
     omega
    ·rw [if_neg e,if_neg fun h => e h.1]
   ·rw [if_neg hr,if_neg fun h => hr h.2]
  refine ⟨fun i hi hr => ?_,fun i hi hn => ?_⟩
  ·by_cases e : i = n
   ·subst e
    refine ⟨o,[],rfl,?_⟩
    rw [key,if_pos ⟨rfl,hr⟩]
   ·have hio : i ∈ o := by
     rcases List.mem_append.1 hi with h | h
     ·exact h
     ·exact absurd (List.mem_singleton.1 h) e
    obtain ⟨o1,o2,e1,e2⟩ := ih1 i hio hr
    refine ⟨o1,o2 ++ [n],by rw [e1]; simp,?_⟩
    have := (hok' i hio).1
    rw [key,if_neg (fun h => e (by omega)),e2]
  ·have e : ¬ (i = n.toNat /\ (ev p n).Reads = true) := fun h => hn ⟨by
    rw [show (i : Int) = n by omega]
    simp,by rw [show (i : Int) = n by omega]; exact h.2⟩
   rw [key,if_neg e]
   exact ih2 i hi fun h => hn ⟨List.mem_append_left _ h.1,h.2⟩
theorem evR_get (t : Nat) (row : List ZIn) : ∀ (r j : Nat),j < (evR t row r).length -> ∃ k,k < r /\ ¬ (row.getD k default).Op = 4 /\ j = (evR t row k).length
 | 0,j,h => by simp [evR] at h
 | r + 1,j,h => by
  rcases Nat.lt_or_ge j (evR t row r).length with hj | hj
  ·obtain ⟨k,h1,h2,h3⟩ := evR_get t row r j hj
   exact ⟨k,by omega,h2,h3⟩
  ·simp only [evR,List.length_append] at h
   have h1 := evI_len t r (row.getD r default)
   refine ⟨r,by omega,fun ho => ?_,by omega⟩
   have : (evI t r (row.getD r default)).length = 0 := by unfold evI; rw [if_pos ho]; rfl
   omega
theorem evP_get : ∀ (m n : Nat),n < (evP p m).length -> n < 3 \/ ∃ t k,t < m /\ k < (p.getD t default).length /\ ¬ ((p.getD t default).getD k default).Op = 4 /\ n = base p t k
 | 0,n,h => .inl h
 | m + 1,n,h => by
  rcases Nat.lt_or_ge n (evP p m).length with hn | hn
  ·rcases evP_get m n hn with h1 | ⟨t,k,h1,h2,h3,h4⟩
   ·exact .inl h1
   ·exact .inr ⟨t,k,by omega,h2,h3,h4⟩
  ·simp only [evP,List.length_append] at h
   obtain ⟨k,h1,h2,h3⟩ := evR_get m (p.getD m default) (p.getD m default).length (n - (evP p m).length) (by omega)
   exact .inr ⟨m,k,by omega,h1,h2,by unfold base; omega⟩
theorem base_ge (t k : Nat) : 3 <= base p t k := by
 have := (evP_pre p (Nat.zero_le t)).length_le
 have h3 : (evP p 0).length = 3 := rfl
 unfold base
 omega
structure Isn (p : List (List ZIn)) (a b : Nat) : Prop where
 t : a < p.length
 k : b < (p.getD a default).length
 o : ¬ ((p.getD a default).getD b default).Op = 4
def ins (p : List (List ZIn)) (t k : Nat) : ZIn := (p.getD t default).getD k default
theorem Isn.ev {t k : Nat} (h : Isn p t k) : ev p (base p t k : Int) = ⟨t,k,(ins p t k).Loc,rdX (ins p t k),wrX (ins p t k)⟩ /\ base p t k < (evs p).length := by
 have := num_ev h.t h.k h.o
 exact ⟨by unfold Go.Proofs.Ytlmjnhnpahicmaa.ev; rw [Int.toNat_natCast]; exact this.1,this.2⟩
theorem ev_init {l : Nat} (hl : l < 3) : ev p (l : Int) = ⟨-1,l,l,false,true⟩ /\ l < (evs p).length := by
 obtain ⟨h1,h2⟩ := pre_getD (evP_pre p (Nat.zero_le p.length)) (i:=l) (by exact hl)
 refine ⟨?_,h2⟩
 unfold ev
 rw [Int.toNat_natCast]
 refine h1.trans ?_
 match l,hl with
 | 0,_ => rfl
 | 1,_ => rfl
 | 2,_ => rfl
theorem ev_cases {n : Int} (h0 : 0 <= n) (h : n < ((evs p).length : Int)) : n < 3 \/ ∃ t k,Isn p t k /\ n = (base p t k : Int) := by
 rcases evP_get p.length n.toNat (by show _ < (evs p).length; omega) with h1 | ⟨t,k,h1,h2,h3,h4⟩
 ·exact .inl (by omega)
 ·exact .inr ⟨t,k,⟨h1,h2,h3⟩,by omega⟩
theorem base_inj {t k t' k' : Nat} (h : Isn p t k) (h' : Isn p t' k') (e : base p t k = base p t' k') : t = t' /\ k = k' := by
 have h1 := h.ev.1
 rw [e,h'.ev.1] at h1
 injection h1 with e1 e2
 exact ⟨by omega,by omega⟩
structure OrdI (p : List (List ZIn)) (s : List Int) (m : Nat) : Prop where
 mem : ∀ n : Int,n ∈ ordF p s m ↔ ∃ t k : Nat,Isn p t k /\ k < (s.take m).count (t : Int) /\ n = (base p t k : Int)
 pw : (ordF p s m).Pairwise fun i k => i ≠ k /\ ((ev p i).Thread = (ev p k).Thread -> (ev p i).Index < (ev p k).Index)
theorem OrdI.all {s : List Int} (hg : Good p s s.length) : ∀ {m : Nat},m <= s.length -> OrdI p s m
 | 0,_ => ⟨fun n => ⟨fun h => by simp [ordF] at h,fun ⟨t,k,_,h,_⟩ => by simp at h⟩,by simp [ordF]⟩
 | m + 1,hm => by
  have ih := OrdI.all hg (m:=m) (by omega)
  obtain ⟨g1,g2,g3⟩ := good_at hg (j:=m) (by omega)
  have hc : ∀ v : Int,(s.take (m + 1)).count v = (s.take m).count v + if s.getD m default = v then 1 else 0 := fun v => take_count (by omega) v
  have hk : stK s m = (s.take m).count ((stT s m : Nat) : Int) := by rw [g2]; rfl
  have new : ∀ n : Int,n ∈ stepN p (stT s m) (stK s m) ↔ Isn p (stT s m) (stK s m) /\ n = (base p (stT s m) (stK s m) : Int) := fun n => by
   unfold stepN
   split
   ·rename_i ho
    exact ⟨fun h => by simp at h,fun h => absurd ho h.1.o⟩
   ·rename_i ho
    rw [List.mem_singleton]
    exact ⟨fun h => ⟨⟨g1,g3,ho⟩,h⟩,fun h => h.2⟩
  refine ⟨fun n => ?_,?_⟩
  ·simp only [ordF,List.mem_append,new,ih.mem]
   constructor
   ·rintro (⟨t,k,h1,h2,h3⟩ | ⟨h1,h2⟩)
    ·exact ⟨t,k,h1,by rw [hc]; omega,h3⟩
    ·exact ⟨_,_,h1,by rw [hc,if_pos g2.symm]; omega,h2⟩
   ·rintro ⟨t,k,h1,h2,h3⟩
    rw [hc] at h2
    by_cases e : s.getD m default = (t : Int)
    ·rw [if_pos e] at h2
     have ht : stT s m = t := by omega
     subst ht
     rcases Nat.lt_or_ge k ((s.take m).count ((stT s m : Nat) : Int)) with hlt | hge
     ·exact .inl ⟨_,k,h1,hlt,h3⟩
     ·have : k = stK s m := by omega
      subst this
      exact .inr ⟨h1,h3⟩
    ·rw [if_neg e] at h2
     exact .inl ⟨t,k,h1,by omega,h3⟩
  ·simp only [ordF]
   refine List.pairwise_append.2 ⟨ih.pw,?_,fun a ha b hb => ?_⟩
   ·unfold stepN
    split <;> simp
   ·obtain ⟨t,k,h1,h2,rfl⟩ := (ih.mem a).1 ha
    obtain ⟨h3,rfl⟩ := (new b).1 hb
    have key : t = stT s m -> k < stK s m := fun e => by rw [hk,<- e]; exact h2
    refine ⟨fun e => ?_,fun e => ?_⟩
    ·obtain ⟨e1,e2⟩ := base_inj h1 h3 (by omega)
     have := key e1
     omega
    ·rw [h1.ev.1,h3.ev.1] at e ⊢
     simp only at e ⊢
     have := key (by omega)
     omega
theorem W3 : ∀ l : Nat,l < 3 -> ([0,1,2] : List Int).filter (Wl p (l : Int)) = [(l : Int)] := fun l hl => by
 have w : ∀ j : Nat,j < 3 -> Wl p (l : Int) (j : Int) = decide ((j : Int) = (l : Int)) := fun j hj => by
  unfold Wl
  rw [(ev_init (p:=p) hj).1]
  simp
 have w0 : Wl p (l : Int) 0 = decide ((0 : Int) = (l : Int)) := w 0 (by omega)
 have w1 : Wl p (l : Int) 1 = decide ((1 : Int) = (l : Int)) := w 1 (by omega)
 have w2 : Wl p (l : Int) 2 = decide ((2 : Int) = (l : Int)) := w 2 (by omega)
 match l,hl with
 | 0,_ =>
  have a0 : Wl p (0 : Int) 0 = true := w0
  have a1 : Wl p (0 : Int) 1 = false := w1
  have a2 : Wl p (0 : Int) 2 = false := w2
  simp [a0,a1,a2]
 | 1,_ =>
  have a0 : Wl p (1 : Int) 0 = false := w0
  have a1 : Wl p (1 : Int) 1 = true := w1
  have a2 : Wl p (1 : Int) 2 = false := w2
  simp [a0,a1,a2]
 | 2,_ =>
  have a0 : Wl p (2 : Int) 0 = false := w0
  have a1 : Wl p (2 : Int) 1 = false := w1
  have a2 : Wl p (2 : Int) 2 = true := w2
  simp [a0,a1,a2]
abbrev rk (F : List Int) (n : Int) : Nat := F.idxOf n
structure RunOf (p : List (List ZIn)) (x : XS) (F : List Int) : Prop where
 ini : ∃ o,F = [0,1,2] ++ o
 nd : F.Nodup
 mem : ∀ n : Int,n ∈ F ↔ 0 <= n /\ n < ((evs p).length : Int)
 po : ∀ i k : Int,i ∈ F -> k ∈ F -> 0 <= (ev p i).Thread -> (ev p i).Thread = (ev p k).Thread -> (ev p i).Index < (ev p k).Index -> rk F i < rk F k
 ord : ∀ l : Nat,l < 3 -> x.2.getD l [] = F.filter (Wl p (l : Int))
 flen : x.1.length = (evs p).length
 olen : x.2.length = 3
 frm : ∀ i : Int,i ∈ F -> (ev p i).Reads = true -> ∃ c,c < (F.filter (Wl p (ev p i).Loc)).length /\ x.1.getD i.toNat default = (F.filter (Wl p (ev p i).Loc)).getD c default /\ ∀ q,q < (F.filter (Wl p (ev p i).Loc)).length -> (q <= c ↔ rk F ((F.filter (Wl p (ev p i).Loc)).getD q default) < rk F i)
 frN : ∀ i : Int,i ∈ F -> (ev p i).Reads = false -> x.1.getD i.toNat default = -1
theorem whole_run (hp : PV p) {s : List Int} (hw : Whole p s) : RunOf p (runX p (ordF p s s.length)) ([0,1,2] ++ ordF p s s.length) := by
 obtain ⟨_,hg,hc⟩ := hw
 have hI := OrdI.all hg (Nat.le_refl s.length)
 have hok := ord_ok hp hg (Nat.le_refl s.length)
 have hmem : ∀ n : Int,n ∈ ordF p s s.length ↔ 3 <= n /\ n < ((evs p).length : Int) := fun n => by
  rw [hI.mem]
  constructor
  ·rintro ⟨t,k,h1,_,rfl⟩
   have := base_ge (p:=p) t k
   have := h1.ev.2
   omega
  ·rintro ⟨h1,h2⟩
   rcases ev_cases (by omega) h2 with h3 | ⟨t,k,h3,rfl⟩
   ·omega
   ·exact ⟨t,k,h3,by rw [List.take_length,hc t h3.t]; exact h3.k,rfl⟩
 have hnd0 : (ordF p s s.length).Nodup := hI.pw.imp fun h => h.1
 have hF : ∀ n : Int,n ∈ [0,1,2] ++ ordF p s s.length ↔ 0 <= n /\ n < ((evs p).length : Int) := fun n => by
  have h3 := (ev_init (p:=p) (l:=2) (by omega)).2
  rw [List.mem_append,hmem]
  simp only [List.mem_cons,List.not_mem_nil,or_false]
  omega
 have hnd : ([0,1,2] ++ ordF p s s.length).Nodup := by
  refine List.nodup_append.2 ⟨by decide,hnd0,fun a ha b hb e => ?_⟩
  subst e
  have := (hmem a).1 hb
  simp only [List.mem_cons,List.not_mem_nil,or_false] at ha
  omega
 have hpw := hI.pw
 generalize ho : ordF p s s.length = o at *
 have hW := W3 (p:=p)
 obtain ⟨f1,f2⟩ := run_from o hnd0 hok
 obtain ⟨l1,l2⟩ := run_len o hok
 refine ⟨⟨o,rfl⟩,hnd,hF,fun i k hi hk h0 he hlt => ?_,fun l hl => ?_,l1,l2,fun i hi hr => ?_,fun i hi hr => ?_⟩
 ·-- a thread's events come in their order
  have nz : ∀ n : Int,n ∈ [0,1,2] ++ o -> 0 <= (ev p n).Thread -> n ∉ ([0,1,2] : List Int) /\ n ∈ o := fun n hn ht => by
   obtain ⟨g1,g2⟩ := (hF n).1 hn
   rcases ev_cases g1 g2 with g3 | ⟨t,k,g3,rfl⟩
   ·have := (ev_init (p:=p) (l:=n.toNat) (by omega)).1
    rw [Int.toNat_of_nonneg g1] at this
    rw [this] at ht
    simp at ht
   ·have := base_ge (p:=p) t k
    refine ⟨fun h => ?_,(hmem _).2 ⟨by omega,g2⟩⟩
    simp only [List.mem_cons,List.not_mem_nil,or_false] at h
    omega
  obtain ⟨a1,a2⟩ := nz i hi h0
  obtain ⟨b1,b2⟩ := nz k hk (by omega)
  unfold rk
  rw [List.idxOf_append,if_neg a1,List.idxOf_append,if_neg b1]
  have pw := List.pairwise_iff_getElem.1 hpw
  have la := List.idxOf_lt_length_of_mem a2
  have lb := List.idxOf_lt_length_of_mem b2
  have ga : o[o.idxOf i] = i := List.getElem_idxOf la
  have gb : o[o.idxOf k] = k := List.getElem_idxOf lb
  rcases Nat.lt_trichotomy (o.idxOf i) (o.idxOf k) with h | h | h
  ·omega
  ·exfalso
   have : i = k := by rw [<- ga,<- gb]; simp only [h]
   subst this
   omega
  ·exfalso
   have := (pw _ _ lb la h).2
   rw [ga,gb] at this
   have := this he.symm
   omega
 ·rw [run_ord o hok l hl,List.filter_append,hW l hl]
  rfl
 ·have hio : i ∈ o := by
   rcases List.mem_append.1 hi with h | h
   ·exfalso
    obtain ⟨g1,g2⟩ := (hF i).1 hi
    have g3 : i < 3 := by
     simp only [List.mem_cons,List.not_mem_nil,or_false] at h
     omega
    have := (ev_init (p:=p) (l:=i.toNat) (by omega)).1
    rw [Int.toNat_of_nonneg g1] at this
    rw [this] at hr
    cases hr
   ·exact h
  obtain ⟨o1,o2,e1,e2⟩ := f1 i hio hr
  have hloc := hok i hio
  have hl3 : ((ev p i).Loc.toNat : Int) = (ev p i).Loc := Int.toNat_of_nonneg hloc.2.1
  have hA : ([0,1,2] ++ o1).filter (Wl p (ev p i).Loc) = (ev p i).Loc :: o1.filter (Wl p (ev p i).Loc) := by
   have := hW (ev p i).Loc.toNat (by have := hloc.2.2; unfold ev; omega)
   rw [hl3] at this
   rw [List.filter_append,this]
   rfl
  have hsp : [0,1,2] ++ o = ([0,1,2] ++ o1) ++ i :: o2 := by rw [e1]; simp
  have hfl : ([0,1,2] ++ o).filter (Wl p (ev p i).Loc) = ((ev p i).Loc :: o1.filter (Wl p (ev p i).Loc)) ++ (i :: o2).filter (Wl p (ev p i).Loc) := by rw [hsp,List.filter_append,hA]
  have hdj : ∀ a,a ∈ [0,1,2] ++ o1 -> ∀ b,b ∈ i :: o2 -> a ≠ b := by
   have := hnd
   rw [hsp] at this
   exact (List.nodup_append.1 this).2.2
  have hi1 : i ∉ [0,1,2] ++ o1 := fun h => hdj i h i (by simp) rfl
  have rki : rk ([0,1,2] ++ o) i = ([0,1,2] ++ o1).length := by
   unfold rk
   rw [hsp,List.idxOf_append,if_neg hi1,List.idxOf_cons_self]
   omega
  refine ⟨(o1.filter (Wl p (ev p i).Loc)).length,?_,?_,fun q hq => ?_⟩
  ·rw [hfl,List.length_append,List.length_cons]
   omega
  ·rw [e2,hfl,List.getD_eq_getElem?_getD,List.getD_eq_getElem?_getD,List.getElem?_append_left (by simp)]
  ·rw [rki]
   have hq' := hq
   rw [hfl] at hq'
   constructor
   ·intro hle
    have hm : (([0,1,2] ++ o).filter (Wl p (ev p i).Loc)).getD q default ∈ [0,1,2] ++ o1 := by
     rw [hfl,List.getD_eq_getElem?_getD,List.getElem?_append_left (by simp; omega),<- hA,List.getElem?_eq_getElem (by rw [hA]; simp; omega)]
     exact (List.mem_filter.1 (List.getElem_mem _)).1
    unfold rk
    rw [hsp,List.idxOf_append,<- hsp,if_pos hm]
    exact List.idxOf_lt_length_of_mem hm
   ·intro hlt
    rcases Nat.lt_or_ge (o1.filter (Wl p (ev p i).Loc)).length q with hc | hc
    ·exfalso
     have hm : (([0,1,2] ++ o).filter (Wl p (ev p i).Loc)).getD q default ∈ i :: o2 := by
      have hq2 : q - ((ev p i).Loc :: o1.filter (Wl p (ev p i).Loc)).length < ((i :: o2).filter (Wl p (ev p i).Loc)).length := by
       rw [List.length_append] at hq'
       simp only [List.length_cons] at hq' ⊢
       omega
      rw [hfl,List.getD_eq_getElem?_getD,List.getElem?_append_right (by simp; omega),List.getElem?_eq_getElem hq2]
      exact (List.mem_filter.1 (List.getElem_mem _)).1
     have hn : (([0,1,2] ++ o).filter (Wl p (ev p i).Loc)).getD q default ∉ [0,1,2] ++ o1 := fun h => hdj _ h _ hm rfl
     unfold rk at hlt
     rw [hsp,List.idxOf_append,<- hsp,if_neg hn] at hlt
     omega
    ·exact hc
 ·obtain ⟨g1,g2⟩ := (hF i).1 hi
  exact f2 i.toNat (by omega) fun h => by
   rw [Int.toNat_of_nonneg g1] at h
   rw [hr] at h
   exact absurd h.2 (by decide)
end
end Go.Proofs.Ytlmjnhnpahicmaa
