/-
 States of a search for a schedule that leads to a candidate: those that are on the way, those that are lost. Plain theorems. No conditions.
-/
import Derived.Test.YtlmjnhnpahicmaaDt1
namespace Go.Proofs.Ytlmjnhnpahicmaa
open Go.RowKit
set_option maxRecDepth 100000
theorem filter_down {α : Type} {P : α -> Bool} [Inhabited α] : ∀ {l : List α},(∀ q r,q < r -> r < l.length -> P (l.getD r default) = true -> P (l.getD q default) = true) -> ∀ q,q < l.length -> (P (l.getD q default) = true ↔ q < (l.filter P).length)
 | [],_,q,hq => by simp at hq
 | a :: l,h,q,hq => by
  have hs : ∀ q r,q < r -> r < l.length -> P (l.getD r default) = true -> P (l.getD q default) = true := fun q r h1 h2 h3 => h (q + 1) (r + 1) (by omega) (by simp; omega) h3
  by_cases ha : P a = true
  ·rw [List.filter_cons_of_pos ha]
   cases q with
   | zero => exact ⟨fun _ => by simp,fun _ => ha⟩
   | succ q =>
    have := filter_down hs q (by simpa using hq)
    simp only [List.length_cons,Nat.add_lt_add_iff_right]
    exact this
  ·rw [List.filter_cons_of_neg ha]
   have hn : l.filter P = [] := List.filter_eq_nil_iff.2 fun b hb hb2 => by
    obtain ⟨r,hr,e⟩ := List.getElem_of_mem hb
    refine ha (h 0 (r + 1) (by omega) (by simp; omega) ?_)
    show P (l.getD r default) = true
    rw [List.getD_eq_getElem?_getD,List.getElem?_eq_getElem hr]
    exact e ▸ hb2
   rw [hn]
   refine ⟨fun hq2 => ?_,fun hq2 => by simp at hq2⟩
   cases q with
   | zero => exact absurd hq2 ha
   | succ q =>
    have := (filter_down hs q (by simpa using hq)).1 hq2
    rw [hn] at this
    simp at this
theorem filter_more {α : Type} {P Q : α -> Bool} {n : α} : ∀ {l : List α},(∀ a ∈ l,P a = true -> Q a = true) -> (l.filter P).length <= (l.filter Q).length /\ (n ∈ l -> P n = false -> Q n = true -> (l.filter P).length + 1 <= (l.filter Q).length)
 | [],_ => ⟨Nat.le_refl _,fun h => by simp at h⟩
 | a :: l,h => by
  obtain ⟨h1,h2⟩ := filter_more (n:=n) (l:=l) fun b hb => h b (List.mem_cons_of_mem _ hb)
  have ha := h a (List.mem_cons_self)
  by_cases hp : P a = true
  ·have hq := ha hp
   rw [List.filter_cons_of_pos hp,List.filter_cons_of_pos hq]
   refine ⟨by simp; exact h1,fun hn h3 h4 => ?_⟩
   rcases List.mem_cons.1 hn with rfl | hn
   ·rw [hp] at h3; cases h3
   ·simp only [List.length_cons]
    have := h2 hn h3 h4
    omega
  ·rw [List.filter_cons_of_neg hp]
   by_cases hq : Q a = true
   ·rw [List.filter_cons_of_pos hq]
    exact ⟨by simp only [List.length_cons]; omega,fun _ _ _ => by simp only [List.length_cons]; omega⟩
   ·rw [List.filter_cons_of_neg hq]
    refine ⟨h1,fun hn h3 h4 => ?_⟩
    rcases List.mem_cons.1 hn with rfl | hn
    ·exact absurd h4 hq
    ·exact h2 hn h3 h4
theorem min_of {α : Type} (f : α -> Nat) (Q : α -> Prop) (h : ∃ a,Q a) : ∃ a,Q a /\ ∀ b,Q b -> f a <= f b := by
 obtain ⟨a,ha⟩ := h
 have key : ∀ n a,Q a -> f a <= n -> ∃ a,Q a /\ ∀ b,Q b -> f a <= f b := fun n => by
  induction n with
  | zero => exact fun a ha hn => ⟨a,ha,fun b _ => by omega⟩
  | succ n ih =>
   intro a ha hn
   by_cases hc : ∃ b,Q b /\ f b < f a
   ·obtain ⟨b,hb,hlt⟩ := hc
    exact ih b hb (by omega)
   ·exact ⟨a,ha,fun b hb => Nat.le_of_not_lt fun hlt => hc ⟨b,hb,hlt⟩⟩
 exact key (f a) a ha (Nat.le_refl _)
section
variable {p : List (List ZIn)} {x : XS} {F : List Int}
def dn (p : List (List ZIn)) (a : Nat -> Nat) (n : Int) : Bool := decide ((ev p n).Thread < 0) || decide ((ev p n).Index < (a (ev p n).Thread.toNat : Int))
def od (x : XS) (l : Int) : List Int := x.2.getD l.toNat []
def plc (l : List Int) (n : Int) : Int := if n ∈ l then (l.idxOf n : Int) else -1
def poB (p : List (List ZIn)) (i k : Int) : Bool := (decide ((ev p i).Thread = (ev p k).Thread) && decide (0 <= (ev p i).Thread)) && decide ((ev p i).Index < (ev p k).Index)
def rfB (p : List (List ZIn)) (x : XS) (i k : Int) : Bool := (ev p k).Reads && decide (x.1.getD k.toNat default = i)
def coB (p : List (List ZIn)) (x : XS) (i k : Int) : Bool := (((ev p i).Writes && (ev p k).Writes) && decide ((ev p i).Loc = (ev p k).Loc)) && decide (plc (od x (ev p i).Loc) i < plc (od x (ev p i).Loc) k)
def frB (p : List (List ZIn)) (x : XS) (i k : Int) : Bool := ((((ev p i).Reads && (ev p k).Writes) && decide ((ev p i).Loc = (ev p k).Loc)) && !decide (i = k)) && decide (plc (od x (ev p i).Loc) (x.1.getD i.toNat default) < plc (od x (ev p i).Loc) k)
def bef (p : List (List ZIn)) (x : XS) (i k : Int) : Bool := ((poB p i k || rfB p x i k) || coB p x i k) || frB p x i k
theorem ev_loc (hp : PV p) {n : Int} (h0 : 0 <= n) (h : n < ((evs p).length : Int)) : 0 <= (ev p n).Loc /\ (ev p n).Loc <= 2 := by
 rcases ev_cases h0 h with h3 | ⟨t,k,h3,rfl⟩
 ·have := (ev_init (p:=p) (l:=n.toNat) (by omega)).1
  rw [Int.toNat_of_nonneg h0] at this
  rw [this]
  simp only []
  omega
 ·rw [h3.ev.1]
  have := hp.ins t k h3.t h3.k
  exact ⟨this.1,this.2.1⟩
theorem getD_idx {l : List Int} {n : Int} (h : n ∈ l) : l.getD (l.idxOf n) default = n := by
 have := List.idxOf_lt_length_of_mem h
 rw [List.getD_eq_getElem?_getD,List.getElem?_eq_getElem this]
 exact List.getElem_idxOf this
theorem idx_getD {l : List Int} (h : l.Nodup) {q : Nat} (hq : q < l.length) : l.idxOf (l.getD q default) = q /\ l.getD q default ∈ l := by
 rw [List.getD_eq_getElem?_getD,List.getElem?_eq_getElem hq]
 exact ⟨List.Nodup.idxOf_getElem h q hq,List.getElem_mem hq⟩
theorem plc_mem {l : List Int} {n : Int} (h : n ∈ l) : plc l n = (l.idxOf n : Int) := if_pos h
structure OdI (p : List (List ZIn)) (F L : List Int) (l : Int) : Prop where
 nd : L.Nodup
 mem : ∀ n,n ∈ L ↔ n ∈ F /\ (ev p n).Writes = true /\ (ev p n).Loc = l
 rk : ∀ q r,q < r -> r < L.length -> rk F (L.getD q default) < rk F (L.getD r default)
theorem RunOf.od (R : RunOf p x F) (l : Int) (hl : 0 <= l /\ l <= 2) : OdI p F (od x l) l /\ Go.Proofs.Ytlmjnhnpahicmaa.od x l = F.filter (Wl p l) := by
 have h : Go.Proofs.Ytlmjnhnpahicmaa.od x l = F.filter (Wl p l) := by
  have := R.ord l.toNat (by omega)
  rw [Int.toNat_of_nonneg hl.1] at this
  exact this
 refine ⟨⟨by rw [h]; exact R.nd.filter _,fun n => ?_,fun q r hqr hr => ?_⟩,h⟩
 ·rw [h,List.mem_filter]
  unfold Wl
  simp
 ·rw [h] at hr ⊢
  have pw : F.Pairwise fun i k => Go.Proofs.Ytlmjnhnpahicmaa.rk F i < Go.Proofs.Ytlmjnhnpahicmaa.rk F k := List.pairwise_iff_getElem.2 fun i j hi hj hij => by
   show F.idxOf F[i] < F.idxOf F[j]
   rw [List.Nodup.idxOf_getElem R.nd i hi,List.Nodup.idxOf_getElem R.nd j hj]
   exact hij
  have := List.pairwise_iff_getElem.1 (pw.filter (Wl p l)) q r (by omega) hr hqr
  rw [List.getD_eq_getElem?_getD,List.getD_eq_getElem?_getD,List.getElem?_eq_getElem hr,List.getElem?_eq_getElem (by omega)]
  exact this
theorem rk_inj {F : List Int} {i k : Int} (hi : i ∈ F) (hk : k ∈ F) (e : rk F i = rk F k) : i = k := by
 have h1 := getD_idx hi
 have h2 := getD_idx hk
 unfold rk at e
 rw [e,h2] at h1
 exact h1.symm
theorem RunOf.rd (hp : PV p) (R : RunOf p x F) {i : Int} (hi : i ∈ F) (hr : (ev p i).Reads = true) : ∃ c,c < (Go.Proofs.Ytlmjnhnpahicmaa.od x (ev p i).Loc).length /\ x.1.getD i.toNat default = (Go.Proofs.Ytlmjnhnpahicmaa.od x (ev p i).Loc).getD c default /\ ∀ q,q < (Go.Proofs.Ytlmjnhnpahicmaa.od x (ev p i).Loc).length -> (q <= c ↔ rk F ((Go.Proofs.Ytlmjnhnpahicmaa.od x (ev p i).Loc).getD q default) < rk F i) := by
 obtain ⟨h0,h1⟩ := (R.mem i).1 hi
 rw [(R.od _ (ev_loc hp h0 h1)).2]
 exact R.frm i hi hr
theorem bef_rk (hp : PV p) (R : RunOf p x F) {i k : Int} (hi : i ∈ F) (hk : k ∈ F) (h : bef p x i k = true) : rk F i < rk F k := by
 obtain ⟨i0,i1⟩ := (R.mem i).1 hi
 obtain ⟨k0,k1⟩ := (R.mem k).1 hk
 unfold bef at h
 simp only [Bool.or_eq_true] at h
 rcases h with ((h | h) | h) | h
 ·simp only [poB,Bool.and_eq_true,decide_eq_true_eq] at h
  exact R.po i k hi hk h.1.2 h.1.1 h.2
 ·simp only [rfB,Bool.and_eq_true,decide_eq_true_eq] at h
  obtain ⟨c,c1,c2,c3⟩ := R.rd hp hk h.1
  have := (c3 c c1).1 (Nat.le_refl _)
  rw [<- c2,h.2] at this
  exact this
 ·simp only [coB,Bool.and_eq_true,decide_eq_true_eq] at h
  obtain ⟨⟨⟨h1,h2⟩,h3⟩,h4⟩ := h
  have O := (R.od _ (ev_loc hp i0 i1)).1
  have mi := (O.mem i).2 ⟨hi,h1,rfl⟩
  have mk := (O.mem k).2 ⟨hk,h2,h3.symm⟩
  rw [plc_mem mi,plc_mem mk] at h4
  have := O.rk _ _ (by omega : List.idxOf i (Go.Proofs.Ytlmjnhnpahicmaa.od x (ev p i).Loc) < List.idxOf k (Go.Proofs.Ytlmjnhnpahicmaa.od x (ev p i).Loc)) (List.idxOf_lt_length_of_mem mk)
  rw [getD_idx mi,getD_idx mk] at this
  exact this
 ·simp only [frB,Bool.and_eq_true,decide_eq_true_eq,Bool.not_eq_true',decide_eq_false_iff_not] at h
  obtain ⟨⟨⟨⟨h1,h2⟩,h3⟩,h4⟩,h5⟩ := h
  have O := (R.od _ (ev_loc hp i0 i1)).1
  have mk := (O.mem k).2 ⟨hk,h2,h3.symm⟩
  obtain ⟨c,c1,c2,c3⟩ := R.rd hp hi h1
  obtain ⟨d1,d2⟩ := idx_getD O.nd c1
  rw [c2,plc_mem d2,plc_mem mk,d1] at h5
  have hq := List.idxOf_lt_length_of_mem mk
  have := mt (c3 _ hq).2 (by omega)
  rw [getD_idx mk] at this
  rcases Nat.lt_trichotomy (rk F i) (rk F k) with h6 | h6 | h6
  ·exact h6
  ·exact absurd (rk_inj hi hk h6) h4
  ·exact absurd h6 this
def dc (p : List (List ZIn)) (x : XS) (a : Nat -> Nat) (l : Int) : Nat := ((od x l).filter (dn p a)).length
def Closed (p : List (List ZIn)) (x : XS) (F : List Int) (a : Nat -> Nat) : Prop := ∀ i k : Int,i ∈ F -> k ∈ F -> bef p x i k = true -> dn p a k = true -> dn p a i = true
def ReadyE (p : List (List ZIn)) (x : XS) (F : List Int) (a : Nat -> Nat) (n : Int) : Prop := ∀ i : Int,i ∈ F -> bef p x i n = true -> dn p a i = true
def Dead (p : List (List ZIn)) (x : XS) (F : List Int) (a : Nat -> Nat) : Prop := ∃ i : Int,i ∈ F /\ (ev p i).Reads = true /\ dn p a i = false /\ ∃ c,c < (od x (ev p i).Loc).length /\ x.1.getD i.toNat default = (od x (ev p i).Loc).getD c default /\ c + 1 < dc p x a (ev p i).Loc
def CanE (p : List (List ZIn)) (x : XS) (a : Nat -> Nat) (n : Int) : Prop := ((ev p n).Reads = true -> x.1.getD n.toNat default = (od x (ev p n).Loc).getD (dc p x a (ev p n).Loc - 1) default) /\ ((ev p n).Writes = true -> (od x (ev p n).Loc).getD (dc p x a (ev p n).Loc) default = n)
def Behind (p : List (List ZIn)) (F : List Int) (a b : Nat -> Nat) (n : Option Int) : Prop := ∀ m ∈ F,(dn p b m = true ↔ dn p a m = true \/ n = some m)
theorem dc_pos (hp : PV p) (R : RunOf p x F) (a : Nat -> Nat) {l : Int} (hl : 0 <= l /\ l <= 2) : 1 <= dc p x a l /\ dc p x a l <= (od x l).length := by
 refine ⟨?_,List.length_filter_le _ _⟩
 obtain ⟨e1,e2⟩ := ev_init (p:=p) (l:=l.toNat) (by omega)
 rw [Int.toNat_of_nonneg hl.1] at e1
 have hm : l ∈ od x l := ((R.od l hl).1.mem l).2 ⟨(R.mem l).2 (by omega),by rw [e1],by rw [e1]⟩
 refine List.length_pos_iff.2 (List.ne_nil_of_mem (a:=l) (List.mem_filter.2 ⟨hm,?_⟩))
 unfold dn
 rw [e1]
 rfl
theorem prefix_is (hp : PV p) (R : RunOf p x F) {a : Nat -> Nat} (hc : Closed p x F a) {l : Int} (hl : 0 <= l /\ l <= 2) : ∀ q,q < (od x l).length -> (dn p a ((od x l).getD q default) = true ↔ q < dc p x a l) := by
 have O := (R.od l hl).1
 refine filter_down fun q r hqr hr hd => ?_
 obtain ⟨a1,a2⟩ := idx_getD O.nd hr
 obtain ⟨b1,b2⟩ := idx_getD O.nd (show q < (od x l).length by omega)
 obtain ⟨a3,a4,a5⟩ := (O.mem _).1 a2
 obtain ⟨b3,b4,b5⟩ := (O.mem _).1 b2
 refine hc _ _ b3 a3 ?_ hd
 unfold bef
 rw [Bool.or_eq_true,Bool.or_eq_true]
 refine .inl (.inr ?_)
 unfold coB
 rw [a4,b4,a5,b5,plc_mem a2,plc_mem b2,a1,b1]
 simp only [Bool.true_and,decide_true,decide_eq_true_eq]
 omega
theorem ready_can (hp : PV p) (R : RunOf p x F) {a : Nat -> Nat} (hc : Closed p x F a) {n : Int} (hn : n ∈ F) (hd : dn p a n = false) (hr : ReadyE p x F a n) : CanE p x a n := by
 obtain ⟨n0,n1⟩ := (R.mem n).1 hn
 have hl := ev_loc hp n0 n1
 have O := (R.od _ hl).1
 have P := prefix_is hp R hc hl
 obtain ⟨p1,p2⟩ := dc_pos hp R a hl
 refine ⟨fun h => ?_,fun h => ?_⟩
 ·obtain ⟨c,c1,c2,c3⟩ := R.rd hp hn h
  obtain ⟨d1,d2⟩ := idx_getD O.nd c1
  obtain ⟨d3,d4,d5⟩ := (O.mem _).1 d2
  have hb : dn p a ((od x (ev p n).Loc).getD c default) = true := hr _ d3 (by
   unfold bef rfB
   rw [h,c2]
   simp)
  have hlt := (P c c1).1 hb
  rcases Nat.lt_or_ge (c + 1) (dc p x a (ev p n).Loc) with h1 | h1
  ·exfalso
   have h2 : c + 1 < (od x (ev p n).Loc).length := by omega
   have hw := (P _ h2).2 h1
   obtain ⟨f1,f2⟩ := idx_getD O.nd h2
   obtain ⟨f3,f4,f5⟩ := (O.mem _).1 f2
   have : dn p a n = true := hc n _ hn f3 (by
    unfold bef
    rw [Bool.or_eq_true]
    refine .inr ?_
    unfold frB
    have hne : n ≠ (od x (ev p n).Loc).getD (c + 1) default := fun e => by rw [<- e,hd] at hw; cases hw
    rw [h,f4,f5,c2,plc_mem d2,plc_mem f2,d1,f1,decide_eq_false hne]
    simp only [Bool.true_and,decide_true,Bool.not_false,decide_eq_true_eq]
    omega) hw
   rw [hd] at this
   cases this
  ·rw [c2]
   congr 1
   omega
 ·have m := (O.mem n).2 ⟨hn,h,rfl⟩
  have hq := List.idxOf_lt_length_of_mem m
  have h1 : ¬ (od x (ev p n).Loc).idxOf n < dc p x a (ev p n).Loc := fun h1 => by
   have := (P _ hq).2 h1
   rw [getD_idx m,hd] at this
   cases this
  rcases Nat.lt_or_ge (dc p x a (ev p n).Loc) ((od x (ev p n).Loc).idxOf n) with h2 | h2
  ·exfalso
   have h3 : dc p x a (ev p n).Loc < (od x (ev p n).Loc).length := by omega
   obtain ⟨f1,f2⟩ := idx_getD O.nd h3
   obtain ⟨f3,f4,f5⟩ := (O.mem _).1 f2
   have := (P _ h3).1 (hr _ f3 (by
    unfold bef
    rw [Bool.or_eq_true,Bool.or_eq_true]
    refine .inl (.inr ?_)
    unfold coB
    rw [h,f4,f5,plc_mem m,plc_mem f2,f1]
    simp only [Bool.true_and,decide_true,decide_eq_true_eq]
    omega))
   omega
  ·have : dc p x a (ev p n).Loc = (od x (ev p n).Loc).idxOf n := by omega
   rw [this]
   exact getD_idx m
theorem dc_mono {a b : Nat -> Nat} (h : ∀ m ∈ F,dn p a m = true -> dn p b m = true) {l : Int} (hm : ∀ m ∈ od x l,m ∈ F) : dc p x a l <= dc p x b l := (filter_more (n:=0) fun m h1 h2 => h m (hm m h1) h2).1
theorem not_ready_dead (hp : PV p) (R : RunOf p x F) {a b : Nat -> Nat} (hc : Closed p x F a) {n : Int} (hn : n ∈ F) (hd : dn p a n = false) (hcan : CanE p x a n) (hnr : ¬ ReadyE p x F a n) (hpo : ∀ i : Int,i ∈ F -> poB p i n = true -> dn p a i = true) (hb : Behind p F a b (some n)) : Dead p x F b := by
 obtain ⟨n0,n1⟩ := (R.mem n).1 hn
 have hl := ev_loc hp n0 n1
 have O := (R.od _ hl).1
 have P := prefix_is hp R hc hl
 obtain ⟨p1,p2⟩ := dc_pos hp R a hl
 have hex : ∃ i : Int,i ∈ F /\ bef p x i n = true /\ dn p a i = false := by
  apply Classical.byContradiction
  intro hno
  refine hnr fun i hi hbi => ?_
  cases hdi : dn p a i with
  | true => rfl
  | false => exact absurd ⟨i,hi,hbi,hdi⟩ hno
 obtain ⟨i,hi,hbi,hdi⟩ := hex
 have atn : (ev p n).Writes = true -> n ∈ od x (ev p n).Loc /\ (od x (ev p n).Loc).idxOf n = dc p x a (ev p n).Loc := fun h => by
  have m := (O.mem n).2 ⟨hn,h,rfl⟩
  refine ⟨m,?_⟩
  have hq := List.idxOf_lt_length_of_mem m
  have h1 : ¬ (od x (ev p n).Loc).idxOf n < dc p x a (ev p n).Loc := fun h1 => by
   have := (P _ hq).2 h1
   rw [getD_idx m,hd] at this
   cases this
  have h3 : dc p x a (ev p n).Loc < (od x (ev p n).Loc).length := by omega
  have := (idx_getD O.nd h3).1
  rw [hcan.2 h] at this
  exact this
 unfold bef at hbi
 simp only [Bool.or_eq_true] at hbi
 rcases hbi with ((h | h) | h) | h
 ·rw [hpo i hi h] at hdi
  cases hdi
 ·exfalso
  simp only [rfB,Bool.and_eq_true,decide_eq_true_eq] at h
  have h1 := hcan.1 h.1
  rw [h.2] at h1
  have := (P (dc p x a (ev p n).Loc - 1) (by omega)).2 (by omega)
  rw [<- h1,hdi] at this
  cases this
 ·exfalso
  simp only [coB,Bool.and_eq_true,decide_eq_true_eq] at h
  obtain ⟨⟨⟨h1,h2⟩,h3⟩,h4⟩ := h
  obtain ⟨m,hq⟩ := atn h2
  rw [h3] at h4
  have mi := (O.mem i).2 ⟨hi,h1,h3⟩
  rw [plc_mem mi,plc_mem m,hq] at h4
  have := (P _ (List.idxOf_lt_length_of_mem mi)).2 (by omega)
  rw [getD_idx mi,hdi] at this
  cases this
 ·simp only [frB,Bool.and_eq_true,decide_eq_true_eq,Bool.not_eq_true',decide_eq_false_iff_not] at h
  obtain ⟨⟨⟨⟨h1,h2⟩,h3⟩,h4⟩,h5⟩ := h
  obtain ⟨m,hq⟩ := atn h2
  obtain ⟨c,c1,c2,c3⟩ := R.rd hp hi h1
  rw [h3] at c1 c2 c3 h5
  obtain ⟨d1,d2⟩ := idx_getD O.nd c1
  rw [c2,plc_mem d2,plc_mem m,d1,hq] at h5
  refine ⟨i,hi,h1,?_,c,by rw [h3]; exact c1,by rw [h3]; exact c2,?_⟩
  ·cases hdb : dn p b i with
   | false => rfl
   | true =>
    rcases (hb i hi).1 hdb with h6 | h6
    ·rw [hdi] at h6; cases h6
    ·injection h6 with h6
     exact absurd h6.symm h4
  ·have := (filter_more (P:=dn p a) (Q:=dn p b) (n:=n) (l:=od x (ev p n).Loc) fun q hq1 hq2 => (hb q ((O.mem q).1 hq1).1).2 (.inl hq2)).2 m hd ((hb n hn).2 (.inr rfl))
   rw [h3]
   unfold dc at h5 ⊢
   omega
theorem dead_on (hp : PV p) (R : RunOf p x F) {a b : Nat -> Nat} (hD : Dead p x F a) {n : Option Int} (hcan : ∀ m,n = some m -> CanE p x a m) (hb : Behind p F a b n) : Dead p x F b := by
 obtain ⟨i,hi,h1,h2,c,c1,c2,c3⟩ := hD
 obtain ⟨i0,i1⟩ := (R.mem i).1 hi
 have hl := ev_loc hp i0 i1
 have O := (R.od _ hl).1
 obtain ⟨p1,p2⟩ := dc_pos hp R a hl
 refine ⟨i,hi,h1,?_,c,c1,c2,Nat.lt_of_lt_of_le c3 (dc_mono (fun m hm hd => (hb m hm).2 (.inl hd)) fun m hm => ((O.mem m).1 hm).1)⟩
 cases hdb : dn p b i with
 | false => rfl
 | true =>
  exfalso
  rcases (hb i hi).1 hdb with h6 | h6
  ·rw [h2] at h6; cases h6
  ·have h7 := (hcan i h6).1 h1
   rw [c2] at h7
   have e1 := (idx_getD O.nd c1).1
   have e2 := (idx_getD O.nd (show dc p x a (ev p i).Loc - 1 < _ by omega)).1
   rw [h7,e2] at e1
   omega
theorem closed_alive (hp : PV p) (R : RunOf p x F) {a : Nat -> Nat} (hc : Closed p x F a) : ¬ Dead p x F a := by
 rintro ⟨i,hi,h1,h2,c,c1,c2,c3⟩
 obtain ⟨i0,i1⟩ := (R.mem i).1 hi
 have hl := ev_loc hp i0 i1
 have O := (R.od _ hl).1
 obtain ⟨p1,p2⟩ := dc_pos hp R a hl
 have h3 : c + 1 < (od x (ev p i).Loc).length := by omega
 have hw := (prefix_is hp R hc hl _ h3).2 c3
 obtain ⟨d1,d2⟩ := idx_getD O.nd c1
 obtain ⟨f1,f2⟩ := idx_getD O.nd h3
 obtain ⟨f3,f4,f5⟩ := (O.mem _).1 f2
 have : dn p a i = true := hc i _ hi f3 (by
  unfold bef
  rw [Bool.or_eq_true]
  refine .inr ?_
  unfold frB
  have hne : i ≠ (od x (ev p i).Loc).getD (c + 1) default := fun e => by rw [<- e,h2] at hw; cases hw
  rw [h1,f4,f5,c2,plc_mem d2,plc_mem f2,d1,f1,decide_eq_false hne]
  simp only [Bool.true_and,decide_true,Bool.not_false,decide_eq_true_eq]
  omega) hw
 rw [h2] at this
 cases this
theorem closed_on {a b : Nat -> Nat} (hc : Closed p x F a) {n : Option Int} (hr : ∀ m,n = some m -> ReadyE p x F a m) (hb : Behind p F a b n) : Closed p x F b := fun i k hi hk hbef hd => by
 rcases (hb k hk).1 hd with h | h
 ·exact (hb i hi).2 (.inl (hc i k hi hk hbef h))
 ·exact (hb i hi).2 (.inl (hr k h i hi hbef))
theorem some_ready (hp : PV p) (R : RunOf p x F) {a : Nat -> Nat} (h : ∃ i,i ∈ F /\ dn p a i = false) : ∃ n,n ∈ F /\ dn p a n = false /\ ReadyE p x F a n := by
 obtain ⟨n,⟨h1,h2⟩,h3⟩ := min_of (rk F) _ h
 refine ⟨n,h1,h2,fun i hi hb => ?_⟩
 have := bef_rk hp R hi h1 hb
 cases hd : dn p a i with
 | true => rfl
 | false => have := h3 i ⟨hi,hd⟩; omega
def adv (a : Nat -> Nat) (t : Nat) : Nat -> Nat := fun u => if u = t then a t + 1 else a u
def isF4 (p : List (List ZIn)) (t k : Nat) : Prop := ((p.getD t default).getD k default).Op = 4
instance (t k : Nat) : Decidable (isF4 p t k) := by unfold isF4; infer_instance
def StA (p : List (List ZIn)) (a : Nat -> Nat) : Prop := ∀ t,t < p.length -> a t <= (p.getD t default).length
def nxt (p : List (List ZIn)) (a : Nat -> Nat) (t : Nat) : Option Int := if isF4 p t (a t) then none else some (base p t (a t) : Int)
theorem dn_base {a : Nat -> Nat} {t k : Nat} (h : Isn p t k) : (dn p a (base p t k : Int) = true ↔ k < a t) := by
 unfold dn
 rw [h.ev.1]
 simp only [Int.toNat_natCast,Bool.or_eq_true,decide_eq_true_eq]
 omega
theorem dn_init {a : Nat -> Nat} {n : Int} (h0 : 0 <= n) (h : n < 3) : dn p a n = true := by
 have := (ev_init (p:=p) (l:=n.toNat) (by omega)).1
 rw [Int.toNat_of_nonneg h0] at this
 unfold dn
 rw [this]
 rfl
theorem behind_adv (R : RunOf p x F) {a : Nat -> Nat} {t : Nat} (ht : t < p.length) (hk : a t < (p.getD t default).length) : Behind p F a (adv a t) (nxt p a t) := fun m hm => by
 obtain ⟨m0,m1⟩ := (R.mem m).1 hm
 rcases ev_cases m0 m1 with h3 | ⟨t',k',h3,rfl⟩
 ·exact ⟨fun _ => .inl (dn_init m0 h3),fun _ => dn_init m0 h3⟩
 ·rw [dn_base h3,dn_base h3]
  unfold adv nxt
  by_cases e : t' = t
  ·subst e
   rw [if_pos rfl]
   by_cases e2 : k' = a t'
   ·rw [<- e2,if_neg (show ¬ isF4 p t' k' from h3.o)]
    exact ⟨fun _ => .inr rfl,fun _ => by omega⟩
   ·refine ⟨fun h => .inl (by omega),fun h => ?_⟩
    rcases h with h | h
    ·omega
    ·split at h
     ·cases h
     ·rename_i ho
      injection h with h
      exact absurd (base_inj h3 ⟨ht,hk,ho⟩ (by omega)).2 e2
  ·rw [if_neg e]
   refine ⟨fun h => .inl h,fun h => ?_⟩
   rcases h with h | h
   ·exact h
   ·split at h
    ·cases h
    ·rename_i ho
     injection h with h
     exact absurd (base_inj h3 ⟨ht,hk,ho⟩ (by omega)).1 e
theorem nxt_new (R : RunOf p x F) {a : Nat -> Nat} {t : Nat} (ht : t < p.length) (hk : a t < (p.getD t default).length) {n : Int} (h : nxt p a t = some n) : Isn p t (a t) /\ n = (base p t (a t) : Int) /\ n ∈ F /\ dn p a n = false /\ ∀ i : Int,i ∈ F -> poB p i n = true -> dn p a i = true := by
 unfold nxt at h
 split at h
 ·cases h
 ·rename_i ho
  injection h with h
  subst h
  have hI : Isn p t (a t) := ⟨ht,hk,ho⟩
  refine ⟨hI,rfl,(R.mem _).2 ⟨by omega,by have := hI.ev.2; omega⟩,?_,fun i hi hpo => ?_⟩
  ·cases hd : dn p a (base p t (a t) : Int) with
   | false => rfl
   | true => have := (dn_base hI).1 hd; omega
  ·obtain ⟨m0,m1⟩ := (R.mem i).1 hi
   rcases ev_cases m0 m1 with h3 | ⟨t',k',h3,rfl⟩
   ·exact dn_init m0 h3
   ·simp only [poB,Bool.and_eq_true,decide_eq_true_eq,h3.ev.1,hI.ev.1] at hpo
    rw [dn_base h3]
    have : t' = t := by omega
    subst this
    omega
def ReadyT (p : List (List ZIn)) (x : XS) (F : List Int) (a : Nat -> Nat) (t : Nat) : Prop := t < p.length /\ a t < (p.getD t default).length /\ ∀ n,nxt p a t = some n -> ReadyE p x F a n
def CanT (p : List (List ZIn)) (x : XS) (a : Nat -> Nat) (t : Nat) : Prop := t < p.length /\ a t < (p.getD t default).length /\ ∀ n,nxt p a t = some n -> CanE p x a n
def Fin3 (p : List (List ZIn)) (a : Nat -> Nat) : Prop := ∀ t,t < p.length -> a t = (p.getD t default).length
theorem goes_on (hp : PV p) (R : RunOf p x F) {a : Nat -> Nat} (hs : StA p a) (hf : ¬ Fin3 p a) : ∃ t,ReadyT p x F a t := by
 have hex : ∃ t,t < p.length /\ a t < (p.getD t default).length := by
  apply Classical.byContradiction
  intro hno
  refine hf fun t ht => ?_
  have := hs t ht
  have := mt (fun h => (⟨t,ht,h⟩ : ∃ t,t < p.length /\ a t < (p.getD t default).length)) hno
  omega
 by_cases hfe : ∃ t,t < p.length /\ a t < (p.getD t default).length /\ isF4 p t (a t)
 ·obtain ⟨t,h1,h2,h3⟩ := hfe
  refine ⟨t,h1,h2,fun n hn => ?_⟩
  unfold nxt at hn
  rw [if_pos h3] at hn
  cases hn
 ·have hev : ∀ t,t < p.length -> a t < (p.getD t default).length -> Isn p t (a t) := fun t h1 h2 => ⟨h1,h2,fun h3 => hfe ⟨t,h1,h2,h3⟩⟩
  obtain ⟨t,h1,h2⟩ := hex
  have hI := hev t h1 h2
  obtain ⟨n,n1,n2,n3⟩ := some_ready hp R (a:=a) ⟨(base p t (a t) : Int),(R.mem _).2 ⟨by omega,by have := hI.ev.2; omega⟩,by
   cases hd : dn p a (base p t (a t) : Int) with
   | false => rfl
   | true => have := (dn_base hI).1 hd; omega⟩
  obtain ⟨m0,m1⟩ := (R.mem n).1 n1
  rcases ev_cases m0 m1 with h3 | ⟨t',k',h3,rfl⟩
  ·rw [dn_init m0 h3] at n2
   cases n2
  ·have hle : a t' <= k' := by
    rcases Nat.lt_or_ge k' (a t') with h | h
    ·rw [(dn_base h3).2 h] at n2; cases n2
    ·exact h
   have hI' := hev t' h3.t (by have := h3.k; omega)
   have : a t' = k' := by
    rcases Nat.lt_or_ge (a t') k' with h | h
    ·exfalso
     have := (dn_base hI').1 (n3 (base p t' (a t') : Int) ((R.mem _).2 ⟨by omega,by have := hI'.ev.2; omega⟩) (by
      unfold bef poB
      rw [hI'.ev.1,h3.ev.1]
      simp only [decide_true,Bool.true_and,Bool.or_eq_true,decide_eq_true_eq,Bool.and_eq_true]
      exact .inl (.inl (.inl ⟨by omega,by omega⟩)))
      )
     omega
    ·omega
   refine ⟨t',h3.t,hI'.k,fun m hm => ?_⟩
   unfold nxt at hm
   rw [if_neg (show ¬ isF4 p t' (a t') from hI'.o)] at hm
   injection hm with hm
   rw [<- hm,this]
   exact n3
inductive Gr (p : List (List ZIn)) (x : XS) (F : List Int) : (Nat -> Nat) -> List Int -> Prop
 | nil {a : Nat -> Nat} (h : Fin3 p a) : Gr p x F a []
 | cons {a : Nat -> Nat} {t : Nat} {r : List Int} (h : ReadyT p x F a t) (hl : ∀ u,u < t -> ¬ ReadyT p x F a u) (k : Gr p x F (adv a t) r) : Gr p x F a ((t : Int) :: r)
theorem Gr.uniq {a : Nat -> Nat} {r : List Int} (h : Gr p x F a r) : ∀ {r'},Gr p x F a r' -> r = r' := by
 induction h with
 | nil h =>
  intro r' h'
  cases h' with
  | nil _ => rfl
  | cons h1 _ _ => have := h _ h1.1; have := h1.2.1; omega
 | @cons a t r h hl _ ih =>
  intro r' h'
  cases h' with
  | nil h1 => have := h1 _ h.1; have := h.2.1; omega
  | @cons _ u _ h1 hl1 k1 =>
   have : t = u := by
    rcases Nat.lt_trichotomy t u with e | e | e
    ·exact absurd h (hl1 t e)
    ·exact e
    ·exact absurd h1 (hl u e)
   subst this
   rw [ih k1]
end
end Go.Proofs.Ytlmjnhnpahicmaa
