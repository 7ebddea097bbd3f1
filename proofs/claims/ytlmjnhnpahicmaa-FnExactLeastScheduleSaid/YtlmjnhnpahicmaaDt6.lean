/-
 The search of impl finds the first schedule. Plain theorems. No conditions.
-/
import Derived.Test.YtlmjnhnpahicmaaDt5
namespace Go.Proofs.Ytlmjnhnpahicmaa
open Go.RowKit
set_option maxRecDepth 100000
def Le {α : Type} (x y : Option α) : Prop := ∀ r,x = some r -> y = some r
section
variable {α β S E : Type}
theorem Le.refl (x : Option α) : Le x x := fun _ h => h
theorem Le.bind {x y : Option α} {f g : α -> Option β} (h : Le x y) (k : ∀ v,Le (f v) (g v)) : Le (x.bind f) (y.bind g) := fun r hr => by
 obtain ⟨v,e,hv⟩ := bindL hr
 rw [h v e]
 exact k v r hv
theorem Le.cond {b : Bool} {x x' y y' : Option α} (h : Le x y) (k : Le x' y') : Le (bif b then x else x') (bif b then y else y') := by
 cases b
 ·exact k
 ·exact h
theorem Le.gd {b : Bool} {x y : Option α} (h : Le x y) : Le (Go.Proofs.Ytlmjnhnpahicmaa.gd b x) (Go.Proofs.Ytlmjnhnpahicmaa.gd b y) := by
 cases b
 ·exact fun _ h => h
 ·exact h
theorem Le.sumK {x y : Option (S ⊕ E)} {f g : S -> Option E} (h : Le x y) (k : ∀ v,Le (f v) (g v)) : Le (Go.Proofs.Ytlmjnhnpahicmaa.sumK x f) (Go.Proofs.Ytlmjnhnpahicmaa.sumK y g) := fun r hr => by
 cases hx : x with
 | none => rw [hx] at hr; cases hr
 | some v =>
  rw [hx] at hr
  rw [h v hx]
  cases v with
  | inl s => exact k s r hr
  | inr w => exact hr
theorem Le.loopO {f g : S -> Option (S ⊕ E)} (h : ∀ s,Le (f s) (g s)) (s : S) : Le (Go.Proofs.Ytlmjnhnpahicmaa.loopO f s) (Go.Proofs.Ytlmjnhnpahicmaa.loopO g s) := fun r hr => by
 obtain ⟨n,hn⟩ := loopO_iff.1 hr
 refine loopO_iff.2 ⟨n,?_⟩
 clear hr
 induction n generalizing s with
 | zero => cases hn
 | succ n ih =>
  simp only [loopN] at hn ⊢
  cases hf : f s with
  | none => rw [hf] at hn; cases hn
  | some z =>
   rw [hf] at hn
   rw [h s z hf]
   cases z with
   | inl s' => exact ih s' hn
   | inr e => exact hn
end
theorem from_mono {f g : ZTr -> Z3i -> Option (ZTr × Bool)} (h : ∀ s pc,Le (f s pc) (g s pc)) (s : ZTr) (pc : Z3i) : Le (F_impl_tracer_from_B f s pc) (F_impl_tracer_from_B g s pc) := by
 unfold F_impl_tracer_from_B
 refine .cond (.refl _) (.bind (.refl _) fun v => .cond (.refl _) (.sumK (.loopO (fun z => ?_) _) fun w => .refl _))
 unfold F_impl_tracer_from_L19
 exact .cond (.sumK (.bind (.refl _) fun v => .cond (.refl _) (.gd (.gd (.gd (.bind (h _ _) fun w => .refl _))))) fun w => .refl _) (.refl _)
theorem from_up (s : ZTr) (pc : Z3i) {n : Nat} : ∀ {m : Nat},n <= m -> Le (F_impl_tracer_from_N n s pc) (F_impl_tracer_from_N m s pc) := by
 have key : ∀ (n : Nat) (s : ZTr) (pc : Z3i),Le (F_impl_tracer_from_N n s pc) (F_impl_tracer_from_N (n + 1) s pc) := fun n => by
  induction n with
  | zero => exact fun _ _ r hr => by cases hr
  | succ n ih => exact fun s pc => from_mono ih s pc
 intro m hm
 induction hm with
 | refl => exact .refl _
 | step _ ih => exact fun r hr => key _ s pc r (ih r hr)
section
variable {p : List (List ZIn)} {x : XS} {F : List Int}
abbrev Key := Int × Int × Int
def aK (k : Key) : Nat -> Nat := aP ⟨k.1,k.2.1,k.2.2⟩
def DeadM (p : List (List ZIn)) (x : XS) (F : List Int) (l : List (Key × Bool)) : Prop := ∀ e ∈ l,Dead p x F (aK e.1)
theorem DeadM.get {l : List (Key × Bool)} (h : DeadM p x F l) {k : Key} (hk : ((mget l k).getD false) = true) : Dead p x F (aK k) := by
 unfold mget at hk
 cases hm : midx l k with
 | none => rw [hm] at hk; cases hk
 | some j =>
  obtain ⟨hj,v,hv⟩ := midx_lt hm
  exact h (k,v) (List.mem_of_getElem? hv)
theorem DeadM.put {l : List (Key × Bool)} (h : DeadM p x F l) {k : Key} (hk : Dead p x F (aK k)) : DeadM p x F (mput l k true) := fun e he => by
 unfold mput at he
 cases hm : midx l k with
 | none =>
  rw [hm] at he
  rcases List.mem_append.1 he with he | he
  ·exact h e he
  ·rw [List.mem_singleton] at he
   subst he
   exact hk
 | some j =>
  rw [hm] at he
  rcases List.mem_or_eq_of_mem_set he with he | he
  ·exact h e he
  ·subst he
   exact hk
theorem fin_ret (hp : PV p) {pc : Z3i} (h : NNp pc) (s : ZTr) (hs : s.p = p) : Ret (loopO (F_impl_tracer_from_L6 s pc) ((0 : Int),true)) fun b => (b = true ↔ Fin3 p (aP pc)) := by
 have hl := hp.vs.1
 refine Ret.loop (fun z => ∃ n : Nat,n <= p.length /\ z.1 = (n : Int) /\ (z.2 = true ↔ ∀ t,t < n -> aP pc t = (p.getD t default).length)) (fun z => ((p.length : Int) - z.1).toNat) ⟨0,by omega,rfl,fun _ t ht => by omega,fun _ => rfl⟩ fun z ⟨n,n1,n2,n3⟩ => ?_
 obtain ⟨z1,z2⟩ := z
 simp only at n2 n3
 subst n2
 unfold F_impl_tracer_from_L6
 simp only [hs,Int.toNat_natCast]
 refine .bifD (fun hk => ?_) fun hk => .pure ?_
 ·have hn : n < p.length := by omega
  have hg := aP_get h (t:=n) (by omega)
  rw [hg]
  refine Ret.bind (P:=fun b => (b = true ↔ ∀ t,t < n + 1 -> aP pc t = (p.getD t default).length)) (.bif (fun hz => .gdD ⟨by omega,by omega⟩ (.gdD ⟨by omega,hk⟩ (.pure ?_))) fun hz => .pure ⟨fun e => (by cases e),fun e => ?_⟩) fun b hb => .gdI (by omega) (.pure ⟨⟨n + 1,by omega,rfl,hb⟩,by simp only []; omega⟩)
  ·rw [beq_iff_eq]
   constructor
   ·intro e t ht
    rcases Nat.lt_or_ge t n with h' | h'
    ·exact n3.1 hz t h'
    ·rw [show t = n by omega]; omega
   ·intro e
    rw [e n (by omega)]
  ·rw [n3.2 fun t ht => e t (by omega)] at hz
   cases hz
 ·have : n = p.length := by omega
  subst this
  exact n3
theorem dead_open (R : RunOf p x F) {a : Nat -> Nat} (h : Dead p x F a) : ¬ Fin3 p a := fun hf => by
 obtain ⟨i,hi,_,h2,_⟩ := h
 obtain ⟨i0,i1⟩ := (R.mem i).1 hi
 rcases ev_cases i0 i1 with h3 | ⟨t,k,h3,rfl⟩
 ·rw [dn_init i0 h3] at h2; cases h2
 ·have h4 := hf t h3.t
  have h5 := h3.k
  rw [(dn_base h3).2 (by omega)] at h2
  cases h2
theorem ready_canT (hp : PV p) (R : RunOf p x F) {a : Nat -> Nat} (hc : Closed p x F a) {t : Nat} (h : ReadyT p x F a t) : CanT p x a t := ⟨h.1,h.2.1,fun n hn => by
 obtain ⟨_,_,g1,g2,_⟩ := nxt_new R h.1 h.2.1 hn
 exact ready_can hp R hc g1 g2 (h.2.2 n hn)⟩
theorem can_step (hp : PV p) (R : RunOf p x F) {a : Nat -> Nat} {t : Nat} (h : CanT p x a t) : (Dead p x F a -> Dead p x F (adv a t)) /\ (Closed p x F a -> (ReadyT p x F a t /\ Closed p x F (adv a t)) \/ (¬ ReadyT p x F a t /\ Dead p x F (adv a t))) := by
 have hB := behind_adv R h.1 h.2.1
 refine ⟨fun hD => dead_on hp R hD h.2.2 hB,fun hc => ?_⟩
 by_cases hr : ReadyT p x F a t
 ·exact .inl ⟨hr,closed_adv R hc hr⟩
 ·refine .inr ⟨hr,?_⟩
  cases hn : nxt p a t with
  | none => exact absurd ⟨h.1,h.2.1,fun n e => by rw [hn] at e; cases e⟩ hr
  | some n =>
   obtain ⟨_,_,g1,g2,g3⟩ := nxt_new R h.1 h.2.1 hn
   rw [hn] at hB
   refine not_ready_dead hp R hc g1 g2 (h.2.2 n hn) (fun hre => hr ⟨h.1,h.2.1,fun m e => ?_⟩) g3 hB
   rw [hn] at e
   injection e with e
   subst e
   exact hre
structure Tr (p : List (List ZIn)) (x : XS) (F : List Int) (nm : List (List Int)) (s : ZTr) : Prop where
 tp : s.p = p
 tx : s.x = ⟨x.1,x.2⟩
 tn : s.number = nm
 tf : DeadM p x F s.failed
def Post (p : List (List ZIn)) (x : XS) (F : List Int) (nm : List (List Int)) (a : Nat -> Nat) (sch : List Int) (v : ZTr × Bool) : Prop :=
 (Dead p x F a /\ v.2 = false /\ Tr p x F nm v.1 /\ v.1.schedule = sch) \/ (Closed p x F a /\ v.2 = true /\ ∃ r,Gr p x F a r /\ v.1.schedule = sch ++ r)
theorem from_ret (hp : PV p) (R : RunOf p x F) {nm : List (List Int)} (hnm : Nums p nm) : ∀ (m : Nat) (s : ZTr) (pc : Z3i),Tr p x F nm s -> NNp pc -> StA p (aP pc) -> (Dead p x F (aP pc) \/ Closed p x F (aP pc)) -> s.schedule.length + mu p (aP pc) <= 21 -> mu p (aP pc) < m ->
  Ret (F_impl_tracer_from_N m s pc) (Post p x F nm (aP pc) s.schedule)
 | 0,_,_,_,_,_,_,_,h => by omega
 | m + 1,s,pc,hT,hN,hS,hdc,hb,hm => by
  have hl := hp.vs.1
  obtain ⟨sp,⟨sf,so⟩,sn,sch,fl⟩ := s
  obtain ⟨t1,t2,t3,t4⟩ := hT
  simp only at t1 t2 t3 t4 hb
  replace t1 := t1.symm
  replace t3 := t3.symm
  subst t1 t3
  injection t2 with t5 t6
  subst t5 t6
  show Ret (F_impl_tracer_from_B (F_impl_tracer_from_N m) _ pc) _
  unfold F_impl_tracer_from_B
  simp only []
  have hkey : aK (pc.x0,pc.x1,pc.x2) = aP pc := rfl
  refine .bif (fun hk => .pure ?_) fun _ => ?_
  ·exact .inl ⟨by rw [<- hkey]; exact t4.get hk,rfl,⟨rfl,rfl,rfl,t4⟩,rfl⟩
  refine (fin_ret hp hN _ rfl).bind fun b hfb => .bif (fun hb1 => .pure ?_) fun hb1 => ?_
  ·have hf := hfb.1 hb1
   rcases hdc with hD | hC
   ·exact absurd hf (dead_open R hD)
   ·exact .inr ⟨hC,rfl,[],.nil hf,by simp⟩
  have hnf : ¬ Fin3 p (aP pc) := fun hf => by rw [hfb.2 hf] at hb1; cases hb1
  refine Ret.sum (PS:=fun w => Dead p x F (aP pc) /\ w.1 = p /\ w.2.1 = x.1 /\ w.2.2.1 = x.2 /\ w.2.2.2.1 = nm /\ w.2.2.2.2.1 = sch /\ DeadM p x F w.2.2.2.2.2) (PW:=Post p x F nm (aP pc) sch) ?_ fun w ⟨w1,w2,w3,w4,w5,w6,w7⟩ => .pure ?_
  ·refine Ret.loop (fun z => ∃ n : Nat,n <= p.length /\ z.1 = p /\ z.2.1 = x.1 /\ z.2.2.1 = x.2 /\ z.2.2.2.1 = nm /\ z.2.2.2.2.1 = sch /\ DeadM p x F z.2.2.2.2.2.1 /\ z.2.2.2.2.2.2 = (n : Int) /\ (Closed p x F (aP pc) -> ∀ u,u < n -> ¬ ReadyT p x F (aP pc) u)) (fun z => ((p.length : Int) - z.2.2.2.2.2.2).toNat) ⟨0,by omega,rfl,rfl,rfl,rfl,rfl,t4,rfl,fun _ u hu => by omega⟩ fun z ⟨n,n1,z1,z2,z3,z4,z5,z6,z7,z8⟩ => ?_
   obtain ⟨a1,a2,a3,a4,a5,a6,a7⟩ := z
   simp only at z1 z2 z3 z4 z5 z6 z7
   replace z1 := z1.symm
   replace z4 := z4.symm
   replace z5 := z5.symm
   subst z1 z2 z3 z4 z5 z7
   unfold F_impl_tracer_from_L19
   simp only [Int.toNat_natCast]
   refine .bifD (fun hk => ?_) fun hk => .pure ?_
   ·have hn : n < p.length := by omega
    refine Ret.sum (PS:=fun w => w.1 = p /\ w.2.1 = x.1 /\ w.2.2.1 = x.2 /\ w.2.2.2.1 = nm /\ w.2.2.2.2.1 = sch /\ DeadM p x F w.2.2.2.2.2 /\ (Closed p x F (aP pc) -> ¬ ReadyT p x F (aP pc) n)) ?_ fun w ⟨w1,w2,w3,w4,w5,w6,w7⟩ => .gdI (by omega) (.pure ⟨⟨n + 1,by omega,w1,w2,w3,w4,w5,w6,rfl,fun hC u hu => ?_⟩,by simp only []; omega⟩)
    ·refine (can_ret hp R hnm hN hS hn).bind fun v23 h23 => .bif (fun hc => .pure ?_) fun hc => ?_
     ·refine ⟨rfl,rfl,rfl,rfl,rfl,z6,fun hC hr => ?_⟩
      rw [h23.2 (ready_canT hp R hC hr)] at hc
      cases hc
     have hcan : CanT p x (aP pc) n := h23.1 (by simpa using hc)
     have hg := aP_get hN (t:=n) (by omega)
     obtain ⟨g1,g2⟩ := aP_set hN (t:=n) (by omega)
     have hS' := hS.adv hcan.2.1
     have hmu := mu_adv hcan.1 hcan.2.1
     have hrow := hp.vs.2 n
     obtain ⟨c1,c2⟩ := can_step hp R hcan
     have hlt := hcan.2.1
     refine .gdD ⟨by omega,by omega⟩ (.gdI (by rw [hg]; omega) (.gd (capOK_le (by omega) rfl) ?_))
     refine (from_ret hp R hnm m ⟨p,⟨x.1,x.2⟩,nm,sch ++ [(n : Int)],a6⟩ _ ⟨rfl,rfl,rfl,z6⟩ g2 (by rw [g1]; exact hS') ?_ (by rw [g1]; simp only [List.length_append,List.length_singleton]; omega) (by rw [g1]; omega)).bind fun v hv => ?_
     ·rw [g1]
      rcases hdc with hD | hC
      ·exact .inl (c1 hD)
      ·rcases c2 hC with h | h
       ·exact .inr h.2
       ·exact .inl h.2
     rw [g1] at hv
     rcases hv with ⟨hD,e1,⟨e2,e3,e4,e5⟩,e6⟩ | ⟨hC,e1,r,e2,e3⟩
     ·refine .bif (fun e => by rw [e1] at e; cases e) fun _ => ?_
      have hlen : v.1.schedule.length = sch.length + 1 := by rw [e6]; simp
      refine .gdI (by omega) (.gdD ⟨by omega,by omega,by omega⟩ (.pure ⟨e2,by rw [e3],by rw [e3],e4,?_,e5,fun hC hr => ?_⟩))
      ·simp only []
       rw [hlen,e6,show ((((sch.length + 1 : Nat) : Int) - 1).toNat - (0 : Int).toNat) = sch.length by omega]
       simp
      ·exact closed_alive hp R (closed_adv R hC hr) hD
     ·refine .bif (fun _ => .pure ?_) fun e => by rw [e1] at e; cases e
      have hCa : Closed p x F (aP pc) := by
       rcases hdc with hD | hC'
       ·exact absurd (c1 hD) (closed_alive hp R hC)
       ·exact hC'
      have hr : ReadyT p x F (aP pc) n := by
       rcases c2 hCa with h | h
       ·exact h.1
       ·exact absurd h.2 (closed_alive hp R hC)
      refine .inr ⟨hCa,rfl,(n : Int) :: r,.cons hr (z8 hCa) e2,?_⟩
      simp only []
      rw [e3,List.append_assoc]
      rfl
    ·rcases Nat.lt_or_ge u n with h' | h'
     ·exact z8 hC u h'
     ·rw [show u = n by omega]; exact w7 hC
   ·have hn : n = p.length := by omega
    subst hn
    have hD : Dead p x F (aP pc) := by
     rcases hdc with hD | hC
     ·exact hD
     ·exfalso
      obtain ⟨t,ht⟩ := goes_on hp R hS hnf
      exact z8 hC t ht.1 ht
    exact ⟨hD,rfl,rfl,rfl,rfl,rfl,z6⟩
  ·refine .inl ⟨w1,rfl,⟨w2,by simp only []; rw [w3,w4],w5,?_⟩,w6⟩
   exact w7.put (by rw [hkey]; exact w1)
theorem schedOf_ret (hp : PV p) (R : RunOf p x F) : Ret (F_impl_scheduleOf p ⟨x.1,x.2⟩) fun v => v.2 = true /\ Gr p x F (fun _ => 0) v.1 := by
 unfold F_impl_scheduleOf
 refine (numbers_ret hp).bind fun v1 ⟨n1,n2⟩ => ?_
 have hz : aP ⟨0,0,0⟩ = fun _ => 0 := by
  funext t
  unfold aP
  split
  ·rename_i h
   match t,h with
   | 0,_ => rfl
   | 1,_ => rfl
   | 2,_ => rfl
  ·rfl
 have hN : NNp ⟨0,0,0⟩ := ⟨Int.le_refl 0,Int.le_refl 0,Int.le_refl 0⟩
 have hmu := mu_le hp (fun _ => 0)
 obtain ⟨v,e,hv⟩ := from_ret hp R ⟨n1,n2⟩ 22 ⟨p,⟨x.1,x.2⟩,v1,[],[]⟩ ⟨0,0,0⟩ ⟨rfl,rfl,rfl,fun e he => by simp at he⟩ hN (by rw [hz]; exact fun t _ => Nat.zero_le _) (.inr (by rw [hz]; exact closed_zero hp R)) (by rw [hz]; simpa using hmu) (by rw [hz]; omega)
 rw [hz] at hv
 have hfx : F_impl_tracer_from ⟨p,⟨x.1,x.2⟩,v1,[],[]⟩ ⟨0,0,0⟩ = some v := fixC_of 22 fun n hn => from_up _ _ hn v e
 refine (Ret.of (P:=(· = v)) hfx rfl).bind fun w hw => ?_
 subst hw
 rcases hv with ⟨hD,_⟩ | ⟨_,e1,r,e2,e3⟩
 ·exact absurd hD (closed_alive hp R (closed_zero hp R))
 ·refine .bif (fun e => by rw [e1] at e; cases e) fun _ => .pure ⟨rfl,?_⟩
  simp only []
  rw [e3]
  exact e2
theorem least_ret {s : List Int} (hsz : p.length <= 1048576 /\ total p <= 1048576) (hs : s.length <= 1048576) : ∃ l b,F_impl_LeastSchedule p s = some (l,b) /\ F_spec_LeastSchedule p s = some (l,b) /\ l.length <= 21 /\ (b = true ↔ Whole p s) /\ (b = false -> l = []) /\
  (b = true -> Gr p (runX p (ordF p s s.length)) ([0,1,2] ++ ordF p s s.length) (fun _ => 0) l) := by
 obtain ⟨b,x1,x2,_,hw⟩ := execOf_ret p hsz hs
 unfold F_impl_LeastSchedule F_spec_LeastSchedule
 rw [x1,x2]
 cases b with
 | false => exact ⟨[],false,rfl,rfl,by simp,hw,fun _ => rfl,fun h => by cases h⟩
 | true =>
  have hW := hw.1 rfl
  have hp := PV.of hW.1
  have R := whole_run hp hW
  obtain ⟨v,e,v1,v2⟩ := schedOf_ret hp R
  have hsp : Ret (F_spec_ScheduleOf p ⟨(runX p (ordF p s s.length)).1,(runX p (ordF p s s.length)).2⟩) fun v => v.2 = true /\ Gr p (runX p (ordF p s s.length)) ([0,1,2] ++ ordF p s s.length) (fun _ => 0) v.1 := by
   unfold F_spec_ScheduleOf
   refine (valid_ret hp hW.1 hsz R).bind fun v1 h1 => ?_
   subst h1
   refine .bif (fun h => by cases h) fun _ => (rel4_ret hp (exok hp R)).bind fun v3 h3 => ?_
   subst h3
   exact (sort_ret hp R).bind fun v4 h4 => .pure h4
  obtain ⟨w,e',w1,w2⟩ := hsp
  obtain ⟨l,b⟩ := v
  obtain ⟨l',b'⟩ := w
  simp only at v1 v2 w1 w2
  subst v1 w1
  have := v2.uniq w2
  subst this
  refine ⟨l,true,?_,?_,?_,hw,fun h => (by cases h),fun _ => v2⟩
  ·show (F_impl_scheduleOf p ⟨(runX p (ordF p s s.length)).1,(runX p (ordF p s s.length)).2⟩).bind _ = _
   rw [e]; rfl
  ·show (F_spec_ScheduleOf p ⟨(runX p (ordF p s s.length)).1,(runX p (ordF p s s.length)).2⟩).bind _ = _
   rw [e']; rfl
  ·have key : ∀ {a r},Gr p (runX p (ordF p s s.length)) ([0,1,2] ++ ordF p s s.length) a r -> r.length <= mu p a := fun h => by
    induction h with
    | nil _ => exact Nat.zero_le _
    | cons h _ _ ih =>
     have := mu_adv h.1 h.2.1
     rw [List.length_cons]
     omega
   exact Nat.le_trans (key v2) (mu_le hp _)
end
end Go.Proofs.Ytlmjnhnpahicmaa
