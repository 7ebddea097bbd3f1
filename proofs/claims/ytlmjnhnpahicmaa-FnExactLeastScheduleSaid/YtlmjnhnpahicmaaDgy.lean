/-
 What a schedule's run is, of impl and of spec: the same. Plain theorems. No conditions.
-/
import Derived.Test.YtlmjnhnpahicmaaDgx
namespace Go.Proofs.Ytlmjnhnpahicmaa
open Go.RowKit
set_option maxRecDepth 100000
section
variable {p : List (List ZIn)}
theorem getD_nil (l : List (List Int)) (i : Nat) : l.getD i default = l.getD i [] := rfl
theorem getD_setL {l : List (List Int)} {i j : Nat} {v : List Int} (hi : i < l.length) : (l.set i v).getD j [] = if j = i then v else l.getD j [] := by
 rw [List.getD_eq_getElem?_getD,List.getElem?_set]
 by_cases e : i = j
 ·subst e
  rw [if_pos rfl,if_pos hi,if_pos rfl]
  rfl
 ·rw [if_neg e,if_neg (Ne.symm e),List.getD_eq_getElem?_getD]
def numR (p : List (List ZIn)) (t k : Nat) : List Int := (List.range k).map (num p t)
theorem numR_succ (t k : Nat) : numR p t (k + 1) = numR p t k ++ [num p t k] := by
 unfold numR
 rw [List.range_succ,List.map_append]
 rfl
theorem numbers_ret (hp : PV p) : Ret (F_impl_numbers p) fun l => l.length = p.length /\ ∀ t : Nat,t < p.length -> l.getD t [] = numR p t (p.getD t default).length := by
 have hl := hp.vs.1
 unfold F_impl_numbers
 refine .gdD (by omega) ?_
 refine Ret.bind (P:=fun l => l.length = p.length /\ ∀ t : Nat,t < p.length -> l.getD t [] = numR p t (p.getD t default).length) ?_ fun v hv => .pure hv
 refine Ret.loop (fun z => ∃ n : Nat,n <= p.length /\ z.2.1 = (n : Int) /\ z.2.2 = ((evP p n).length : Int) /\ z.1.length = p.length /\ ∀ t : Nat,t < p.length -> z.1.getD t [] = if t < n then numR p t (p.getD t default).length else []) (fun z => ((p.length : Int) - z.2.1).toNat) ⟨0,by omega,rfl,rfl,by simp,fun t ht => ?_⟩ fun z ⟨n,h1,h2,h3,h4,h5⟩ => ?_
 ·simp only []
  rw [if_neg (by omega),List.getD_eq_getElem?_getD,List.getElem?_replicate]
  split <;> rfl
 ·obtain ⟨l,i,c⟩ := z
  simp only at h2 h3 h4 h5
  subst h2 h3
  unfold F_impl_numbers_L14
  refine .bifD (fun hk => ?_) fun hk => .pure ?_
  ·simp only [] at hk
   have hn : n < p.length := by omega
   have hrow := hp.vs.2 n
   have hlen := evP_len hp.vs n
   refine Ret.bind (P:=fun y => y.2 = ((evP p (n + 1)).length : Int) /\ y.1.length = p.length /\ ∀ t : Nat,t < p.length -> y.1.getD t [] = if t < n + 1 then numR p t (p.getD t default).length else []) (.gdD ⟨by simp only []; omega,hk⟩ ?_) fun v ⟨v1,v2,v3⟩ => .gdI (by simp only []; omega) (.pure ⟨⟨n + 1,by omega,rfl,v1,v2,v3⟩,by simp only []; omega⟩)
   refine Ret.loop (fun y => ∃ k : Nat,k <= (p.getD n default).length /\ y.2.1 = (k : Int) /\ y.2.2 = (base p n k : Int) /\ y.1.length = p.length /\ ∀ t : Nat,t < p.length -> y.1.getD t [] = if t < n then numR p t (p.getD t default).length else if t = n then numR p t k else []) (fun y => (((p.getD n default).length : Int) - y.2.1).toNat) ⟨0,by omega,rfl,by simp [base,evR],h4,fun t ht => ?_⟩ fun y ⟨k,k1,k2,k3,k4,k5⟩ => ?_
   ·rw [h5 t ht]
    by_cases e : t < n
    ·rw [if_pos e,if_pos e]
    ·rw [if_neg e,if_neg e]
     split <;> rfl
   ·obtain ⟨l',i',c'⟩ := y
    simp only at k2 k3 k4 k5
    subst k2 k3
    unfold F_impl_numbers_L33
    simp only [Int.toNat_natCast]
    refine .bifD (fun hkk => ?_) fun hkk => .pure ?_
    ·have hR := evR_len n (p.getD n default) k
     have hb : base p n k <= 31 := by unfold base; omega
     have hrn := k5 n hn
     rw [if_neg (Nat.lt_irrefl n),if_pos rfl] at hrn
     have hrl : (numR p n k).length = k := by simp [numR]
     have hfin : ∀ (v : Int),v = num p n k -> ∀ t : Nat,t < p.length -> (l'.set n (numR p n k ++ [v])).getD t [] = if t < n then numR p t (p.getD t default).length else if t = n then numR p t (k + 1) else [] := fun v hv t ht => by
      rw [getD_setL (by omega)]
      by_cases e : t = n
      ·subst e
       rw [if_pos rfl,if_neg (Nat.lt_irrefl t),if_pos rfl,numR_succ,hv]
      ·rw [if_neg e,k5 t ht]
       by_cases e2 : t < n
       ·rw [if_pos e2,if_pos e2]
       ·rw [if_neg e2,if_neg e2,if_neg e,if_neg e]
     refine Ret.bind (P:=fun y => y.2 = (base p n (k + 1) : Int) /\ y.1.length = p.length /\ ∀ t : Nat,t < p.length -> y.1.getD t [] = if t < n then numR p t (p.getD t default).length else if t = n then numR p t (k + 1) else []) (.gdD ⟨by omega,hkk⟩ (.bif (fun ho => ?_) fun ho => ?_)) fun v ⟨v1,v2,v3⟩ => .gdI (by omega) (.pure ⟨⟨k + 1,by omega,rfl,v1,v2,v3⟩,by simp only []; omega⟩)
     ·have ho : ((p.getD n default).getD k default).Op = 4 := by simpa using ho
      refine .gdD ⟨by omega,by omega⟩ (.gd (capOK_le (by rw [hrn,hrl]; omega) rfl) (.pure ⟨?_,by simp only [List.length_set]; exact k4,?_⟩))
      ·simp only [base,evR,evI,if_pos ho,List.append_nil]
      ·rw [hrn]
       exact hfin _ (by rw [num,if_pos ho])
     ·have ho : ¬ ((p.getD n default).getD k default).Op = 4 := by simpa using ho
      refine .gdD ⟨by omega,by omega⟩ (.gd (capOK_le (by rw [hrn,hrl]; omega) rfl) (.gdI (by omega) (.pure ⟨?_,by simp only [List.length_set]; exact k4,?_⟩)))
      ·simp only [base,evR,evI,if_neg ho,List.length_append,List.length_singleton]
       omega
      ·rw [hrn]
       exact hfin _ (by rw [num,if_neg ho])
    ·have : k = (p.getD n default).length := by omega
     subst this
     refine ⟨?_,k4,fun t ht => ?_⟩
     ·simp only [base,evP,List.length_append]
     ·simp only []
      rw [k5 t ht]
      by_cases e : t = n
      ·subst e
       rw [if_neg (Nat.lt_irrefl t),if_pos rfl,if_pos (by omega)]
      ·by_cases e2 : t < n
       ·rw [if_pos e2,if_pos (by omega)]
       ·rw [if_neg e2,if_neg e,if_neg (by omega)]
  ·simp only [] at hk
   have : n = p.length := by omega
   subst this
   refine ⟨h4,fun t ht => ?_⟩
   rw [h5 t ht,if_pos ht]
abbrev XS := List Int × List (List Int)
def stX (p : List (List ZIn)) (st : XS) (n : Int) : XS :=
  (if ((evs p).getD n.toNat default).Reads = true then st.1.set n.toNat ((st.2.getD ((evs p).getD n.toNat default).Loc.toNat []).getD (((st.2.getD ((evs p).getD n.toNat default).Loc.toNat []).length : Int) - 1).toNat default) else st.1,
   st.2.set ((evs p).getD n.toNat default).Loc.toNat (if ((evs p).getD n.toNat default).Writes = true then st.2.getD ((evs p).getD n.toNat default).Loc.toNat [] ++ [n] else st.2.getD ((evs p).getD n.toNat default).Loc.toNat []))
def x0 (p : List (List ZIn)) : XS := (List.replicate (evs p).length (-1),[[0],[1],[2]])
def runX (p : List (List ZIn)) (l : List Int) : XS := l.foldl (stX p) (x0 p)
theorem runX_snoc (l : List Int) (n : Int) : runX p (l ++ [n]) = stX p (runX p l) n := by
 unfold runX
 rw [List.foldl_append]
 rfl
def OkN (p : List (List ZIn)) (n : Int) : Prop := (0 <= n /\ n < ((evs p).length : Int)) /\ 0 <= ((evs p).getD n.toNat default).Loc /\ ((evs p).getD n.toNat default).Loc <= 2
structure InX (p : List (List ZIn)) (m : Nat) (st : XS) : Prop where
 f : st.1.length = (evs p).length
 o : st.2.length = 3
 r : ∀ i : Nat,i < 3 -> 1 <= (st.2.getD i []).length /\ (st.2.getD i []).length <= m + 1
theorem InX.x0 : InX p 0 (x0 p) := ⟨by simp [Ytlmjnhnpahicmaa.x0],rfl,fun i hi => by
 match i,hi with
 | 0,_ => exact ⟨Nat.le_refl 1,Nat.le_refl 1⟩
 | 1,_ => exact ⟨Nat.le_refl 1,Nat.le_refl 1⟩
 | 2,_ => exact ⟨Nat.le_refl 1,Nat.le_refl 1⟩⟩
theorem InX.step {m : Nat} {st : XS} {n : Int} (h : InX p m st) (hn : OkN p n) : InX p (m + 1) (stX p st n) := by
 obtain ⟨_,h2,h3⟩ := hn
 unfold stX
 refine ⟨?_,by simp only [List.length_set]; exact h.o,fun i hi => ?_⟩
 ·simp only []
  split
  ·rw [List.length_set]; exact h.f
  ·exact h.f
 ·simp only []
  rw [getD_setL (by rw [h.o]; omega)]
  have hr := h.r ((evs p).getD n.toNat default).Loc.toNat (by omega)
  have hi' := h.r i hi
  split
  ·split
   ·simp only [List.length_append,List.length_singleton]; omega
   ·omega
  ·omega
theorem InX.runs : ∀ {l : List Int} {m : Nat} {st : XS},InX p m st -> (∀ n ∈ l,OkN p n) -> InX p (m + l.length) (l.foldl (stX p) st)
 | [],_,_,h,_ => h
 | n :: l,m,st,h,k => by
  have := InX.runs (h.step (k n (List.mem_cons_self))) fun x hx => k x (List.mem_cons_of_mem _ hx)
  rw [List.length_cons,show m + (l.length + 1) = m + 1 + l.length by omega]
  exact this
theorem InX.run {l : List Int} (h : ∀ n ∈ l,OkN p n) : InX p l.length (runX p l) := by
 have := InX.runs InX.x0 h
 rwa [Nat.zero_add] at this
theorem step_ok (hp : PV p) {t k : Nat} (ht : t < p.length) (hk : k < (p.getD t default).length) : ∀ n ∈ stepN p t k,OkN p n := by
 intro n hn
 unfold stepN at hn
 split at hn
 ·simp at hn
 ·rename_i ho
  rw [List.mem_singleton] at hn
  subst hn
  obtain ⟨e1,e2⟩ := num_ev ht hk ho
  have hx := hp.ins t k ht hk
  refine ⟨by omega,?_⟩
  rw [Int.toNat_natCast,e1]
  exact ⟨hx.1,hx.2.1⟩
theorem good_at {s : List Int} (hg : Good p s s.length) {j : Nat} (hj : j < s.length) : stT s j < p.length /\ ((stT s j : Nat) : Int) = s.getD j default /\ stK s j < (p.getD (stT s j) default).length := by
 obtain ⟨g1,g2⟩ := hg j hj
 unfold stT stK
 exact ⟨by omega,by omega,g2⟩
theorem ord_ok (hp : PV p) {s : List Int} (hg : Good p s s.length) : ∀ {n : Nat},n <= s.length -> ∀ m ∈ ordF p s n,OkN p m := by
 intro n
 induction n with
 | zero => intro _ m hm; simp [ordF] at hm
 | succ n ih =>
  intro hn m hm
  simp only [ordF,List.mem_append] at hm
  rcases hm with hm | hm
  ·exact ih (by omega) m hm
  ·obtain ⟨h1,_,h3⟩ := good_at hg (j:=n) (by omega)
   exact step_ok hp h1 h3 m hm
theorem exec_step {m : Nat} {st : XS} {n : Int} (h : InX p m st) (hm : m <= 2000000) (hn : OkN p n) {loc : Int} {rd wr : Bool} (hloc : loc = ((evs p).getD n.toNat default).Loc) (hrd : rd = ((evs p).getD n.toNat default).Reads) (hwr : wr = ((evs p).getD n.toNat default).Writes) :
  Ret (Option.bind (bif rd then
    gd (inK .i64 (((st.2.getD loc.toNat []).length : Int) - (1 : Int))) <|
    gd (decide (0 <= (((st.2.getD loc.toNat []).length : Int) - (1 : Int)) /\ (((st.2.getD loc.toNat []).length : Int) - (1 : Int)) < (((st.2.getD loc.toNat []).length) : Int))) <|
    gd (decide (0 <= n /\ n < (st.1.length : Int))) <|
    some ((st.1.set n.toNat ((st.2.getD loc.toNat []).getD ((((st.2.getD loc.toNat []).length : Int) - (1 : Int)).toNat) default)),(st.2.getD loc.toNat []))
   else some (st.1,(st.2.getD loc.toNat []))) fun (w : List Int × List Int) =>
   bif wr then
    gd (capOK (w.2.length + 1) 8) <|
    some (w.1,(st.2.set loc.toNat (w.2 ++ [n])))
   else some (w.1,(st.2.set loc.toNat w.2))) (· = stX p st n) := by
 obtain ⟨h1,h2,h3⟩ := hn
 have hr := h.r ((evs p).getD n.toNat default).Loc.toNat (by omega)
 subst hloc hrd hwr
 unfold stX
 refine Ret.bind (P:=fun w => w.1 = (if ((evs p).getD n.toNat default).Reads = true then st.1.set n.toNat ((st.2.getD ((evs p).getD n.toNat default).Loc.toNat []).getD (((st.2.getD ((evs p).getD n.toNat default).Loc.toNat []).length : Int) - 1).toNat default) else st.1) /\ w.2 = st.2.getD ((evs p).getD n.toNat default).Loc.toNat []) (.bif (fun hb => .gdI (by omega) (.gdD (by omega) (.gdD (by rw [h.f]; exact h1) (.pure ⟨by rw [if_pos hb],rfl⟩)))) fun hb => .pure ⟨by rw [if_neg (Bool.eq_false_iff.1 hb)],rfl⟩) fun w ⟨w1,w2⟩ => ?_
 exact .bif (fun hb => .gd (capOK_le (by rw [w2]; omega) rfl) (.pure (by rw [if_pos hb,w1,w2]))) fun hb => .pure (by rw [if_neg (Bool.eq_false_iff.1 hb),w1,w2])
theorem sexec_ret (hp : PV p) {s : List Int} (hs : s.length <= 1048576) (hg : Good p s s.length) : Ret (F_spec_l13Exec p s) (· = ⟨(runX p (ordF p s s.length)).1,(runX p (ordF p s s.length)).2⟩) := by
 have hel := evs_len hp.vs
 unfold F_spec_l13Exec
 refine (sevents hp.vs).bind fun v1 h1 => ?_
 subst h1
 refine Ret.bind (P:=(· = (List.replicate (evs p).length (-1),[]))) ?_ fun v2 h2 => ?_
 ·refine Ret.loop (fun z => ∃ n : Nat,n <= (evs p).length /\ z = (List.replicate n (-1),[],(n : Int))) (fun z => (((evs p).length : Int) - z.2.2).toNat) ⟨0,by omega,rfl⟩ fun z ⟨n,h1,h2⟩ => ?_
  subst h2
  unfold F_spec_l13Exec_L21
  refine .bifD (fun hk => .gd (capOK_le (by rw [List.length_replicate]; omega) rfl) (.gdI (by simp only []; omega) (.pure ⟨⟨n + 1,by simp only [] at hk; omega,?_⟩,by simp only [] at hk ⊢; omega⟩))) fun hk => .pure ?_
  ·rw [List.replicate_succ']
   rfl
  ·have : n = (evs p).length := by simp only [] at hk; omega
   subst this
   rfl
 subst h2
 refine Ret.bind (P:=(· = [[0],[1],[2]])) ?_ fun v2 h2 => ?_
 ·refine Ret.loop (fun z => ∃ n : Nat,n <= 3 /\ z = (([[0],[1],[2]] : List (List Int)).take n,(n : Int))) (fun z => (3 - z.2).toNat) ⟨0,by omega,rfl⟩ fun z ⟨n,h1,h2⟩ => ?_
  subst h2
  unfold F_spec_l13Exec_L59
  refine .bifD (fun h => ?_) fun h => .pure ?_
  ·match n,h1,h with
   | 0,_,_ => exact .gdC (by decide) rfl (.gdI (by decide) (.pure ⟨⟨1,by omega,rfl⟩,by decide⟩))
   | 1,_,_ => exact .gdC (by decide) rfl (.gdI (by decide) (.pure ⟨⟨2,by omega,rfl⟩,by decide⟩))
   | 2,_,_ => exact .gdC (by decide) rfl (.gdI (by decide) (.pure ⟨⟨3,by omega,rfl⟩,by decide⟩))
   | 3,_,h => exact absurd h (by decide)
  ·have : n = 3 := by simp only [] at h; omega
   subst this
   rfl
 subst h2
 refine (order_ret hp hs hg).bind fun v75 h75 => ?_
 have hok := ord_ok hp hg (Nat.le_refl s.length)
 have hln := ordF_len p s s.length
 rw [<- h75] at hok hln ⊢
 clear h75
 refine Ret.bind (P:=(· = runX p v75)) ?_ fun v hv => .pure (by rw [hv])
 refine Ret.loop (fun z => ∃ n : Nat,n <= v75.length /\ z = ((runX p (v75.take n)).1,(runX p (v75.take n)).2,(n : Int))) (fun z => ((v75.length : Int) - z.2.2).toNat) ⟨0,by omega,rfl⟩ fun z ⟨n,h1,h2⟩ => ?_
 subst h2
 unfold F_spec_l13Exec_L95
 refine .bifD (fun hk => ?_) fun hk => .pure ?_
 ·simp only [] at hk
  have hn : n < v75.length := by omega
  have en : v75.getD n default = v75[n] := by rw [List.getD_eq_getElem?_getD,List.getElem?_eq_getElem hn]; rfl
  have hx := hok _ (List.getElem_mem hn)
  rw [<- en] at hx
  have hin := InX.run (p:=p) (l:=v75.take n) fun x hx => hok x (List.mem_of_mem_take hx)
  rw [List.length_take,Nat.min_eq_left (by omega)] at hin
  simp only [Int.toNat_natCast]
  refine Ret.bind (P:=(· = runX p (v75.take (n + 1)))) (.gdD ⟨by omega,hk⟩ (.gdD hx.1 (.gdD ⟨hx.2.1,by rw [hin.o]; have := hx.2.2; omega⟩ ?_))) fun v hv => .gdI (by omega) (.pure ⟨⟨n + 1,by omega,by rw [hv]; rfl⟩,by simp only []; omega⟩)
  rw [<- List.take_append_getElem hn,runX_snoc,<- en]
  exact exec_step hin (by omega) hx rfl rfl rfl
 ·have : n = v75.length := by simp only [] at hk; omega
  subst this
  rw [List.take_length]
theorem get_set3i (a : Z3i) (q i v : Int) (hq : 0 <= q /\ q <= 2) (hi : 0 <= i /\ i <= 2) : Z3i.get (Z3i.set a q v) i = if i = q then v else Z3i.get a i := by
 obtain ⟨x,y,z⟩ := a
 have h1 : q = 0 \/ q = 1 \/ q = 2 := by omega
 have h2 : i = 0 \/ i = 1 \/ i = 2 := by omega
 rcases h1 with rfl | rfl | rfl <;> rcases h2 with rfl | rfl | rfl <;> rfl
theorem iexec_ret (hp : PV p) {s : List Int} (hs : s.length <= 1048576) (hg : Good p s s.length) : Ret (F_impl_execOf p s) (· = ⟨(runX p (ordF p s s.length)).1,(runX p (ordF p s s.length)).2⟩) := by
 have hl := hp.vs.1
 have hel := evs_len hp.vs
 have he3 : 3 <= (evs p).length := (evP_pre p (Nat.zero_le p.length)).length_le
 unfold F_impl_execOf
 refine (ievents hp.vs).bind fun v1 h1 => ?_
 subst h1
 refine (repeat_ret (by omega) (by omega) (-1)).bind fun v2 h2 => ?_
 subst h2
 refine (numbers_ret hp).bind fun v6 ⟨n1,n2⟩ => ?_
 refine Ret.bind (P:=fun z => z.1 = (runX p (ordF p s s.length)).1 /\ z.2.1 = (runX p (ordF p s s.length)).2) ?_ fun v hv => .pure (by rw [hv.1,hv.2])
 refine Ret.loop (fun z => ∃ n : Nat,n <= s.length /\ z.1 = (runX p (ordF p s n)).1 /\ z.2.1 = (runX p (ordF p s n)).2 /\ z.2.2.2.2.2 = (n : Int) /\ ∀ t : Nat,t < 3 -> Z3i.get ⟨z.2.2.1,z.2.2.2.1,z.2.2.2.2.1⟩ (t : Int) = ((s.take n).count (t : Int) : Int)) (fun z => ((s.length : Int) - z.2.2.2.2.2).toNat) ⟨0,by omega,rfl,rfl,rfl,fun t ht => ?_⟩ fun z ⟨n,h1,h2,h3,h4,h5⟩ => ?_
 ·simp only [Z3i.get,List.take_zero,List.count_nil]
  split <;> (try split) <;> rfl
 ·obtain ⟨f,o,a0,a1,a2,i⟩ := z
  simp only at h2 h3 h4 h5
  subst h2 h3 h4
  unfold F_impl_execOf_L25
  refine .bifD (fun hk => ?_) fun hk => .pure ?_
  ·simp only [] at hk
   simp only [Int.toNat_natCast]
   obtain ⟨g1,g2,g3⟩ := good_at hg (j:=n) (by omega)
   have hok := ord_ok hp hg (n:=n) (by omega)
   have hin := InX.run hok
   have hol := ordF_len p s n
   generalize ha : (⟨a0,a1,a2⟩ : Z3i) = a at h5 ⊢
   have hgt : Z3i.get a (s.getD n default) = (stK s n : Int) := by
    rw [<- g2,h5 _ (by omega),g2]
    rfl
   have hrow := hp.vs.2 (stT s n)
   have hx := hp.ins _ _ g1 g3
   have hT : (s.getD n default).toNat = stT s n := rfl
   have hnum : v6.getD (stT s n) default = numR p (stT s n) (p.getD (stT s n) default).length := n2 _ g1
   have hnl : (numR p (stT s n) (p.getD (stT s n) default).length).length = (p.getD (stT s n) default).length := by simp [numR]
   have hnk : (numR p (stT s n) (p.getD (stT s n) default).length).getD (stK s n) default = num p (stT s n) (stK s n) := by
    unfold numR
    rw [List.getD_eq_getElem?_getD,List.getElem?_map,List.getElem?_range g3]
    rfl
   simp only [hgt,hT,hnum,hnk,Int.toNat_natCast]
   refine Ret.bind (P:=(· = runX p (ordF p s (n + 1)))) (.gdD ⟨by omega,hk⟩ (.gdD (by omega) (.gdD (by omega) (.gdD (by omega) (.gdD (by rw [n1]; omega) (.gdD (by rw [hnl]; omega) (.gdI (by omega) ?_))))))) fun v hv => .gdI (by omega) (.pure ⟨⟨n + 1,by omega,by rw [hv],by rw [hv],rfl,fun t ht => ?_⟩,by simp only []; omega⟩)
   ·show Ret _ (· = runX p (ordF p s n ++ stepN p (stT s n) (stK s n)))
    refine .bif (fun ho => .pure ?_) fun ho => ?_
    ·have ho : ((p.getD (stT s n) default).getD (stK s n) default).Op = 4 := by simpa using ho
     rw [stepN,if_pos ho,List.append_nil]
    ·have ho : ¬ ((p.getD (stT s n) default).getD (stK s n) default).Op = 4 := by simpa using ho
     have hokn := step_ok hp g1 g3 (base p (stT s n) (stK s n) : Int) (by rw [stepN,if_neg ho]; simp)
     obtain ⟨e1,e2⟩ := num_ev g1 g3 ho
     rw [stepN,if_neg ho,runX_snoc,num,if_neg ho]
     refine .gdD ⟨hx.1,by rw [hin.o]; have := hx.2.1; omega⟩ ?_
     have key := exec_step hin (by omega) hokn (loc:=((p.getD (stT s n) default).getD (stK s n) default).Loc) (rd:=rdX ((p.getD (stT s n) default).getD (stK s n) default)) (wr:=wrX ((p.getD (stT s n) default).getD (stK s n) default)) (by rw [Int.toNat_natCast,e1]) (by rw [Int.toNat_natCast,e1]) (by rw [Int.toNat_natCast,e1])
     obtain ⟨b1,r1,r2⟩ := ireads ((p.getD (stT s n) default).getD (stK s n) default)
     obtain ⟨b2,w1,w2⟩ := iwrites ((p.getD (stT s n) default).getD (stK s n) default)
     subst r2 w2
     rw [r1,w1]
     exact key
   ·simp only []
    have e : (⟨(Z3i.set a (s.getD n default) ((stK s n : Int) + 1)).x0,(Z3i.set a (s.getD n default) ((stK s n : Int) + 1)).x1,(Z3i.set a (s.getD n default) ((stK s n : Int) + 1)).x2⟩ : Z3i) = Z3i.set a (s.getD n default) ((stK s n : Int) + 1) := rfl
    rw [e,get_set3i _ _ _ _ (by omega) (by omega),take_count (by omega),h5 t ht]
    by_cases e : (t : Int) = s.getD n default
    ·rw [if_pos e,if_pos e.symm]
     unfold stK
     rw [e]
     rfl
    ·rw [if_neg e,if_neg (Ne.symm e)]
     rfl
  ·simp only [] at hk
   have : n = s.length := by omega
   subst this
   exact ⟨rfl,rfl⟩
end
end Go.Proofs.Ytlmjnhnpahicmaa
