/-
 A schedule's run: impl's and spec's go alike. Plain theorems. No conditions.
-/
import Derived.Test.YtlmjnhnpahicmaaDg
namespace Go.Proofs.Ytlmjnhnpahicmaa
open Go.RowKit
set_option maxRecDepth 100000
theorem get_set3 (a : Z3b) (q i v : Int) (hq : 0 <= q /\ q <= 2) (hi : 0 <= i /\ i <= 2) : Z3b.get (Z3b.set a q v) i = if i = q then v else Z3b.get a i := by
 obtain ⟨x,y,z⟩ := a
 have h1 : q = 0 \/ q = 1 \/ q = 2 := by omega
 have h2 : i = 0 \/ i = 1 \/ i = 2 := by omega
 rcases h1 with rfl | rfl | rfl <;> rcases h2 with rfl | rfl | rfl <;> rfl
theorem get_set33 (a : Z33) (q i : Int) (v : Z3b) (hq : 0 <= q /\ q <= 2) (hi : 0 <= i /\ i <= 2) : Z33.get (Z33.set a q v) i = if i = q then v else Z33.get a i := by
 obtain ⟨x,y,z⟩ := a
 have h1 : q = 0 \/ q = 1 \/ q = 2 := by omega
 have h2 : i = 0 \/ i = 1 \/ i = 2 := by omega
 rcases h1 with rfl | rfl | rfl <;> rcases h2 with rfl | rfl | rfl <;> rfl
theorem getD_set_eq {l : List Int} {i j : Nat} {v : Int} (hj : i < l.length) : (l.set i v).getD j default = if j = i then v else l.getD j default := by
 rw [List.getD_eq_getElem?_getD,List.getElem?_set]
 by_cases e : i = j
 ·subst e
  rw [if_pos rfl,if_pos hj,if_pos rfl]
  rfl
 ·rw [if_neg e,if_neg (Ne.symm e),List.getD_eq_getElem?_getD]
theorem getD_memI {l : List Int} {i : Nat} (h : i < l.length) : l.getD i default ∈ l := by
 rw [List.getD_eq_getElem?_getD,List.getElem?_eq_getElem h]
 exact List.getElem_mem _
theorem set_allI {l : List Int} {P : Int -> Prop} (h : ∀ v ∈ l,P v) {i : Nat} {x : Int} (hx : P x) : ∀ v ∈ l.set i x,P v := fun v hv => by
 rcases List.mem_or_eq_of_mem_set hv with hv | rfl
 ·exact h v hv
 ·exact hx
structure Rel (p : List (List ZIn)) (u : ZVa) (z : ZSt) : Prop where
 up : u.p = p
 al : z.at_.length = p.length
 a : ∀ i : Nat,i < p.length -> z.at_.getD i default = Z3b.get u.pc i
 al1 : ∀ i : Nat,i < p.length -> 0 <= z.at_.getD i default /\ z.at_.getD i default <= ((p.getD i default).length : Int)
 rl : z.regs.length = 3 * p.length
 r : ∀ t g : Nat,t < p.length -> g < 3 -> z.regs.getD (3 * t + g) default = Z3b.get (Z33.get u.reg t) g
 rv : ∀ v ∈ z.regs,0 <= v /\ v <= 3
 ml : z.mem.length = 3
 m : ∀ l : Nat,l < 3 -> z.mem.getD l default = Z3b.get u.mem l
 mv : ∀ v ∈ z.mem,0 <= v /\ v <= 3
 b : z.buf = []
theorem Ret.sumR {S W : Type} {a : Option (S ⊕ W)} {f : S -> Option W} {w : W} (h : Ret a (· = .inr w)) : Ret (sumK a f) (· = w) := by
 obtain ⟨v,rfl,rfl⟩ := h
 exact ⟨w,rfl,rfl⟩
theorem Ret.sumL {S W : Type} {a : Option (S ⊕ W)} {f : S -> Option W} {w : W} {s : S} (h : Ret a (· = .inl s)) (k : Ret (f s) (· = w)) : Ret (sumK a f) (· = w) := by
 obtain ⟨v,rfl,rfl⟩ := h
 exact k
section
variable {p : List (List ZIn)} {u : ZVa} {z : ZSt}
theorem Rel.regv (h : Rel p u z) {t g : Nat} (ht : t < p.length) (hg : g < 3) : 0 <= Z3b.get (Z33.get u.reg t) g /\ Z3b.get (Z33.get u.reg t) g <= 3 := by
 rw [<- h.r t g ht hg]
 exact h.rv _ (getD_memI (by rw [h.rl]; omega))
theorem Rel.memv (h : Rel p u z) {l : Nat} (hl : l < 3) : 0 <= Z3b.get u.mem l /\ Z3b.get u.mem l <= 3 := by
 rw [<- h.m l hl]
 exact h.mv _ (getD_memI (by rw [h.ml]; omega))
theorem next_ret (hp : PV p) (h : Rel p u z) {t : Int} (ht : 0 <= t /\ t < (p.length : Int)) : Ret (F_impl_values_next u t) fun v => v.2 = decide (z.at_.getD t.toNat default < ((p.getD t.toNat default).length : Int)) /\ (v.2 = true -> v.1 = (p.getD t.toNat default).getD (z.at_.getD t.toNat default).toNat default) := by
 have hl := hp.vs.1
 have hr := hp.vs.2 t.toNat
 have h1 := h.al1 t.toNat (by omega)
 have h2 := h.a t.toNat (by omega)
 rw [Int.toNat_of_nonneg ht.1] at h2
 unfold F_impl_values_next
 rw [h.up,<- h2]
 refine .gdD ⟨ht.1,by omega⟩ (.gdI (by omega) (.gdD ht (.bifD (fun hle => .pure ⟨?_,nofun⟩) fun hle => .gdD ⟨h1.1,by omega⟩ (.pure ⟨?_,fun _ => rfl⟩))))
 ·simp only []
  rw [decide_eq_false (by omega)]
 ·simp only []
  rw [decide_eq_true (by omega)]
theorem moves_ret (hp : PV p) (h : Rel p u z) : Ret (F_impl_seq_moves ⟨u⟩) fun l => l.length <= 3 /\ ∀ m : Int,m ∈ l ↔ (0 <= m /\ m < (p.length : Int)) /\ z.at_.getD m.toNat default < ((p.getD m.toNat default).length : Int) := by
 have hl := hp.vs.1
 unfold F_impl_seq_moves
 refine Ret.bind (P:=fun l => l.length <= 3 /\ ∀ m : Int,m ∈ l ↔ (0 <= m /\ m < (p.length : Int)) /\ z.at_.getD m.toNat default < ((p.getD m.toNat default).length : Int)) ?_ fun v hv => .pure hv
 refine Ret.loop (fun s => 0 <= s.2 /\ s.2 <= (p.length : Int) /\ (s.1.length : Int) <= s.2 /\ ∀ m : Int,m ∈ s.1 ↔ (0 <= m /\ m < s.2) /\ z.at_.getD m.toNat default < ((p.getD m.toNat default).length : Int)) (fun s => ((p.length : Int) - s.2).toNat) ⟨Int.le_refl _,by simp only []; omega,by simp,fun m => ⟨nofun,fun ⟨⟨h1,h2⟩,_⟩ => absurd h2 (by simp only []; omega)⟩⟩ fun s ⟨h1,h2,h3,h4⟩ => ?_
 unfold F_impl_seq_moves_L8
 simp only [h.up]
 refine .bifD (fun hlt => ?_) fun hge => .pure ?_
 ·refine Ret.bind (P:=fun l : List Int => (l.length : Int) <= s.2 + 1 /\ ∀ m : Int,m ∈ l ↔ (0 <= m /\ m < s.2 + 1) /\ z.at_.getD m.toNat default < ((p.getD m.toNat default).length : Int)) ?_ fun v ⟨v1,v2⟩ => .gdI (by omega) (.pure ⟨⟨by simp only []; omega,by simp only []; omega,v1,v2⟩,by simp only []; omega⟩)
  refine (next_ret hp h ⟨h1,hlt⟩).bind fun v ⟨e1,_⟩ => .bif (fun hb => .gd (capOK_le (by omega) rfl) (.pure ⟨by rw [List.length_append]; simp; omega,fun m => ?_⟩)) fun hb => .pure ⟨by omega,fun m => ?_⟩
  ·rw [hb] at e1
   have e1 := of_decide_eq_true e1.symm
   rw [List.mem_append,h4,List.mem_singleton]
   constructor
   ·rintro (⟨⟨g1,g2⟩,g3⟩ | rfl)
    ·exact ⟨⟨g1,by omega⟩,g3⟩
    ·exact ⟨⟨h1,by omega⟩,e1⟩
   ·rintro ⟨⟨g1,g2⟩,g3⟩
    by_cases e : m = s.2
    ·exact .inr e
    ·exact .inl ⟨⟨g1,by omega⟩,g3⟩
  ·rw [hb] at e1
   have e1 := of_decide_eq_false e1.symm
   rw [h4]
   constructor
   ·rintro ⟨⟨g1,g2⟩,g3⟩
    exact ⟨⟨g1,by omega⟩,g3⟩
   ·rintro ⟨⟨g1,g2⟩,g3⟩
    refine ⟨⟨g1,?_⟩,g3⟩
    by_cases e : m = s.2
    ·subst e; exact absurd g3 e1
    ·omega
 ·have : s.2 = (p.length : Int) := by omega
  rw [<- this]
  exact ⟨by omega,h4⟩
theorem contains_ret (s : List Int) (v : Int) (hs : s.length <= 1048576) : Ret (F_slices_Contains_int_int s v) (· = decide (v ∈ s)) := by
 unfold F_slices_Contains_int_int
 refine Ret.bind (P:=fun r : Int => 0 <= r ↔ v ∈ s) ?_ fun r hr => .pure (decide_eq_decide.2 hr)
 unfold F_slices_Index_int_int
 refine Ret.sum (PS:=fun _ => v ∉ s) (PW:=fun r : Int => 0 <= r ↔ v ∈ s) ?_ fun _ hn => .pure ⟨fun h => absurd h (by decide),fun h => absurd h hn⟩
 refine Ret.loop (fun i => 0 <= i /\ i <= (s.length : Int) /\ ∀ j : Nat,(j : Int) < i -> s[j]? ≠ some v) (fun i => ((s.length : Int) - i).toNat) ⟨Int.le_refl _,by omega,fun j hj => absurd hj (by omega)⟩ fun i ⟨h1,h2,h3⟩ => ?_
 unfold F_slices_Index_int_int_L5
 refine .bifD (fun hlt => .gdD ⟨h1,hlt⟩ ?_) fun hge => .pure fun hm => ?_
 ·have hi : i.toNat < s.length := by omega
  have e : s.getD i.toNat default = s[i.toNat] := by rw [List.getD_eq_getElem?_getD,List.getElem?_eq_getElem hi]; rfl
  rw [e]
  refine .bif (fun hb => .pure ⟨fun _ => ?_,fun _ => h1⟩) fun hb => .gdI (by omega) (.pure ⟨⟨by omega,by omega,fun j hj => ?_⟩,by omega⟩)
  ·have : v = s[i.toNat] := by simpa using hb
   rw [this]
   exact List.getElem_mem _
  ·by_cases ej : j = i.toNat
   ·subst ej
    rw [List.getElem?_eq_getElem hi]
    intro he
    have := Option.some.inj he
    rw [this] at hb
    simp at hb
   ·exact h3 j (by omega)
 ·obtain ⟨j,hj,rfl⟩ := List.getElem_of_mem hm
  exact h3 j (by omega) (List.getElem?_eq_getElem hj)
def valI (u : ZVa) (t : Int) (x : ZIn) : Int := if x.Op = 3 then Z3b.get (Z33.get u.reg t) x.Reg else x.Val
def aftI (u : ZVa) (t : Int) (x : ZIn) : ZVa :=
 ⟨u.p,Z3b.set u.pc t (Z3b.get u.pc t + 1),if rdX x = true then Z33.set u.reg t (Z3b.set (Z33.get u.reg t) x.Reg (Z3b.get u.mem x.Loc)) else u.reg,if wrX x = true then Z3b.set u.mem x.Loc (valI u t x) else u.mem⟩
def valS (z : ZSt) (t : Int) (x : ZIn) : Int := if x.Op = 3 then z.regs.getD (t * 3 + x.Reg).toNat default else x.Val
def aftS (z : ZSt) (t : Int) (x : ZIn) : ZSt :=
 ⟨z.at_.set t.toNat (z.at_.getD t.toNat default + 1),if rdX x = true then z.regs.set (t * 3 + x.Reg).toNat (z.mem.getD x.Loc.toNat default) else z.regs,if wrX x = true then z.mem.set x.Loc.toNat (valS z t x) else z.mem,[]⟩
theorem after_ret (hp : PV p) (h : Rel p u z) {t : Int} (ht : 0 <= t /\ t < (p.length : Int)) (hlt : z.at_.getD t.toNat default < ((p.getD t.toNat default).length : Int)) :
  Ret (F_impl_seq_after ⟨u⟩ t) (· = ⟨aftI u t ((p.getD t.toNat default).getD (z.at_.getD t.toNat default).toNat default)⟩) := by
 have hl := hp.vs.1
 have h1 := h.al1 t.toNat (by omega)
 have h2 := h.a t.toNat (by omega)
 have hr7 := hp.vs.2 t.toNat
 rw [Int.toNat_of_nonneg ht.1] at h2
 have hx := hp.ins t.toNat (z.at_.getD t.toNat default).toNat (by omega) (by omega)
 unfold F_impl_seq_after
 refine (next_ret hp h ht).bind fun v ⟨e1,e2⟩ => ?_
 have e3 := e2 (e1.trans (decide_eq_true hlt))
 rw [<- e3] at hx ⊢
 generalize v.1 = x at hx ⊢
 obtain ⟨x1,x2,x3,x4,x5,x6⟩ := hx
 refine .gdD ⟨ht.1,by omega⟩ (.gdY (by simp only []; omega) ?_)
 have hrg := fun g hg => h.regv (t:=t.toNat) (g:=g) (by omega) hg
 rw [Int.toNat_of_nonneg ht.1] at hrg
 refine Ret.bind (P:=(· = valI u t x)) ?_ fun v4 hv4 => ?_
 ·unfold F_impl_values_stored valI
  refine .bif (fun ho => .gdD ⟨ht.1,by omega⟩ (.gdD ⟨x3,by simp only []; omega⟩ (.pure ?_))) fun ho => .gdY (by simp only []; omega) (.pure ?_)
  ·rw [if_pos (by simpa using ho)]
  ·rw [if_neg (by simpa using ho)]
 subst hv4
 have hr : Ret (bif rdX x then
   gd (decide (0 <= x.Loc /\ x.Loc < 3)) <|
   gd (decide (0 <= x.Reg /\ x.Reg < 3)) <|
   some (Z33.set u.reg t (Z3b.set (Z33.get u.reg t) x.Reg (Z3b.get u.mem x.Loc)))
  else some u.reg) (· = if rdX x = true then Z33.set u.reg t (Z3b.set (Z33.get u.reg t) x.Reg (Z3b.get u.mem x.Loc)) else u.reg) :=
  .bif (fun hb => .gdD ⟨x1,by omega⟩ (.gdD ⟨x3,by omega⟩ (.pure (by rw [if_pos hb])))) fun hb => .pure (by rw [if_neg (by simp [hb])])
 refine Ret.bind (P:=fun w => (⟨⟨w.1,w.2.1,w.2.2.1⟩,⟨w.2.2.2.1,w.2.2.2.2.1,w.2.2.2.2.2.1⟩,⟨w.2.2.2.2.2.2.1,w.2.2.2.2.2.2.2.1,w.2.2.2.2.2.2.2.2⟩⟩ : Z33) = if rdX x = true then Z33.set u.reg t (Z3b.set (Z33.get u.reg t) x.Reg (Z3b.get u.mem x.Loc)) else u.reg) ?_ fun w5 hw5 => ?_
 ·refine (ireads _).bind fun b hb => ?_
  have hb' : b = rdX x := hb
  refine .bif (fun hc => .gdD ⟨x1,by omega⟩ (.gdD ⟨x3,by omega⟩ (.pure ?_))) fun hc => .pure ?_
  ·rw [if_pos (by rw [<- hb']; exact hc)]
  ·rw [if_neg (by rw [<- hb',hc]; decide)]
 refine Ret.bind (P:=fun w => (⟨w.1,w.2.1,w.2.2⟩ : Z3b) = if wrX x = true then Z3b.set u.mem x.Loc (valI u t x) else u.mem) ?_ fun w10 hw10 => .pure ?_
 ·refine (iwrites _).bind fun b hb => ?_
  have hb' : b = wrX x := hb
  refine .bif (fun hc => .gdD ⟨x1,by omega⟩ (.pure ?_)) fun hc => .pure ?_
  ·rw [if_pos (by rw [<- hb']; exact hc)]
  ·rw [if_neg (by rw [<- hb',hc]; decide)]
 ·unfold aftI
  rw [hw5,hw10]
theorem copy_ret (h : Rel p u z) (hl : p.length <= 3) : Ret (F_spec_l3Copy z) (· = z) := by
 have ha := h.al
 have hr := h.rl
 have hm := h.ml
 unfold F_spec_l3Copy
 refine .gd (capOK_le (by simp; omega) rfl) (.gd (capOK_le (by simp; omega) rfl) (.gd (capOK_le (by simp; omega) rfl) ?_))
 refine Ret.bind (P:=fun _ => True) ?_ fun _ _ => .pure ?_
 ·refine Ret.loop (fun _ => True) (fun _ => 0) trivial fun s _ => ?_
  unfold F_spec_l3Copy_L7
  refine .bifD (fun h0 => ?_) fun _ => .pure trivial
  rw [h.b] at h0
  exact absurd h0 (by simp)
 ·have hb := h.b
  cases z
  simp only at hb
  subst hb
  rfl
theorem do_ret (hp : PV p) (h : Rel p u z) {t : Int} (ht : 0 <= t /\ t < (p.length : Int)) (hlt : z.at_.getD t.toNat default < ((p.getD t.toNat default).length : Int)) :
  Ret (F_spec_l3Do p z t) (· = aftS z t ((p.getD t.toNat default).getD (z.at_.getD t.toNat default).toNat default)) := by
 have hl := hp.vs.1
 have h1 := h.al1 t.toNat (by omega)
 have hr7 := hp.vs.2 t.toNat
 have hx := hp.ins t.toNat (z.at_.getD t.toNat default).toNat (by omega) (by omega)
 unfold F_spec_l3Do
 generalize (p.getD t.toNat default).getD (z.at_.getD t.toNat default).toNat default = x at hx ⊢
 obtain ⟨x1,x2,x3,x4,x5,x6⟩ := hx
 have hreg : F_spec_l3Reg t x.Reg = some (t * 3 + x.Reg) := by
  unfold F_spec_l3Reg
  rw [gd_true (inI_of (by omega)),gd_true (inI_of (by omega))]
 refine (copy_ret h hl).bind fun v1 e => ?_
 subst e
 refine .gdD ht (.gdD (by rw [h.al]; exact ht) (.gdD ⟨h1.1,hlt⟩ (.gdI (by omega) (.gdD (by rw [h.al]; exact ht) ?_))))
 refine Ret.bind (P:=(· = if rdX x = true then v1.regs.set (t * 3 + x.Reg).toNat (v1.mem.getD x.Loc.toNat default) else v1.regs)) ?_ fun w5 hw5 => ?_
 ·refine (sreads _).bind fun b hb => ?_
  have hb' : b = rdX x := hb
  refine .bif (fun hc => (Ret.of (P:=(· = t * 3 + x.Reg)) hreg rfl).bind fun v hv => ?_) fun hc => .pure ?_
  ·subst hv
   exact .gdD ⟨x1,by rw [h.ml]; omega⟩ (.gdD ⟨by omega,by rw [h.rl]; omega⟩ (.pure (by rw [if_pos (by rw [<- hb']; exact hc)])))
  ·rw [if_neg (by rw [<- hb',hc]; decide)]
 subst hw5
 refine Ret.bind (P:=(· = if wrX x = true then v1.mem.set x.Loc.toNat (valS v1 t x) else v1.mem)) ?_ fun w10 hw10 => .pure (by rw [hw10]; rfl)
 refine (swrites _).bind fun b hb => ?_
 have hb' : b = wrX x := hb
 refine .bif (fun hc => ?_) fun hc => .pure ?_
 ·refine Ret.bind (P:=(· = valS v1 t x)) ?_ fun v hv => .gdD ⟨x1,by rw [h.ml]; omega⟩ (.pure (by rw [if_pos (by rw [<- hb']; exact hc),hv]))
  unfold F_spec_l3Value valS
  refine .bif (fun ho => (Ret.of (P:=(· = t * 3 + x.Reg)) hreg rfl).bind fun v hv => ?_) fun ho => .pure ?_
  ·subst hv
   exact .gdD ⟨by omega,by rw [h.rl]; omega⟩ (.pure (by rw [if_pos (by simpa using ho)]))
  ·rw [if_neg (by simpa using ho)]
 ·rw [if_neg (by rw [<- hb',hc]; decide)]
theorem Rel.after (hp : PV p) (h : Rel p u z) {t : Int} (ht : 0 <= t /\ t < (p.length : Int)) (hlt : z.at_.getD t.toNat default < ((p.getD t.toNat default).length : Int)) {x : ZIn} (hx : InR x) : Rel p (aftI u t x) (aftS z t x) := by
 have hl := hp.vs.1
 obtain ⟨n,rfl⟩ : ∃ n : Nat,t = n := ⟨t.toNat,by omega⟩
 simp only [Int.toNat_natCast] at hlt
 have hn : n < p.length := by omega
 obtain ⟨x1,x2,x3,x4,x5,x6⟩ := hx
 obtain ⟨l,hlx⟩ : ∃ l : Nat,x.Loc = l := ⟨x.Loc.toNat,by omega⟩
 obtain ⟨g,hgx⟩ : ∃ g : Nat,x.Reg = g := ⟨x.Reg.toNat,by omega⟩
 have e3 : ((n : Int) * 3 + (g : Int)).toNat = 3 * n + g := by omega
 have hval : valI u n x = valS z n x := by
  unfold valI valS
  split
  ·rw [hgx,e3,h.r n g hn (by omega)]
  ·rfl
 have hvv : 0 <= valS z n x /\ valS z n x <= 3 := by
  rw [<- hval]
  unfold valI
  split
  ·rw [hgx]
   exact h.regv hn (by omega)
  ·omega
 unfold aftI aftS
 simp only [Int.toNat_natCast]
 refine ⟨h.up,by simp only [List.length_set]; exact h.al,fun i hi => ?_,fun i hi => ?_,?_,fun t' g' ht' hg' => ?_,?_,?_,fun l' hl' => ?_,?_,rfl⟩
 ·simp only []
  rw [getD_set_eq (by rw [h.al]; exact hn),get_set3 _ _ _ _ (by omega) (by omega),h.a i hi,h.a n hn]
  by_cases e : i = n
  ·rw [if_pos e,if_pos (by omega)]
  ·rw [if_neg e,if_neg (by omega)]
 ·simp only []
  rw [getD_set_eq (by rw [h.al]; exact hn)]
  by_cases e : i = n
  ·subst e
   have := h.al1 i hi
   rw [if_pos rfl]
   omega
  ·rw [if_neg e]
   exact h.al1 i hi
 ·simp only []
  split
  ·rw [List.length_set]; exact h.rl
  ·exact h.rl
 ·simp only []
  split
  ·rw [hlx,hgx,e3,Int.toNat_natCast,getD_set_eq (by rw [h.rl]; omega),get_set33 _ _ _ _ (by omega) (by omega)]
   by_cases e : t' = n
   ·subst e
    rw [if_pos rfl,get_set3 _ _ _ _ (by omega) (by omega)]
    by_cases e2 : g' = g
    ·subst e2
     rw [if_pos rfl,if_pos rfl,h.m l (by omega)]
    ·rw [if_neg (by omega),if_neg (by omega)]
     exact h.r t' g' ht' hg'
   ·rw [if_neg (by omega),if_neg (by omega)]
    exact h.r t' g' ht' hg'
  ·exact h.r t' g' ht' hg'
 ·simp only []
  split
  ·refine set_allI h.rv ?_
   rw [hlx,Int.toNat_natCast,h.m l (by omega)]
   exact h.memv (by omega)
  ·exact h.rv
 ·simp only []
  split
  ·rw [List.length_set]; exact h.ml
  ·exact h.ml
 ·simp only []
  split
  ·rw [hlx,Int.toNat_natCast,getD_set_eq (by rw [h.ml]; omega),get_set3 _ _ _ _ (by omega) (by omega),hval]
   by_cases e : l' = l
   ·rw [if_pos e,if_pos (by omega)]
   ·rw [if_neg e,if_neg (by omega)]
    exact h.m l' hl'
  ·exact h.m l' hl'
 ·simp only []
  split
  ·exact set_allI h.mv hvv
  ·exact h.mv
theorem start_ret (hp : PV p) : Ret (F_spec_l3Start p (0 : Int)) (Rel p ⟨p,⟨0,0,0⟩,⟨⟨0,0,0⟩,⟨0,0,0⟩,⟨0,0,0⟩⟩,⟨0,0,0⟩⟩) := by
 have hl := hp.vs.1
 have z3 : ∀ i : Int,Z3b.get ⟨0,0,0⟩ i = 0 := fun i => by
  simp only [Z3b.get]
  split <;> (try split) <;> rfl
 have z33 : ∀ i : Int,Z33.get ⟨⟨0,0,0⟩,⟨0,0,0⟩,⟨0,0,0⟩⟩ i = ⟨0,0,0⟩ := fun i => by
  simp only [Z33.get]
  split <;> (try split) <;> rfl
 have zr : ∀ n i : Nat,(List.replicate n (default : Int)).getD i default = 0 := fun n i => by
  rw [List.getD_eq_getElem?_getD,List.getElem?_replicate]
  split <;> rfl
 unfold F_spec_l3Start
 refine .gdD (by omega) (.gdI (by omega) (.gdD (by omega) (.gdD (by decide) (.gdD (by decide) (.pure ⟨rfl,by simp,fun i hi => ?_,fun i hi => ?_,by simp; omega,fun t g ht hg => ?_,fun v hv => ?_,by simp,fun l hl => ?_,fun v hv => ?_,by simp⟩)))))
 ·simp only [zr,z3]
 ·simp only [zr]; omega
 ·simp only [zr,z33,z3]
 ·rw [List.eq_of_mem_replicate hv]; decide
 ·simp only [zr,z3]
 ·rw [List.eq_of_mem_replicate hv]; decide
def Good (p : List (List ZIn)) (s : List Int) (n : Nat) : Prop := ∀ j,j < n -> (0 <= s.getD j default /\ s.getD j default < (p.length : Int)) /\ (s.take j).count (s.getD j default) < (p.getD (s.getD j default).toNat default).length
theorem take_count {s : List Int} {i : Nat} (h : i < s.length) (v : Int) : (s.take (i + 1)).count v = (s.take i).count v + if s.getD i default = v then 1 else 0 := by
 have e : s.getD i default = s[i] := by rw [List.getD_eq_getElem?_getD,List.getElem?_eq_getElem h]; rfl
 rw [<- List.take_append_getElem h,List.count_append,List.count_singleton,e]
 simp only [beq_iff_eq]
theorem run_step (hp : PV p) {s : List Int} {i : Nat} (hs : s.length <= 1048576) (hi : i < s.length) (h : Rel p u z) :
  (¬ ((0 <= s.getD i default /\ s.getD i default < (p.length : Int)) /\ z.at_.getD (s.getD i default).toNat default < ((p.getD (s.getD i default).toNat default).length : Int)) -> F_impl_follow__impl_seq_L5 s ((i : Int),⟨u⟩) = some (.inr (.inr (none,false))) /\ F_spec_RunSchedule_L8 p s (z.at_,z.regs,z.mem,z.buf,(i : Int)) = some (.inr (.inr ([],false)))) /\
  (((0 <= s.getD i default /\ s.getD i default < (p.length : Int)) /\ z.at_.getD (s.getD i default).toNat default < ((p.getD (s.getD i default).toNat default).length : Int)) -> ∃ u' z',F_impl_follow__impl_seq_L5 s ((i : Int),⟨u⟩) = some (.inl (((i + 1 : Nat) : Int),⟨u'⟩)) /\ F_spec_RunSchedule_L8 p s (z.at_,z.regs,z.mem,z.buf,(i : Int)) = some (.inl (z'.at_,z'.regs,z'.mem,z'.buf,((i + 1 : Nat) : Int))) /\ Rel p u' z' /\ z'.at_ = z.at_.set (s.getD i default).toNat (z.at_.getD (s.getD i default).toNat default + 1)) := by
 have hl := hp.vs.1
 have hc : (i : Int) < (s.length : Int) := by omega
 generalize hm : s.getD i default = m
 have hcond : Ret (bif decide (m < (0 : Int)) then some true
   else bif decide ((p.length : Int) <= m) then some true
   else gd (decide (0 <= m /\ m < (z.at_.length : Int))) <| gd (decide (0 <= m /\ m < (p.length : Int))) <|
    some ((z.at_.getD m.toNat default) == ((p.getD m.toNat default).length : Int))) (· = !decide ((0 <= m /\ m < (p.length : Int)) /\ z.at_.getD m.toNat default < ((p.getD m.toNat default).length : Int))) := by
  refine .bifD (fun h1 => .pure (by rw [decide_eq_false (by omega)]; rfl)) fun h1 => .bifD (fun h2 => .pure (by rw [decide_eq_false (by omega)]; rfl)) fun h2 => .gdD ⟨by omega,by rw [h.al]; omega⟩ (.gdD ⟨by omega,by omega⟩ (.pure ?_))
  have := h.al1 m.toNat (by omega)
  by_cases e : z.at_.getD m.toNat default = ((p.getD m.toNat default).length : Int)
  ·rw [decide_eq_false (by omega),e]
   simp
  ·rw [decide_eq_true (by omega)]
   simpa using e
 have hmv := moves_ret hp h
 constructor
 ·intro hbad
  have hb := decide_eq_false hbad
  constructor
  ·refine Ret.eq ?_
   unfold F_impl_follow__impl_seq_L5
   simp only [Int.toNat_natCast,hm]
   refine .bifD (fun _ => .gdD ⟨by omega,hc⟩ (hmv.bind fun l ⟨hll,hl'⟩ => ?_)) fun hn => absurd hc hn
   refine (contains_ret l m (by omega)).bind fun b hb' => ?_
   subst hb'
   refine .bif (fun _ => .pure rfl) fun hn => ?_
   have := (hl' m).1 (by simpa using hn)
   exact absurd this hbad
  ·refine Ret.eq ?_
   unfold F_spec_RunSchedule_L8
   simp only [Int.toNat_natCast,hm]
   refine .bifD (fun _ => ?_) fun hn => absurd hc hn
   refine Ret.sumR (.gdD ⟨by omega,hc⟩ (.sumR (hcond.bind fun b hb' => ?_)))
   rw [hb] at hb'
   subst hb'
   exact .pure rfl
 ·intro hok
  have hb := decide_eq_true hok
  have hx := hp.ins m.toNat (z.at_.getD m.toNat default).toNat (by omega) (by have := h.al1 m.toNat (by omega); omega)
  refine ⟨_,_,?_,?_,h.after hp hok.1 hok.2 hx,rfl⟩
  ·refine Ret.eq ?_
   unfold F_impl_follow__impl_seq_L5
   simp only [Int.toNat_natCast,hm]
   refine .bifD (fun _ => .gdD ⟨by omega,hc⟩ (hmv.bind fun l ⟨hll,hl'⟩ => ?_)) fun hn => absurd hc hn
   refine (contains_ret l m (by omega)).bind fun b hb' => ?_
   subst hb'
   refine .bif (fun hn => ?_) fun _ => (after_ret hp h hok.1 hok.2).bind fun v hv => .gdI (by omega) (.pure (by rw [hv]; rfl))
   have := (hl' m).2 hok
   simp [this] at hn
  ·refine Ret.eq ?_
   unfold F_spec_RunSchedule_L8
   simp only [Int.toNat_natCast,hm]
   refine .bifD (fun _ => ?_) fun hn => absurd hc hn
   refine Ret.sumL (s:=((aftS z m ((p.getD m.toNat default).getD (z.at_.getD m.toNat default).toNat default)).at_,(aftS z m ((p.getD m.toNat default).getD (z.at_.getD m.toNat default).toNat default)).regs,(aftS z m ((p.getD m.toNat default).getD (z.at_.getD m.toNat default).toNat default)).mem,(aftS z m ((p.getD m.toNat default).getD (z.at_.getD m.toNat default).toNat default)).buf)) (.gdD ⟨by omega,hc⟩ (.sumL (s:=()) (hcond.bind fun b hb' => ?_) ((do_ret hp h hok.1 hok.2).bind fun v hv => by subst hv; exact .pure rfl))) (.gdI (by omega) (.pure rfl))
   rw [hb] at hb'
   subst hb'
   exact .pure rfl
end
end Go.Proofs.Ytlmjnhnpahicmaa
