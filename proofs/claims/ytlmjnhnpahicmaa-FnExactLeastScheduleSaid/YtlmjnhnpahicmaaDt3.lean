/-
 Relations of spec as rows of bits; what comes before what in a candidate. Plain theorems. No conditions.
-/
import Derived.Test.YtlmjnhnpahicmaaDt2
import Derived.Test.YtlmjnhnpahicmaaS33d
namespace Go.Proofs.Ytlmjnhnpahicmaa
open Go.RowKit
set_option maxRecDepth 100000
theorem beqD (a b : Int) : (a == b) = decide (a = b) := by rw [Bool.eq_iff_iff]; simp
theorem wrap_nat {n : Nat} (h : n < 9223372036854775808) : IntKind.wrap .i64 (n : Int) = (n : Int) := by
 simp only [IntKind.wrap]
 show (let m := (n : Int) % 18446744073709551616; if true && m >= (9223372036854775808 : Int) then m - 18446744073709551616 else m) = n
 have : (n : Int) % 18446744073709551616 = n := by omega
 simp only [this]
 rw [if_neg]
 simp
 omega
theorem bOr_nat {a b : Nat} (ha : a < 9223372036854775808) (hb : b < 9223372036854775808) : bOr .i64 (a : Int) (b : Int) = ((a ||| b : Nat) : Int) := by
 have hlt : (a ||| b) < 2 ^ 63 := Nat.or_lt_two_pow ha hb
 show IntKind.wrap .i64 (((BitVec.ofInt 64 (a : Int) ||| BitVec.ofInt 64 (b : Int)).toNat : Nat) : Int) = _
 have h1 : (BitVec.ofInt 64 (a : Int)).toNat = a := by rw [BitVec.ofInt_natCast,BitVec.toNat_ofNat]; omega
 have h2 : (BitVec.ofInt 64 (b : Int)).toNat = b := by rw [BitVec.ofInt_natCast,BitVec.toNat_ofNat]; omega
 rw [BitVec.toNat_or,h1,h2]
 exact wrap_nat hlt
theorem bShl_one {k : Nat} (h : k < 62) : bShl .i64 1 (k : Int) = ((2 ^ k : Nat) : Int) := by
 show IntKind.wrap .i64 (1 * 2 ^ (min (k : Int).toNat 64)) = _
 have hm : min (k : Int).toNat 64 = k := by omega
 rw [hm,Int.one_mul,show (2 : Int) ^ k = ((2 ^ k : Nat) : Int) by simp]
 refine wrap_nat ?_
 have := Nat.pow_lt_pow_right (a:=2) (by omega) (show k < 63 by omega)
 omega
theorem bit_is {m k : Nat} (hm : m < 9223372036854775808) (hk : k < 62) : bAnd .i64 (bShr .i64 (m : Int) (k : Int)) 1 = if m.testBit k then 1 else 0 := by
 have h1 : bShr .i64 (m : Int) (k : Int) = ((m / 2 ^ k : Nat) : Int) := by
  show (m : Int).fdiv (2 ^ (min (k : Int).toNat 64)) = _
  have hm : min (k : Int).toNat 64 = k := by omega
  rw [hm,show (2 : Int) ^ k = ((2 ^ k : Nat) : Int) by simp,Int.fdiv_eq_ediv_of_nonneg _ (Int.natCast_nonneg _)]
  rfl
 have hlt : m / 2 ^ k < 9223372036854775808 := Nat.lt_of_le_of_lt (Nat.div_le_self _ _) hm
 rw [h1]
 show IntKind.wrap .i64 (((BitVec.ofInt 64 ((m / 2 ^ k : Nat) : Int) &&& BitVec.ofInt 64 (1 : Int)).toNat : Nat) : Int) = _
 rw [Nat.testBit_eq_decide_div_mod_eq]
 generalize m / 2 ^ k = d at hlt
 have h2 : (BitVec.ofInt 64 ((d : Nat) : Int)).toNat = d := by rw [BitVec.ofInt_natCast,BitVec.toNat_ofNat]; omega
 rw [BitVec.toNat_and,h2,show (BitVec.ofInt 64 (1 : Int)).toNat = 1 from rfl,Nat.and_one_is_mod]
 by_cases h : d % 2 = 1
 ·rw [h,if_pos (by simp)]
  exact wrap_nat (by omega)
 ·rw [show d % 2 = 0 by omega,if_neg (by simp)]
  exact wrap_nat (by omega)
def msk (f : Nat -> Bool) : Nat -> Nat
 | 0 => 0
 | n + 1 => if f n then msk f n ||| 2 ^ n else msk f n
theorem msk_bit (f : Nat -> Bool) : ∀ (n j : Nat),(msk f n).testBit j = (decide (j < n) && f j)
 | 0,j => by simp [msk]
 | n + 1,j => by
  have ih := msk_bit f n j
  unfold msk
  by_cases h : f n = true
  ·rw [if_pos h,Nat.testBit_or,ih,Nat.testBit_two_pow]
   by_cases e : n = j
   ·subst e; simp [h]
   ·rw [decide_eq_false e,Bool.or_false]
    congr 1
    exact decide_eq_decide.2 (by omega)
  ·rw [if_neg h,ih]
   by_cases e : n = j
   ·subst e; simp [Bool.eq_false_iff.2 h]
   ·congr 1
    exact decide_eq_decide.2 (by omega)
theorem msk_lt (f : Nat -> Bool) : ∀ n : Nat,msk f n < 2 ^ n
 | 0 => by simp [msk]
 | n + 1 => by
  have ih := msk_lt f n
  have h2 : (2 : Nat) ^ (n + 1) = 2 * 2 ^ n := by rw [Nat.pow_succ,Nat.mul_comm]
  unfold msk
  split
  ·exact Nat.or_lt_two_pow (by omega) (by omega)
  ·omega
theorem msk_or (f g : Nat -> Bool) (n : Nat) : msk f n ||| msk g n = msk (fun j => f j || g j) n := by
 apply Nat.eq_of_testBit_eq
 intro j
 rw [Nat.testBit_or,msk_bit,msk_bit,msk_bit]
 cases decide (j < n) <;> rfl
theorem msk_small {f : Nat -> Bool} {n : Nat} (h : n <= 62) : msk f n < 9223372036854775808 := by
 have h1 := msk_lt f n
 have h2 : (2 : Nat) ^ n <= 2 ^ 62 := Nat.pow_le_pow_right (by omega) h
 omega
theorem place_ret {l : List Int} (hl : l.length <= 4000000) (n : Int) : Ret (F_spec_l6Place l n) (· = plc l n) := by
 unfold F_spec_l6Place
 refine Ret.sum (PS:=fun _ => n ∉ l) (PW:=(· = plc l n)) ?_ fun _ hn => .pure (by unfold plc; rw [if_neg hn])
 refine Ret.loop (fun z => ∃ i : Nat,i <= l.length /\ z = (i : Int) /\ ∀ j,j < i -> l.getD j default ≠ n) (fun z => ((l.length : Int) - z).toNat) ⟨0,by omega,rfl,fun j hj => by omega⟩ fun z ⟨i,h1,h2,h3⟩ => ?_
 subst h2
 unfold F_spec_l6Place_L5
 refine .bifD (fun hk => .gdD ⟨by omega,hk⟩ (.bif (fun he => .pure ?_) fun he => .gdI (by omega) (.pure ⟨⟨i + 1,by omega,rfl,fun j hj => ?_⟩,by omega⟩))) fun hk => .pure ?_
 ·simp only [Int.toNat_natCast,beq_iff_eq] at he
  have hi : i < l.length := by omega
  have hm : n ∈ l := by rw [<- he]; exact getD_memI hi
  unfold plc
  rw [if_pos hm]
  congr 1
  have h4 := List.idxOf_lt_length_of_mem hm
  rcases Nat.lt_trichotomy i (l.idxOf n) with h5 | h5 | h5
  ·exfalso
   have : l.idxOf n <= i := by
    have e : l = l.take i ++ l.drop i := (List.take_append_drop i l).symm
    rw [e,List.idxOf_append]
    split
    ·have := List.idxOf_lt_length_of_mem (by assumption : n ∈ l.take i)
     rw [List.length_take] at this
     omega
    ·rw [List.drop_eq_getElem_cons hi,show l[i] = n by rw [<- he,List.getD_eq_getElem?_getD,List.getElem?_eq_getElem hi]; rfl,List.idxOf_cons_self,List.length_take]
     omega
   omega
  ·exact h5
  ·exact absurd (getD_idx hm) (h3 _ h5)
 ·simp only [Int.toNat_natCast,beq_eq_false_iff_ne] at he
  rcases Nat.lt_or_ge j i with h | h
  ·exact h3 j h
  ·rw [show j = i by omega]; exact he
 ·intro hm
  have h4 := List.idxOf_lt_length_of_mem hm
  exact h3 (l.idxOf n) (by omega) (getD_idx hm)
section
variable {p : List (List ZIn)} {x : XS} {F : List Int}
structure XOk (p : List (List ZIn)) (x : XS) : Prop where
 f : x.1.length = (evs p).length
 o : x.2.length = 3
 r : ∀ i : Nat,(x.2.getD i default).length <= 4000000
theorem before_ret (hx : XOk p x) {l : Int} (hl : 0 <= l /\ l <= 2) (i k : Int) : Ret (F_spec_l6Before ⟨x.1,x.2⟩ l i k) (· = decide (plc (od x l) i < plc (od x l) k)) := by
 unfold F_spec_l6Before
 refine .gdD ⟨hl.1,by simp only []; rw [hx.o]; omega⟩ ((place_ret (hx.r _) i).bind fun v hv => (place_ret (hx.r _) k).bind fun w hw => .pure ?_)
 subst hv hw
 rfl
theorem pair_ret (hp : PV p) (hx : XOk p x) {i k : Nat} (hi : i < (evs p).length) (hk : k < (evs p).length) (name : ByteArray) (f : Int -> Int -> Bool)
  (h : (name = ⟨#[112,111]⟩ /\ f = poB p) \/ (name = ⟨#[114,102]⟩ /\ f = rfB p x) \/ (name = ⟨#[99,111]⟩ /\ f = coB p x) \/ (name = ⟨#[102,114]⟩ /\ f = frB p x)) : Ret (F_spec_l6Pair p ⟨x.1,x.2⟩ (evs p) name (i : Int) (k : Int)) (· = f i k) := by
 have ei : (evs p).getD i default = ev p (i : Int) := by unfold ev; rw [Int.toNat_natCast]
 have ek : (evs p).getD k default = ev p (k : Int) := by unfold ev; rw [Int.toNat_natCast]
 have hl := ev_loc hp (n:=(i : Int)) (by omega) (by omega)
 unfold F_spec_l6Pair
 simp only [Int.toNat_natCast,ei,ek]
 refine .gdD ⟨by omega,by omega⟩ (.gdD ⟨by omega,by omega⟩ (Ret.bind (P:=(· = (decide ((ev p i).Thread = (ev p k).Thread) && decide (0 <= (ev p i).Thread)))) (.bif (fun h => .pure ?_) fun h => .pure ?_) fun same hs => ?_))
 ·rw [eq_of_beq h]; simp
 ·rw [decide_eq_false (fun e => by rw [e] at h; simp at h)]; rfl
 subst hs
 rcases h with ⟨rfl,rfl⟩ | ⟨rfl,rfl⟩ | ⟨rfl,rfl⟩ | ⟨rfl,rfl⟩
 ·refine Ret.sumR ?_
  refine .bif (fun _ => Ret.bind (P:=(· = poB p i k)) (.bif (fun h => .pure ?_) fun h => .pure ?_) fun v hv => .pure (by rw [hv])) fun h => absurd h (by decide)
  ·unfold poB; rw [h]; rfl
  ·unfold poB; rw [h]; rfl
 ·refine Ret.sumR (.bif (fun h => absurd h (by decide)) fun _ => .bif (fun h => absurd h (by decide)) fun _ => .bif (fun h => absurd h (by decide)) fun _ => .bif (fun _ => ?_) fun h => absurd h (by decide))
  refine Ret.bind (P:=(· = rfB p x i k)) (.bif (fun h => .gdD ⟨by omega,by rw [hx.f]; omega⟩ (.pure ?_)) fun h => .pure ?_) fun v hv => .pure (by rw [hv])
  ·unfold rfB; rw [h,Bool.true_and]; exact beqD _ _
  ·unfold rfB; rw [h]; rfl
 ·refine Ret.sumR (.bif (fun h => absurd h (by decide)) fun _ => .bif (fun h => absurd h (by decide)) fun _ => .bif (fun h => absurd h (by decide)) fun _ => .bif (fun h => absurd h (by decide)) fun _ => .bif (fun _ => ?_) fun h => absurd h (by decide))
  refine Ret.bind (P:=(· = ((ev p i).Writes && (ev p k).Writes))) (.bif (fun h => .pure (by rw [h]; rfl)) fun h => .pure (by rw [h]; rfl)) fun v1 h1 => ?_
  refine Ret.bind (P:=(· = (((ev p i).Writes && (ev p k).Writes) && decide ((ev p i).Loc = (ev p k).Loc)))) (.bif (fun h => .pure (by rw [<- h1,h,Bool.true_and]; exact beqD _ _)) fun h => .pure (by rw [<- h1,h]; rfl)) fun v2 h2 => ?_
  refine Ret.bind (P:=(· = coB p x i k)) (.bif (fun h => (before_ret hx hl _ _).bind fun v hv => .pure (by unfold coB; rw [<- h2,h,hv,Bool.true_and])) fun h => .pure (by unfold coB; rw [<- h2,h,Bool.false_and])) fun v hv => .pure (by rw [hv])
 ·refine Ret.sumR (.bif (fun h => absurd h (by decide)) fun _ => .bif (fun h => absurd h (by decide)) fun _ => .bif (fun h => absurd h (by decide)) fun _ => .bif (fun h => absurd h (by decide)) fun _ => .bif (fun h => absurd h (by decide)) fun _ => .bif (fun _ => ?_) fun h => absurd h (by decide))
  refine Ret.bind (P:=(· = frB p x i k)) (.bif (fun h1 => .bif (fun h2 => .bif (fun h3 => .bif (fun h4 => .gdD ⟨by omega,by rw [hx.f]; omega⟩ ((before_ret hx hl _ _).bind fun v hv => .pure ?_)) fun h4 => .pure ?_) fun h3 => .pure ?_) fun h2 => .pure ?_) fun h1 => .pure ?_) fun v hv => .pure (by rw [hv])
  ·have h4 : ¬ (i : Int) = (k : Int) := by simpa using h4
   unfold frB
   rw [h1,h2,decide_eq_true (eq_of_beq h3),decide_eq_false h4,hv]
   simp
  ·have h4 : (i : Int) = (k : Int) := by simpa using h4
   unfold frB
   rw [decide_eq_true h4]
   simp
  ·unfold frB
   rw [decide_eq_false (fun e => by rw [e] at h3; simp at h3)]
   simp
  ·unfold frB; rw [h2]; simp
  ·unfold frB; rw [h1]; simp
def rowsB (p : List (List ZIn)) (f : Int -> Int -> Bool) (n : Nat) : List Int := (List.range n).map fun (i : Nat) => ((msk (fun k => f (i : Int) k) (evs p).length : Nat) : Int)
theorem rowsB_succ (f : Int -> Int -> Bool) (n : Nat) : rowsB p f (n + 1) = rowsB p f n ++ [((msk (fun k => f n k) (evs p).length : Nat) : Int)] := by
 unfold rowsB
 rw [List.range_succ,List.map_append]
 rfl
theorem rowsB_len (f : Int -> Int -> Bool) (n : Nat) : (rowsB p f n).length = n := by simp [rowsB]
theorem rowsB_get (f : Int -> Int -> Bool) {n i : Nat} (h : i < n) : (rowsB p f n).getD i default = ((msk (fun k => f i k) (evs p).length : Nat) : Int) := by
 unfold rowsB
 rw [List.getD_eq_getElem?_getD,List.getElem?_map,List.getElem?_range h]
 rfl
theorem rel_ret (hp : PV p) (hx : XOk p x) (name : ByteArray) (f : Int -> Int -> Bool)
  (h : (name = ⟨#[112,111]⟩ /\ f = poB p) \/ (name = ⟨#[114,102]⟩ /\ f = rfB p x) \/ (name = ⟨#[99,111]⟩ /\ f = coB p x) \/ (name = ⟨#[102,114]⟩ /\ f = frB p x)) : Ret (F_spec_l6Rel p ⟨x.1,x.2⟩ name) (· = rowsB p f (evs p).length) := by
 have hel := evs_len hp.vs
 unfold F_spec_l6Rel
 refine (sevents hp.vs).bind fun v1 h1 => ?_
 subst h1
 refine Ret.bind (P:=(· = rowsB p f (evs p).length)) ?_ fun v hv => .pure hv
 refine Ret.loop (fun z => ∃ n : Nat,n <= (evs p).length /\ z = (rowsB p f n,(n : Int))) (fun z => (((evs p).length : Int) - z.2).toNat) ⟨0,by omega,rfl⟩ fun z ⟨n,h1,h2⟩ => ?_
 subst h2
 unfold F_spec_l6Rel_L7
 refine .bifD (fun hk => ?_) fun hk => .pure ?_
 ·simp only [] at hk
  refine Ret.bind (P:=(· = rowsB p f (n + 1))) (Ret.bind (P:=(· = ((msk (fun k => f n k) (evs p).length : Nat) : Int))) ?_ fun v hv => .gd (capOK_le (by simp only []; rw [rowsB_len]; omega) rfl) (.pure (by simp only []; rw [hv,rowsB_succ]))) fun v hv => .gdI (by simp only []; omega) (.pure ⟨⟨n + 1,by omega,by rw [hv]; rfl⟩,by simp only []; omega⟩)
  refine Ret.loop (fun z => ∃ k : Nat,k <= (evs p).length /\ z = ((k : Int),((msk (fun k => f n k) k : Nat) : Int))) (fun z => (((evs p).length : Int) - z.1).toNat) ⟨0,by omega,rfl⟩ fun z ⟨k,k1,k2⟩ => ?_
  subst k2
  unfold F_spec_l6Rel_L15
  refine .bifD (fun hkk => ?_) fun hkk => .pure ?_
  ·simp only [] at hkk
   refine Ret.bind (P:=(· = ((msk (fun k => f n k) (k + 1) : Nat) : Int))) ((pair_ret hp hx (i:=n) (k:=k) (by omega) (by omega) name f h).bind fun v hv => .bif (fun hb => .gdD (by simp only []; omega) (.pure ?_)) fun hb => .pure ?_) fun v hv => .gdI (by simp only []; omega) (.pure ⟨⟨k + 1,by omega,by rw [hv]; rfl⟩,by simp only []; omega⟩)
   ·simp only []
    rw [bShl_one (by omega),bOr_nat (msk_small (by omega)) (by have := Nat.pow_lt_pow_right (a:=2) (by omega) (show k < 63 by omega); omega)]
    rw [hv] at hb
    simp only [msk,hb,if_true]
   ·rw [hv] at hb
    simp only [msk,hb]
    rfl
  ·have : k = (evs p).length := by simp only [] at hkk; omega
   rw [<- this]
 ·have : n = (evs p).length := by simp only [] at hk; omega
  subst this
  rfl
theorem union_ret (hp : PV p) (f g : Int -> Int -> Bool) : Ret (F_spec_l2Union (rowsB p f (evs p).length) (rowsB p g (evs p).length)) (· = rowsB p (fun i k => f i k || g i k) (evs p).length) := by
 have hel := evs_len hp.vs
 unfold F_spec_l2Union
 refine Ret.bind (P:=(· = rowsB p (fun i k => f i k || g i k) (evs p).length)) ?_ fun v hv => .pure hv
 refine Ret.loop (fun z => ∃ n : Nat,n <= (evs p).length /\ z = (rowsB p (fun i k => f i k || g i k) n,(n : Int))) (fun z => (((evs p).length : Int) - z.2).toNat) ⟨0,by omega,rfl⟩ fun z ⟨n,h1,h2⟩ => ?_
 subst h2
 unfold F_spec_l2Union_L6
 simp only [rowsB_len,Int.toNat_natCast]
 refine .bifD (fun hk => ?_) fun hk => .pure ?_
 ·refine .gdD ⟨by omega,by omega⟩ (.gdD ⟨by omega,by omega⟩ (.gd (capOK_le (by omega) rfl) (.gdI (by omega) (.pure ⟨⟨n + 1,by omega,?_⟩,by simp only []; omega⟩))))
  rw [rowsB_get f (by omega),rowsB_get g (by omega),bOr_nat (msk_small (by omega)) (msk_small (by omega)),msk_or,rowsB_succ]
  rfl
 ·have : n = (evs p).length := by omega
  rw [this]
theorem rel4_ret (hp : PV p) (hx : XOk p x) : Ret (F_spec_l13Before p ⟨x.1,x.2⟩) (· = rowsB p (bef p x) (evs p).length) := by
 unfold F_spec_l13Before
 refine (rel_ret hp hx _ (poB p) (.inl ⟨rfl,rfl⟩)).bind fun v1 h1 => (rel_ret hp hx _ (rfB p x) (.inr (.inl ⟨rfl,rfl⟩))).bind fun v2 h2 => ?_
 subst h1 h2
 refine (union_ret hp _ _).bind fun v3 h3 => (rel_ret hp hx _ (coB p x) (.inr (.inr (.inl ⟨rfl,rfl⟩)))).bind fun v4 h4 => ?_
 subst h3 h4
 refine (union_ret hp _ _).bind fun v5 h5 => (rel_ret hp hx _ (frB p x) (.inr (.inr (.inr ⟨rfl,rfl⟩)))).bind fun v6 h6 => ?_
 subst h5 h6
 exact (union_ret hp _ _).bind fun v7 h7 => .pure h7
theorem writers_ret (hp : PV p) (l : Int) : Ret (F_spec_l6Writers (evs p) l) (· = ((List.range (evs p).length).map fun (i : Nat) => (i : Int)).filter (Wl p l)) := by
 have hel := evs_len hp.vs
 unfold F_spec_l6Writers
 refine Ret.bind (P:=(· = ((List.range (evs p).length).map fun (i : Nat) => (i : Int)).filter (Wl p l))) ?_ fun v hv => .pure hv
 refine Ret.loop (fun z => ∃ n : Nat,n <= (evs p).length /\ z = (((List.range n).map fun (i : Nat) => (i : Int)).filter (Wl p l),(n : Int))) (fun z => (((evs p).length : Int) - z.2).toNat) ⟨0,by omega,rfl⟩ fun z ⟨n,h1,h2⟩ => ?_
 subst h2
 unfold F_spec_l6Writers_L6
 have en : (evs p).getD n default = ev p (n : Int) := by unfold ev; rw [Int.toNat_natCast]
 simp only [Int.toNat_natCast,en]
 refine .bifD (fun hk => ?_) fun hk => .pure ?_
 ·have hsl : (((List.range n).map fun (i : Nat) => (i : Int)).filter (Wl p l)).length <= n := Nat.le_trans (List.length_filter_le _ _) (by simp)
  have hst : ((List.range (n + 1)).map fun (i : Nat) => (i : Int)).filter (Wl p l) = ((List.range n).map fun (i : Nat) => (i : Int)).filter (Wl p l) ++ if Wl p l (n : Int) then [(n : Int)] else [] := by
   rw [List.range_succ,List.map_append,List.filter_append]
   congr 1
   by_cases h : Wl p l (n : Int) = true
   ·rw [if_pos h]; simp [h]
   ·rw [if_neg h]; simp [h]
  refine Ret.bind (P:=(· = ((List.range (n + 1)).map fun (i : Nat) => (i : Int)).filter (Wl p l))) (.gdD ⟨by omega,hk⟩ (Ret.bind (P:=(· = Wl p l (n : Int))) (.bif (fun h => .pure ?_) fun h => .pure ?_) fun b hb => .bif (fun h => .gd (capOK_le (by omega) rfl) (.pure ?_)) fun h => .pure ?_)) fun v hv => .gdI (by omega) (.pure ⟨⟨n + 1,by omega,by rw [hv]; rfl⟩,by simp only []; omega⟩)
  ·unfold Wl; rw [h,Bool.true_and]; exact beqD _ _
  ·unfold Wl; rw [h]; rfl
  ·rw [hst,<- hb,h]; rfl
  ·rw [hst,<- hb,h]; simp
 ·have : n = (evs p).length := by omega
  rw [this]
theorem exok (hp : PV p) (R : RunOf p x F) : XOk p x := by
 refine ⟨R.flen,R.olen,fun i => ?_⟩
 rcases Nat.lt_or_ge i 3 with hi | hi
 ·have h1 := R.ord i hi
  have h2 := evs_len hp.vs
  have h3 : F.length <= (evs p).length := by
   have := List.Nodup.length_le_of_subset (l₂:=(List.range (evs p).length).map fun (i : Nat) => (i : Int)) R.nd fun n hn => by
    obtain ⟨a,b⟩ := (R.mem n).1 hn
    exact List.mem_map.2 ⟨n.toNat,List.mem_range.2 (by omega),by omega⟩
   simpa using this
  rw [getD_nil,h1]
  have := List.length_filter_le (Wl p (i : Int)) F
  omega
 ·rw [List.getD_eq_getElem?_getD,List.getElem?_eq_none (by rw [R.olen]; exact hi)]
  exact Nat.zero_le _
end
end Go.Proofs.Ytlmjnhnpahicmaa
