/-
 A candidate (a struct with a slice of ints and a slice of slices of ints) that may be written; contracts of laws.markIntSS, laws.markExec over it. No conditions.
-/
import Derived.Test.YtlmjnhnpahicmaaIntF
import Derived.Test.YtlmjnhnpahicmaaSt
namespace Go.Proofs.Ytlmjnhnpahicmaa
open Go.ChangeShapes Go.WideShapes Go.ChangeAt Go.RowKit
set_option maxRecDepth 100000
structure FrS (S : Nat -> Prop) (w w' : World) : Prop where
 os : w'.os = w.os
 tape : w'.tape = w.tape
 output : w'.output = w.output
 size : w.heap.size <= w'.heap.size
 block : ∀ k,k < w.heap.size -> ¬ S k -> w'.heap[k]? = w.heap[k]?
section
variable {a b c : World} {S T : Nat -> Prop} {lo hi : Nat}
theorem FrS.trans (h : FrS S a b) (k : FrS S b c) : FrS S a c := ⟨k.os.trans h.os,k.tape.trans h.tape,k.output.trans h.output,Nat.le_trans h.size k.size,fun i hi hn => (k.block i (Nat.lt_of_lt_of_le hi h.size) hn).trans (h.block i hi hn)⟩
theorem FrS.mono (h : FrS S a b) (hs : ∀ k,S k -> T k) : FrS T a b := ⟨h.os,h.tape,h.output,h.size,fun k hk hn => h.block k hk fun hS => hn (hs k hS)⟩
theorem FrS.cell (h : FrS S a b) {p : Addr} (hp : p.block < a.heap.size) (hn : ¬ S p.block) : b.cell? p = a.cell? p := World.cell?_of_block (w:=a) (h.block p.block hp hn)
end
def OwSS (w : World) (gO : Nat) (gs : Nat -> Nat) (us : Nat -> Value) (v : Value) (rows : List (List Int)) : Prop :=
 ∃ A c o,v = .slice A rows.length c /\ rows.length <= c /\ c <= 9223372036854775807 /\ (0 < rows.length -> A = some ⟨gO,o,none⟩ /\ gO < w.heap.size) /\
  (∀ i,i < rows.length -> w.cell? ⟨gO,o + i,none⟩ = some (us i) /\ OwF w (gs i) (gs i + 1) (us i) (rows.getD i []) /\ gs i ≠ gO /\ gs i < w.heap.size) /\
  ∀ i j,i < rows.length -> j < rows.length -> i ≠ j -> gs i ≠ gs j
def OwX (w : World) (lo hi : Nat) (v : Value) (e : ZEx) : Prop :=
 ∃ v1 v2 a b gO gs us,v = .agg #[v1,v2] /\ OwF w a b v1 e.From /\ OwSS w gO gs us v2 e.Order /\ (lo <= a /\ b <= hi /\ b <= w.heap.size) /\ (0 < e.Order.length -> lo <= gO /\ gO < hi /\ ¬ (a <= gO /\ gO < b)) /\ ∀ i,i < e.Order.length -> (lo <= gs i /\ gs i < hi) /\ ¬ (a <= gs i /\ gs i < b)
theorem OwSS.keep {w w' : World} {gO : Nat} {gs : Nat -> Nat} {us : Nat -> Value} {v : Value} {rows : List (List Int)} (h : OwSS w gO gs us v rows) (hs : w.heap.size <= w'.heap.size) (hk : ∀ b,b < w.heap.size -> ((0 < rows.length /\ b = gO) \/ ∃ i,i < rows.length /\ b = gs i) -> w'.heap[b]? = w.heap[b]?) : OwSS w' gO gs us v rows := by
 obtain ⟨A,c,o,e,hc,hm,hA,hR,hD⟩ := h
 refine ⟨A,c,o,e,hc,hm,fun hn => ⟨(hA hn).1,Nat.lt_of_lt_of_le (hA hn).2 hs⟩,fun i hi => ?_,hD⟩
 obtain ⟨r1,r2,r3,r4⟩ := hR i hi
 refine ⟨?_,r2.keep fun b hb h1 h2 => hk b hb (.inr ⟨i,hi,by omega⟩),r3,Nat.lt_of_lt_of_le r4 hs⟩
 exact (World.cell?_of_block (w:=w) (a:=⟨gO,o + i,none⟩) (hk gO (hA (by omega)).2 (.inl ⟨by omega,rfl⟩))).trans r1
section
variable {w w' : World} {lo hi l h B : Nat} {v : Value} {e : ZEx}
theorem OwX.keep (x : OwX w lo hi v e) (hs : w.heap.size <= w'.heap.size) (hk : ∀ b,b < w.heap.size -> lo <= b -> b < hi -> w'.heap[b]? = w.heap[b]?) : OwX w' lo hi v e := by
 obtain ⟨v1,v2,a,b,gO,gs,us,e1,h1,h2,h3,h4,h5⟩ := x
 refine ⟨v1,v2,a,b,gO,gs,us,e1,h1.keep fun k hk' b1 b2 => hk k hk' (by omega) (by omega),h2.keep hs fun k hb hS => ?_,⟨h3.1,h3.2.1,Nat.le_trans h3.2.2 hs⟩,h4,h5⟩
 rcases hS with ⟨h0,rfl⟩ | ⟨i,hi',rfl⟩
 ·exact hk _ hb (h4 h0).1 (h4 h0).2.1
 ·exact hk _ hb (h5 i hi').1.1 (h5 i hi').1.2
theorem OwX.fr (x : OwX w lo hi v e) (b : Fr l h w w') (hB : hi <= l \/ h <= lo) : OwX w' lo hi v e := x.keep b.size fun k hk h1 h2 => b.block k hk (by omega)
theorem OwX.nil (w : World) (lo hi : Nat) (h : lo <= hi) (hw : lo <= w.heap.size) : OwX w lo hi (.agg #[.slice none 0 0,.slice none 0 0]) ⟨[],[]⟩ :=
 ⟨_,_,lo,lo,0,fun _ => 0,fun _ => .bool false,rfl,⟨none,0,rfl,Nat.le_refl _,by omega,fun h => absurd h (by simp)⟩,⟨none,0,0,rfl,Nat.le_refl _,by omega,fun h => absurd h (by simp),fun i hi => absurd hi (by simp),fun i j hi => absurd hi (by simp)⟩,⟨Nat.le_refl _,h,hw⟩,fun h => absurd h (by simp),fun i hi => absurd hi (by simp)⟩
end
end Go.Proofs.Ytlmjnhnpahicmaa
