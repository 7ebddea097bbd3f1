/-
 Loops with fuel, and answers that stay where fuel is enough. Plain theorems. No conditions.
-/
import Derived.Test.YtlgfihlflchhgaaGC
namespace Go.Proofs.Ytlgfihlflchhgaa
open Go.RowKit
def Le {α:Type} (a b:Option α):Prop:=∀ q,a=some q->b=some q
theorem Le.refl {α:Type} (a:Option α):Le a a:=fun _ h=>h
theorem Le.bind {α β:Type} {a b:Option α} {k l:α->Option β} (h:Le a b) (hk:∀ x,Le (k x) (l x)):Le (a.bind k) (b.bind l):=fun q hq=>by
 obtain ⟨x,h1,h2⟩:=Option.bind_eq_some_iff.1 hq
 exact Option.bind_eq_some_iff.2 ⟨x,h x h1,hk x q h2⟩
theorem Le.gd {α:Type} {a b:Option α} (c:Bool) (h:Le a b):Le (gd c a) (gd c b):=fun q hq=>by
 obtain ⟨h1,h2⟩:=gdL hq
 rw [gd_true h1]
 exact h q h2
theorem Le.bif {α:Type} {a b a' b':Option α} (c:Bool) (h:Le a a') (h':Le b b'):Le (bif c then a else b) (bif c then a' else b'):=by
 cases c
 ·exact h'
 ·exact h
theorem Le.ifc {α:Type} {a b a' b':Option α} (c:Prop) [Decidable c] (h:Le a a') (h':Le b b'):Le (if c then a else b) (if c then a' else b'):=by
 split
 ·exact h
 ·exact h'
theorem Le.sumK {S W:Type} {a b:Option (S ⊕ W)} {k l:S->Option W} (h:Le a b) (hk:∀ x,Le (k x) (l x)):Le (sumK a k) (sumK b l):=fun q hq=>by
 cases a with
 | none=>cases hq
 | some z=>
  rw [h z rfl]
  cases z with
  | inl s=>exact hk s q hq
  | inr w=>exact hq
def loopN' {S E:Type} (n:Nat) (step:S->Option (S ⊕ E)) (s:S):Option E:=
 Nat.rec (motive:=fun _=>S->Option E) (fun _=>none) (fun _ ih s=>match step s with
  | none=>none
  | some (.inl s')=>ih s'
  | some (.inr e)=>some e) n s
theorem Le.loop {S E:Type} {n:Nat} {step step':S->Option (S ⊕ E)} (h:∀ s,Le (step s) (step' s)) (s:S):Le (loopN' n step s) (loopO step' s):=by
 induction n generalizing s with
 | zero=>intro q hq;cases hq
 | succ n ih=>
  intro q hq
  rw [loopO_eq]
  change (match step s with
   | none=>none
   | some (.inl s')=>loopN' n step s'
   | some (.inr e)=>some e)=some q at hq
  match hs:step s with
  | none=>rw [hs] at hq;cases hq
  | some (.inl s')=>
   rw [hs] at hq
   rw [h s _ hs]
   exact ih s' q hq
  | some (.inr e)=>
   rw [hs] at hq
   rw [h s _ hs]
   exact hq
def nilK' {α:Type} (e:Bool) (_ b:Option α):Option α:=bif e then none else b
theorem Le.nilK {α:Type} {e:Bool} {a b a' b':Option α} (_:Le a a') (h:Le b b'):Le (nilK' e a b) (nilK e a' b'):=fun q hq=>by
 cases e with
 | true=>cases hq
 | false=>
  unfold Go.Proofs.Ytlgfihlflchhgaa.nilK
  exact h q hq
end Go.Proofs.Ytlgfihlflchhgaa
