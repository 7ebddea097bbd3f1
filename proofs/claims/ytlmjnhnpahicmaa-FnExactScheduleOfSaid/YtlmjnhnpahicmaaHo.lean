/-
 Plain functions that may end in nothing: what they hand back, rule by rule. Plain theorems. No conditions.
-/
import Derived.Test.YtlmjnhnpahicmaaGC
namespace Go.Proofs.Ytlmjnhnpahicmaa
open Go.RowKit
def Ret {α:Type} (x:Option α) (P:α->Prop):Prop:=∃ v,x=some v/\P v
section
variable {α β S E:Type} {P:α->Prop} {Q:β->Prop} {x y:Option α}
theorem Ret.pure {v:α} (h:P v):Ret (some v) P:=⟨v,rfl,h⟩
theorem Ret.mono {P':α->Prop} (h:Ret x P) (k:∀ v,P v->P' v):Ret x P':=by
 obtain ⟨v,e,p⟩:=h
 exact ⟨v,e,k v p⟩
theorem Ret.bind {o:Option α} {f:α->Option β} (h:Ret o P) (k:∀ v,P v->Ret (f v) Q):Ret (o.bind f) Q:=by
 obtain ⟨v,rfl,p⟩:=h
 exact k v p
theorem Ret.gd {b:Bool} (hb:b=true) (h:Ret x P):Ret (gd b x) P:=by rw [gd_true hb];exact h
theorem Ret.gdD {A:Prop} [Decidable A] (hb:A) (h:Ret x P):Ret (Go.Proofs.Ytlmjnhnpahicmaa.gd (decide A) x) P:=Ret.gd (decide_eq_true hb) h
theorem Ret.gdI {n:Int} (hb : -9223372036854775808<=n/\n<=9223372036854775807) (h:Ret x P):Ret (Go.Proofs.Ytlmjnhnpahicmaa.gd (inK .i64 n) x) P:=Ret.gd (inI_of hb) h
theorem capOK_of {n m:Nat} (hn:n<=1048576) (hm:Nat.ble m 1000=true):capOK n m=true:=by
 have h1:=Nat.le_of_ble_eq_true hm
 have h2:n*m<=1048576*1000:=Nat.mul_le_mul hn h1
 exact decide_eq_true ⟨by omega,by omega⟩
theorem Ret.gdC {n m:Nat} (hn:n<=1048576) (hm:Nat.ble m 1000=true) (h:Ret x P):Ret (Go.Proofs.Ytlmjnhnpahicmaa.gd (capOK n m) x) P:=Ret.gd (capOK_of hn hm) h
theorem Ret.bif {b:Bool} (h1:b=true->Ret x P) (h2:b=false->Ret y P):Ret (bif b then x else y) P:=by
 cases b with
 | true=>exact h1 rfl
 | false=>exact h2 rfl
theorem Ret.bifD {A:Prop} [Decidable A] (h1:A->Ret x P) (h2 : ¬ A->Ret y P):Ret (_root_.cond (decide A) x y) P:=
 Ret.bif (fun h=>h1 (of_decide_eq_true h)) (fun h=>h2 (of_decide_eq_false h))
theorem Ret.sum {W:Type} {PS:S->Prop} {PW:W->Prop} {a:Option (S ⊕ W)} {f:S->Option W} (h:Ret a fun z=>match z with
  | .inl s=>PS s
  | .inr w=>PW w) (k:∀ s,PS s->Ret (f s) PW):Ret (sumK a f) PW:=by
 obtain ⟨v,rfl,p⟩:=h
 match v,p with
 | .inl s,p=>exact k s p
 | .inr w,p=>exact ⟨w,rfl,p⟩
theorem Ret.loop {step:S->Option (S ⊕ E)} {R:E->Prop} (J:S->Prop) (mu:S->Nat) {s0:S} (h0:J s0) (h:∀ s,J s->Ret (step s) fun z=>match z with
  | .inl s'=>J s'/\mu s'<mu s
  | .inr x=>R x):Ret (loopO step s0) R:=by
 have key:∀ (n:Nat) (s:S),mu s=n->J s->Ret (loopO step s) R:=by
  intro n
  induction n using Nat.strongRecOn with
  | _ n ih=>
   intro s hs hj
   obtain ⟨z,e,hz⟩:=h s hj
   rw [loopO_eq,e]
   match z,hz with
   | .inl s',hz=>exact ih (mu s') (by omega) s' rfl hz.1
   | .inr x,hz=>exact ⟨x,rfl,hz⟩
 exact key _ s0 rfl h0
theorem Ret.eq {v:α} (h:Ret x (· = v)):x=some v:=by
 obtain ⟨u,e,rfl⟩:=h
 exact e
theorem Ret.of {v:α} (h:x=some v) (p:P v):Ret x P:=⟨v,h,p⟩
end
section
variable {α β:Type} {x x' y y':Option α}
end
end Go.Proofs.Ytlmjnhnpahicmaa
