/-
 From memory's words to the abstract machine's and back, for programs, lists of ints, candidates. Plain theorems. No conditions.
-/
import Derived.Test.YtlmjnhnpahicmaaXOwn2
namespace Go.Proofs.Ytlmjnhnpahicmaa
open Go.ChangeShapes Go.WideShapes Go.ChangeAt Go.RowKit
set_option maxRecDepth 100000
def ofIns (x : Ins) : ZIn := ⟨x.op,x.loc,x.reg,x.val⟩
theorem frel_slsl {α β : Type} [Inhabited β] {f : α -> List Value} {s : Nat} {c : β -> List AV} {e : α -> β} (hf : ∀ x,c (e x) = (f x).map AV.v) (hs : ∀ x,(f x).length = s) (hp : ∀ x,∀ u ∈ f x,plain u = true) {w : World} {v : Value} {l : List (List α)} {lo hi : Nat} (h : SlSl f s w lo hi v l) :
  FRel w (fun g => g < w.heap.size) (eL (cL c) (l.map fun r => r.map e)) v := by
 obtain ⟨xs,⟨A,cap,rfl,hc,hm,h⟩,hl,hr⟩ := h
 have e0 : (l.map fun r => r.map e).length = xs.length := by rw [List.length_map,hl]
 have key : ∀ (g o : Nat),(0 < xs.length -> A = some ⟨g,o,none⟩ /\ g < w.heap.size /\ ∀ (k : Nat) (h : k < xs.length),w.cell? ⟨g,o + k * 1 + 0,none⟩ = some xs[k]) -> FRel w (fun g => g < w.heap.size) (eL (cL c) (l.map fun r => r.map e)) (.slice A xs.length cap) := by
  intro g o hh
  unfold eL
  rw [e0]
  have hg : ∀ i (h : i < xs.length),(l.map fun r => r.map e).getD i default = (l[i]'(by omega)).map e := fun i h => by simp [List.getD,show i < l.length by omega]
  have one : ∀ (i j : Nat) (a : AV),(cL c ((l.map fun r => r.map e).getD i default))[j]? = some a -> j = 0 /\ a = eL c ((l.map fun r => r.map e).getD i default) := fun i j a ha => by
   match j with
   | 0 => exact ⟨rfl,(Option.some.inj ha).symm⟩
   | j + 1 => simp [cL] at ha
  have us : ∀ i (h : i < xs.length),(xs[i]?.getD (.bool false)) = xs[i] := fun i h => by simp [h]
  have ho : ∀ i (h : i < xs.length),∃ A n k,xs[i] = .slice A n k := fun i h => by
   obtain ⟨A,k,he,_⟩ := hr i h (by omega)
   exact ⟨A,_,k,he⟩
  refine FRel.sl (s:=1) (g:=g) (o:=o) (fun i _ => xs[i]?.getD (.bool false)) hc hm (fun hn => ⟨(hh hn).1,(hh hn).2.1,(hh hn).2.1⟩) (fun i hi => rfl) (fun i j a hi ha => ?_) (fun i j a hi ha => ?_) (fun i j a hi ha => ?_)
  ·obtain ⟨rfl,_⟩ := one i j a ha
   rw [us i hi]
   exact (hh (by omega)).2.2 i hi
  ·rw [us i hi]
   obtain ⟨A,n,k,he⟩ := ho i hi
   rw [he]
   rfl
  ·obtain ⟨rfl,rfl⟩ := one i j a ha
   rw [us i hi,hg i hi]
   exact frel_of_sl hf hs hp (by
    obtain ⟨A,cap,e1,e2,e3,e4⟩ := hr i hi (by omega)
    exact ⟨A,cap,e1,e2,e3,fun hn => by
     obtain ⟨b,o,g1,g2,g3,g4,g5⟩ := e4 hn
     exact ⟨b,o,g1,Nat.zero_le _,g4,g4,g5⟩⟩ : Sl f s w 0 w.heap.size xs[i] l[i])
 by_cases h0 : 0 < xs.length
 ·obtain ⟨b,o,hA,_,_,hlt,hcell⟩ := h h0
  exact key b o fun _ => ⟨hA,hlt,fun k hk => hcell k hk 0 _ rfl⟩
 ·exact key 0 0 fun h1 => absurd h1 h0
theorem frel_ins {w : World} {v : Value} {p : List (List Ins)} {lo hi : Nat} (h : SlSl Ins.cells 4 w lo hi v p) : FRel w (fun g => g < w.heap.size) (eL (cL ZIn.c) (p.map fun r => r.map ofIns)) v :=
 frel_slsl (f:=Ins.cells) (s:=4) (c:=ZIn.c) (e:=ofIns) (fun _ => rfl) (fun _ => rfl) (fun x u hu => by simp [Ins.cells] at hu; rcases hu with rfl | rfl | rfl | rfl <;> rfl) h
theorem ints_of_frel {w : World} {fz : Nat -> Prop} {v : Value} {l : List Int} (h : FRel w fz (eL cI l) v) : Sl int1 1 w 0 w.heap.size v l := by
 have := sl_of_frel (f:=int1) (s:=1) (c:=cI) (e:=id) (fun _ => rfl) (fun _ => rfl) h
 rwa [List.map_id] at this
theorem frel_intsL {w : World} {v : Value} {lo hi : Nat} {l : List Int} (h : Sl int1 1 w lo hi v l) : FRel w (fun g => g < w.heap.size) (eL cI l) v := by
 refine frel_ints (hi:=hi) ?_
 obtain ⟨A,cap,e1,e2,e3,e4⟩ := h
 exact ⟨A,cap,e1,e2,e3,fun hn => by
  obtain ⟨b,o,g1,g2,g3,g4⟩ := e4 hn
  exact ⟨b,o,g1,Nat.zero_le _,g3,g4⟩⟩
def SlX (w : World) (lo hi : Nat) (v : Value) (e : ZEx) : Prop := ∃ v1 v2,v = .agg #[v1,v2] /\ Sl int1 1 w lo hi v1 e.From /\ SlSl int1 1 w lo hi v2 e.Order
section
variable {w w' : World} {lo hi l h B : Nat} {v : Value} {e : ZEx}
theorem SlX.fr (x : SlX w lo hi v e) (b : Fr l h w w') (hB : hi <= l \/ h <= lo) : SlX w' lo hi v e := by
 obtain ⟨v1,v2,e1,h1,h2⟩ := x
 exact ⟨v1,v2,e1,h1.fr b hB,h2.fr b hB⟩
theorem Sl.slice {xs : List Int} (x : Sl int1 1 w lo hi v xs) : v.oneCell' = true := by
 obtain ⟨A,c,rfl,_⟩ := x
 rfl
theorem SlSl.slice {xs : List (List Int)} (x : SlSl int1 1 w lo hi v xs) : v.oneCell' = true := by
 obtain ⟨us,⟨A,c,rfl,_⟩,_⟩ := x
 rfl
end
end Go.Proofs.Ytlmjnhnpahicmaa
