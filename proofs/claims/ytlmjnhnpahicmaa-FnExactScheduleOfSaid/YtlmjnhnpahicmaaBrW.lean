/-
 From memory's words to the abstract machine's and back, for programs, lists of ints, candidates. Plain theorems. No conditions.
-/
import Derived.Test.YtlmjnhnpahicmaaXOwn2
namespace Go.Proofs.Ytlmjnhnpahicmaa
open Go.ChangeShapes Go.WideShapes Go.ChangeAt Go.RowKit
set_option maxRecDepth 100000
def ofIns (x:Ins):ZIn:=⟨x.op,x.loc,x.reg,x.val⟩
theorem frel_slsl {α β:Type} [Inhabited β] {f:α->List Value} {s:Nat} {c:β->List AV} {e:α->β} (hf:∀ x,c (e x)=(f x).map AV.v) (hs:∀ x,(f x).length=s) (hp:∀ x,∀ u∈f x,plain u=true) {w:World} {v:Value} {l:List (List α)} {lo hi:Nat} (h:SlSl f s w lo hi v l) :
  FRel w (fun g=>g<w.heap.size) (eL (cL c) (l.map fun r=>r.map e)) v:=by
 obtain ⟨xs,⟨A,cap,rfl,hc,hm,h⟩,hl,hr⟩:=h
 have e0:(l.map fun r=>r.map e).length=xs.length:=by rw [List.length_map,hl]
 have key:∀ (g o:Nat),(0<xs.length->A=some ⟨g,o,none⟩/\g<w.heap.size/\∀ (k:Nat) (h:k<xs.length),w.cell? ⟨g,o+k*1+0,none⟩=some xs[k])->FRel w (fun g=>g<w.heap.size) (eL (cL c) (l.map fun r=>r.map e)) (.slice A xs.length cap):=by
  intro g o hh
  unfold eL
  rw [e0]
  have hg:∀ i (h:i<xs.length),(l.map fun r=>r.map e).getD i default=(l[i]'(by omega)).map e:=fun i h=>by simp [List.getD,show i<l.length by omega]
  have one:∀ (i j:Nat) (a:AV),(cL c ((l.map fun r=>r.map e).getD i default))[j]? = some a->j=0/\a=eL c ((l.map fun r=>r.map e).getD i default):=fun i j a ha=>by
   match j with
   | 0=>exact ⟨rfl,(Option.some.inj ha).symm⟩
   | j+1=>simp [cL] at ha
  have us:∀ i (h:i<xs.length),(xs[i]?.getD (.bool false))=xs[i]:=fun i h=>by simp [h]
  have ho:∀ i (h:i<xs.length),∃ A n k,xs[i] = .slice A n k:=fun i h=>by
   obtain ⟨A,k,he,_⟩:=hr i h (by omega)
   exact ⟨A,_,k,he⟩
  refine FRel.sl (s:=1) (g:=g) (o:=o) (fun i _=>xs[i]?.getD (.bool false)) hc hm (fun hn=>⟨(hh hn).1,(hh hn).2.1,(hh hn).2.1⟩) (fun i hi=>rfl) (fun i j a hi ha => ?_) (fun i j a hi ha => ?_) (fun i j a hi ha => ?_)
  ·obtain ⟨rfl,_⟩:=one i j a ha
   rw [us i hi]
   exact (hh (by omega)).2.2 i hi
  ·rw [us i hi]
   obtain ⟨A,n,k,he⟩:=ho i hi
   rw [he]
   rfl
  ·obtain ⟨rfl,rfl⟩:=one i j a ha
   rw [us i hi,hg i hi]
   exact frel_of_sl hf hs hp (by
    obtain ⟨A,cap,e1,e2,e3,e4⟩:=hr i hi (by omega)
    exact ⟨A,cap,e1,e2,e3,fun hn=>by
     obtain ⟨b,o,g1,g2,g3,g4,g5⟩:=e4 hn
     exact ⟨b,o,g1,Nat.zero_le _,g4,g4,g5⟩⟩:Sl f s w 0 w.heap.size xs[i] l[i])
 by_cases h0:0<xs.length
 ·obtain ⟨b,o,hA,_,_,hlt,hcell⟩:=h h0
  exact key b o fun _=>⟨hA,hlt,fun k hk=>hcell k hk 0 _ rfl⟩
 ·exact key 0 0 fun h1=>absurd h1 h0
theorem frel_ins {w:World} {v:Value} {p:List (List Ins)} {lo hi:Nat} (h:SlSl Ins.cells 4 w lo hi v p):FRel w (fun g=>g<w.heap.size) (eL (cL ZIn.c) (p.map fun r=>r.map ofIns)) v:=
 frel_slsl (f:=Ins.cells) (s:=4) (c:=ZIn.c) (e:=ofIns) (fun _=>rfl) (fun _=>rfl) (fun x u hu=>by simp [Ins.cells] at hu;rcases hu with rfl | rfl | rfl | rfl <;> rfl) h
theorem ints_of_frel {w:World} {fz:Nat->Prop} {v:Value} {l:List Int} (h:FRel w fz (eL cI l) v):Sl int1 1 w 0 w.heap.size v l:=by
 have := sl_of_frel (f:=int1) (s:=1) (c:=cI) (e:=id) (fun _=>rfl) (fun _=>rfl) h
 rwa [List.map_id] at this
theorem frel_intsL {w:World} {v:Value} {lo hi:Nat} {l:List Int} (h:Sl int1 1 w lo hi v l):FRel w (fun g=>g<w.heap.size) (eL cI l) v:=by
 refine frel_ints (hi:=hi) ?_
 obtain ⟨A,cap,e1,e2,e3,e4⟩:=h
 exact ⟨A,cap,e1,e2,e3,fun hn=>by
  obtain ⟨b,o,g1,g2,g3,g4⟩:=e4 hn
  exact ⟨b,o,g1,Nat.zero_le _,g3,g4⟩⟩
def SlX (w:World) (lo hi:Nat) (v:Value) (e:ZEx):Prop:=∃ v1 v2,v = .agg #[v1,v2]/\Sl int1 1 w lo hi v1 e.From/\SlSl int1 1 w lo hi v2 e.Order
section
variable {w w':World} {lo hi l h B:Nat} {v:Value} {e:ZEx}
theorem SlX.form (x:SlX w lo hi v e):∃ A1 n1 c1 A2 n2 c2,v = .agg #[.slice A1 n1 c1,.slice A2 n2 c2]:=by
 obtain ⟨v1,v2,rfl,⟨A,c,rfl,_⟩,_,⟨A2,c2,rfl,_⟩,_⟩:=x
 exact ⟨_,_,_,_,_,_,rfl⟩
theorem SlX.below (x:SlX w lo hi v e) (b:Below B w w') (hB:hi<=B):SlX w' lo hi v e:=by
 obtain ⟨v1,v2,e1,h1,h2⟩:=x
 exact ⟨v1,v2,e1,h1.below b hB,h2.below b hB⟩
theorem SlX.fr (x:SlX w lo hi v e) (b:Fr l h w w') (hB:hi<=l\/h<=lo):SlX w' lo hi v e:=by
 obtain ⟨v1,v2,e1,h1,h2⟩:=x
 exact ⟨v1,v2,e1,h1.fr b hB,h2.fr b hB⟩
theorem OwF.widen {xs:List Int} {a b:Nat} (x:OwF w a b v xs) (h1:lo<=a) (h2:b<=hi):OwF w lo hi v xs:=by
 obtain ⟨A,c,e,hc,hm,r⟩:=x
 refine ⟨A,c,e,hc,hm,fun hn => ?_⟩
 obtain ⟨g,o,t,fr,cur,q1,q2,q3,q4⟩:=r hn
 exact ⟨g,o,t,fr,cur,q1,by omega,by omega,q4⟩
theorem OwX.slX (x:OwX w lo hi v e):SlX w lo hi v e:=by
 obtain ⟨v1,v2,a,b,gO,gs,us,e1,h1,⟨A,c,o,e2,hc,hm,hA,hR,_⟩,h3,h4,h5⟩:=x
 refine ⟨v1,v2,e1,(h1.widen h3.1 h3.2.1).sl,(List.range e.Order.length).map us,⟨A,c,by simpa using e2,by simpa using hc,hm,fun hn => ?_⟩,by simp,fun k hk hk' => ?_⟩
 ·simp only [List.length_map,List.length_range] at hn
  obtain ⟨rfl,hlt⟩:=hA hn
  refine ⟨gO,o,rfl,(h4 hn).1,(h4 hn).2.1,hlt,fun k hk j u hu => ?_⟩
  simp only [List.length_map,List.length_range] at hk
  simp only [List.getElem_map,List.getElem_range] at hu
  match j,hu with
  | 0,hu=>
   simp only [val1,List.getElem?_cons_zero,Option.some.injEq] at hu
   rw [<- hu,Nat.mul_one,Nat.add_zero]
   exact (hR k hk).1
  | n+1,hu=>simp [val1] at hu
 ·simp only [List.length_map,List.length_range] at hk
  simp only [List.getElem_map,List.getElem_range]
  have := ((hR k hk).2.1.widen (lo:=lo) (hi:=hi) (h5 k hk).1.1 (by have := (h5 k hk).1.2;omega)).sl
  have e3:e.Order.getD k []=e.Order[k]:=by simp [hk]
  rwa [e3] at this
theorem Sl.slice {xs:List Int} (x:Sl int1 1 w lo hi v xs):v.oneCell'=true:=by
 obtain ⟨A,c,rfl,_⟩:=x
 rfl
theorem SlSl.slice {xs:List (List Int)} (x:SlSl int1 1 w lo hi v xs):v.oneCell'=true:=by
 obtain ⟨us,⟨A,c,rfl,_⟩,_⟩:=x
 rfl
theorem frel_x (x:SlX w lo hi v e):FRel w (fun g=>g<w.heap.size) (.agg (ZEx.c e)) v:=by
  obtain ⟨v1,v2,rfl,h1,h2⟩:=x
  have f1:=frel_intsL h1
  have f2:=frel_slsl (f:=int1) (s:=1) (c:=cI) (e:=id) (fun _=>rfl) (fun _=>rfl) (fun x u hu=>by simp [int1] at hu;subst hu;rfl) h2
  simp only [List.map_id,List.map_id'] at f2
  refine .agg rfl (fun i u hu => ?_) fun i c u hc hu => ?_
  · match i,hu with
    | 0,hu=>
      obtain rfl:v1=u:=by simpa using hu
      exact h1.slice
    | 1,hu=>
      obtain rfl:v2=u:=by simpa using hu
      exact h2.slice
    | n+2,hu=>simp at hu
  · match i,hc,hu with
    | 0,hc,hu=>
      obtain rfl:=Option.some.inj hc
      obtain rfl:v1=u:=by simpa using hu
      exact f1
    | 1,hc,hu=>
      obtain rfl:=Option.some.inj hc
      obtain rfl:v2=u:=by simpa using hu
      exact f2
    | n+2,hc,hu=>simp [ZEx.c] at hc
end
end Go.Proofs.Ytlmjnhnpahicmaa
