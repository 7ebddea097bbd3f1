/-
 From slices that read as lists (Sl, SlSl) to frozen ones of the abstract machine, and back. Plain theorems over any program. No conditions.
-/
import Derived.Test.YtlmjnhnpahicmaaGC
import Derived.Test.YtlmjnhnpahicmaaGD
namespace Go.Proofs.Ytlmjnhnpahicmaa
open Go.RowKit
set_option maxRecDepth 100000
section
variable {α β:Type} [Inhabited β] {f:α->List Value} {s:Nat} {c:β->List AV} {w:World} {fz:Nat->Prop} {v:Value}
theorem frel_v {u x:Value} (h:FRel w fz (.v u) x):x=u:=by
 cases h with
 | v _=>rfl
theorem sl_of_frel {e:β->α} (hf:∀ x,c x=(f (e x)).map AV.v) (hs:∀ x,(f (e x)).length=s) {l:List β} (h:FRel w fz (eL c l) v):Sl f s w 0 w.heap.size v (l.map e):=by
 unfold eL at h
 cases h with
 | sl us hc hm ha hr hu h1 h=>
  refine ⟨_,_,by rw [List.length_map],by simpa using hc,hm,fun hn => ?_⟩
  rw [List.length_map] at hn
  obtain ⟨rfl,hg,hlt⟩:=ha hn
  refine ⟨_,_,rfl,Nat.zero_le _,hlt,hlt,fun k hk j u hu' => ?_⟩
  rw [List.length_map] at hk
  rw [List.getElem_map] at hu'
  have hk0:l.getD k default=l[k]:=by simp [List.getD,hk]
  have hrow:(c (l.getD k default))[j]? = some (.v u):=by rw [hk0,hf,List.getElem?_map,hu'];rfl
  have hs':=hr k hk
  dsimp only at hs'
  rw [hf,List.length_map,hs] at hs'
  subst hs'
  have h2:=hu k j _ hk hrow
  rw [frel_v (h k j _ hk hrow)] at h2
  exact h2
theorem slsl_of_frel {e:β->α} (hf:∀ x,c x=(f (e x)).map AV.v) (hs:∀ x,(f (e x)).length=s) {l:List (List β)} (h:FRel w fz (eL (cL c) l) v):SlSl f s w 0 w.heap.size v (l.map fun r=>r.map e):=by
 unfold eL at h
 cases h with
 | sl us hc hm ha hr hu h1 h=>
  refine ⟨(List.range l.length).map fun i=>us i 0,?_,by simp,fun k hk hk' => ?_⟩
  ·refine ⟨_,_,by rw [List.length_map,List.length_range],by simpa using hc,hm,fun hn => ?_⟩
   rw [List.length_map,List.length_range] at hn
   obtain ⟨rfl,hg,hlt⟩:=ha hn
   refine ⟨_,_,rfl,Nat.zero_le _,hlt,hlt,fun k hk j u hu' => ?_⟩
   rw [List.length_map,List.length_range] at hk
   rw [List.getElem_map,List.getElem_range] at hu'
   have hs':=hr k hk
   change 1=_ at hs'
   subst hs'
   match j with
   | 0=>
    have h2:=hu k 0 _ hk rfl
    rw [h2]
    simpa [val1] using hu'
   | j+1=>simp [val1] at hu'
  ·rw [List.length_map,List.length_range] at hk
   rw [List.getElem_map,List.getElem_map,List.getElem_range]
   have h2:=h k 0 _ hk rfl
   have hk0:l.getD k default=l[k]:=by simp [List.getD,hk]
   rw [hk0] at h2
   exact sl_of_frel hf hs h2
theorem frel_of_sl {e:α->β} (hf:∀ x,c (e x)=(f x).map AV.v) (hs:∀ x,(f x).length=s) (hp:∀ x,∀ u∈f x,plain u=true) {l:List α} {hi:Nat} (h:Sl f s w 0 hi v l):FRel w (fun g=>g<w.heap.size) (eL c (l.map e)) v:=by
 obtain ⟨A,cap,rfl,hc,hm,h⟩:=h
 have key:∀ (g o:Nat),(0<l.length->A=some ⟨g,o,none⟩/\g<w.heap.size/\∀ (k:Nat) (h:k<l.length) (j:Nat) (u:Value),(f l[k])[j]? = some u->w.cell? ⟨g,o+k*s+j,none⟩=some u)->FRel w (fun g=>g<w.heap.size) (eL c (l.map e)) (.slice A l.length cap):=by
  intro g o hh
  have hrow:∀ (i j:Nat) (a:AV),i<l.length->(c ((l.map e).getD i default))[j]? = some a->∃ u,l[i]?.bind (fun x=>(f x)[j]?)=some u/\a = .v u/\plain u=true/\w.cell? ⟨g,o+i*s+j,none⟩=some u:=by
   intro i j a hi ha
   have h0:(l.map e).getD i default=e l[i]:=by simp [List.getD,hi]
   rw [h0,hf,List.getElem?_map] at ha
   cases hq:(f l[i])[j]? with
   | none=>rw [hq] at ha;cases ha
   | some u=>
    rw [hq] at ha
    refine ⟨u,by rw [List.getElem?_eq_getElem hi];exact hq,(Option.some.inj ha).symm,hp _ u (List.mem_of_getElem? hq),(hh (by omega)).2.2 i hi j u hq⟩
  have e0:(l.map e).length=l.length:=by simp
  unfold eL
  rw [e0]
  refine FRel.sl (s:=s) (g:=g) (o:=o) (fun i j=>(l[i]?.bind fun x=>(f x)[j]?).getD (.bool false)) hc hm (fun hn=>⟨(hh hn).1,(hh hn).2.1,(hh hn).2.1⟩) (fun i hi => ?_) (fun i j a hi ha => ?_) (fun i j a hi ha => ?_) (fun i j a hi ha => ?_)
  ·have h0:(l.map e).getD i default=e l[i]:=by simp [List.getD,hi]
   rw [h0,hf,List.length_map,hs]
  ·obtain ⟨u,h1,h2,h3,h4⟩:=hrow i j a hi ha
   simp only [h1,Option.getD_some]
   exact h4
  ·obtain ⟨u,h1,h2,h3,h4⟩:=hrow i j a hi ha
   simp only [h1,Option.getD_some]
   exact plain_one h3
  ·obtain ⟨u,h1,h2,h3,h4⟩:=hrow i j a hi ha
   subst h2
   simp only [h1,Option.getD_some]
   exact .v h3
 by_cases h0:0<l.length
 ·obtain ⟨b,o,hA,_,_,hlt,hcell⟩:=h h0
  exact key b o fun _=>⟨hA,hlt,hcell⟩
 ·exact key 0 0 fun h1=>absurd h1 h0
theorem calls_of_pure {P:Program} {g:FuncId} {ars:List AV} {r:AV} (h:PCall P g ars r) (vs:Array Value) (hl:vs.size=ars.length) (hr:∀ (i:Nat) (a:AV) (v:Value),ars[i]? = some a->vs[i]? = some v->FRel w (fun g=>g<w.heap.size) a v) :
  Calls P g vs w fun e w'=>∃ v fz',e = .returned v/\Below w.heap.size w w'/\FRel w' fz' r v:=
 (h.2 w _ vs (fun g hg=>hg) hl hr).mono fun e w' ⟨v,fz',h1,h2,h3,_⟩=>⟨v,fz',h1,h2,h3⟩
end
theorem frel_ints {w:World} {v:Value} {hi:Nat} {l:List Int} (h:Sl int1 1 w 0 hi v l):FRel w (fun g=>g<w.heap.size) (eL cI l) v:=by
 have := frel_of_sl (f:=int1) (s:=1) (c:=cI) (e:=id) (fun _=>rfl) (fun _=>rfl) (fun x u hu=>by simp [int1] at hu;subst hu;rfl) h
 rwa [List.map_id] at this
theorem law_of_pure {P:Program} {g:FuncId} {ars:List AV} {w:World} {vs:Array Value} (h:PCall P g ars (Bo true)) (hl:vs.size=ars.length) (hr:∀ (i:Nat) (a:AV) (v:Value),ars[i]? = some a->vs[i]? = some v->FRel w (fun g=>g<w.heap.size) a v) :
  Calls P g vs w fun e w'=>e = .returned (.bool true)/\Below w.heap.size w w':=
 (calls_of_pure h vs hl hr).mono fun e w' ⟨v,fz',h1,h2,h3⟩=>⟨by rw [h1,frel_v h3],h2⟩
end Go.Proofs.Ytlmjnhnpahicmaa
