/-
 From slices that read as lists to frozen ones of the abstract machine, where only some blocks are frozen. Plain theorems over any program. No conditions.
-/
import Derived.Test.YtlgfihlflchhgaaBr
import Derived.Test.YtlgfihlflchhgaaBrI
namespace Go.Proofs.Ytlgfihlflchhgaa
open Go.RowKit
set_option maxRecDepth 100000
section
variable {α β:Type} [Inhabited β] {f:α->List Value} {s:Nat} {c:β->List AV} {w:World} {fz:Nat->Prop} {v:Value}
theorem frel_of_slI {e:α->β} (hf:∀ x,c (e x)=(f x).map AV.v) (hs:∀ x,(f x).length=s) (hp:∀ x,∀ u∈f x,plain u=true) {l:List α} {lo hi:Nat} (hfz:∀ g,lo<=g->g<hi->fz g) (h:Sl f s w lo hi v l):FRel w fz (eL c (l.map e)) v:=by
 obtain ⟨A,cap,rfl,hc,hm,h⟩:=h
 have key:∀ (g o:Nat),(0<l.length->A=some ⟨g,o,none⟩/\(fz g/\g<w.heap.size)/\∀ (k:Nat) (h:k<l.length) (j:Nat) (u:Value),(f l[k])[j]? = some u->w.cell? ⟨g,o+k*s+j,none⟩=some u)->FRel w fz (eL c (l.map e)) (.slice A l.length cap):=by
  intro g o hh
  have hrow:∀ (i j:Nat) (a:AV),i<l.length->(c ((l.map e).getD i default))[j]? = some a->∃ u,l[i]?.bind (fun x=>(f x)[j]?)=some u/\a = .v u/\plain u=true/\w.cell? ⟨g,o+i*s+j,none⟩=some u:=by
   intro i j a hi ha
   have h0:(l.map e).getD i default=e l[i]:=by simp [List.getD,hi]
   rw [h0,hf,List.getElem?_map] at ha
   cases hq:(f l[i])[j]? with
   | none=>rw [hq] at ha;cases ha
   | some u=>
    rw [hq] at ha
    refine ⟨u,by rw [List.getElem?_eq_getElem hi];exact hq,(Option.some.inj ha).symm,hp _ u (List.mem_of_getElem? hq),(hh (by omega)).2.2 i hi j u hq⟩
  have e0:(l.map e).length=l.length:=by simp
  unfold eL
  rw [e0]
  refine FRel.sl (s:=s) (g:=g) (o:=o) (fun i j=>(l[i]?.bind fun x=>(f x)[j]?).getD (.bool false)) hc hm (fun hn=>⟨(hh hn).1,(hh hn).2.1.1,(hh hn).2.1.2⟩) (fun i hi => ?_) (fun i j a hi ha => ?_) (fun i j a hi ha => ?_) (fun i j a hi ha => ?_)
  ·have h0:(l.map e).getD i default=e l[i]:=by simp [List.getD,hi]
   rw [h0,hf,List.length_map,hs]
  ·obtain ⟨u,h1,h2,h3,h4⟩:=hrow i j a hi ha
   simp only [h1,Option.getD_some]
   exact h4
  ·obtain ⟨u,h1,h2,h3,h4⟩:=hrow i j a hi ha
   simp only [h1,Option.getD_some]
   exact plain_one h3
  ·obtain ⟨u,h1,h2,h3,h4⟩:=hrow i j a hi ha
   subst h2
   simp only [h1,Option.getD_some]
   exact .v h3
 by_cases h0:0<l.length
 ·obtain ⟨b,o,hA,h1,h2,hlt,hcell⟩:=h h0
  exact key b o fun _=>⟨hA,⟨hfz b h1 h2,hlt⟩,hcell⟩
 ·exact key 0 0 fun h1=>absurd h1 h0
end
theorem frel_slslI {α β:Type} [Inhabited β] {f:α->List Value} {s:Nat} {c:β->List AV} {e:α->β} (hf:∀ x,c (e x)=(f x).map AV.v) (hs:∀ x,(f x).length=s) (hp:∀ x,∀ u∈f x,plain u=true) {w:World} {v:Value} {l:List (List α)} {lo hi:Nat} {fz:Nat->Prop} (hfz:∀ g,lo<=g->g<hi->fz g) (h:SlSl f s w lo hi v l) :
  FRel w fz (eL (cL c) (l.map fun r=>r.map e)) v:=by
 obtain ⟨xs,⟨A,cap,rfl,hc,hm,h⟩,hl,hr⟩:=h
 have e0:(l.map fun r=>r.map e).length=xs.length:=by rw [List.length_map,hl]
 have key:∀ (g o:Nat),(0<xs.length->A=some ⟨g,o,none⟩/\(fz g/\g<w.heap.size)/\∀ (k:Nat) (h:k<xs.length),w.cell? ⟨g,o+k*1+0,none⟩=some xs[k])->FRel w fz (eL (cL c) (l.map fun r=>r.map e)) (.slice A xs.length cap):=by
  intro g o hh
  unfold eL
  rw [e0]
  have hg:∀ i (h:i<xs.length),(l.map fun r=>r.map e).getD i default=(l[i]'(by omega)).map e:=fun i h=>by simp [List.getD,show i<l.length by omega]
  have one:∀ (i j:Nat) (a:AV),(cL c ((l.map fun r=>r.map e).getD i default))[j]? = some a->j=0/\a=eL c ((l.map fun r=>r.map e).getD i default):=fun i j a ha=>by
   match j with
   | 0=>exact ⟨rfl,(Option.some.inj ha).symm⟩
   | j+1=>simp [cL] at ha
  have us:∀ i (h:i<xs.length),(xs[i]?.getD (.bool false))=xs[i]:=fun i h=>by simp [h]
  have ho:∀ i (h:i<xs.length),∃ A n k,xs[i] = .slice A n k:=fun i h=>by
   obtain ⟨A,k,he,_⟩:=hr i h (by omega)
   exact ⟨A,_,k,he⟩
  refine FRel.sl (s:=1) (g:=g) (o:=o) (fun i _=>xs[i]?.getD (.bool false)) hc hm (fun hn=>⟨(hh hn).1,(hh hn).2.1.1,(hh hn).2.1.2⟩) (fun i hi=>rfl) (fun i j a hi ha => ?_) (fun i j a hi ha => ?_) (fun i j a hi ha => ?_)
  ·obtain ⟨rfl,_⟩:=one i j a ha
   rw [us i hi]
   exact (hh (by omega)).2.2 i hi
  ·rw [us i hi]
   obtain ⟨A,n,k,he⟩:=ho i hi
   rw [he]
   rfl
  ·obtain ⟨rfl,rfl⟩:=one i j a ha
   rw [us i hi,hg i hi]
   exact frel_of_slI hf hs hp hfz (hr i hi (by omega))
 by_cases h0:0<xs.length
 ·obtain ⟨b,o,hA,h1,h2,hlt,hcell⟩:=h h0
  exact key b o fun _=>⟨hA,⟨hfz b h1 h2,hlt⟩,fun k hk=>hcell k hk 0 _ rfl⟩
 ·exact key 0 0 fun h1=>absurd h1 h0
def ofIns (x:Ins):ZIn:=⟨x.op,x.loc,x.reg,x.val⟩
abbrev toP (p:List (List ZIn)):List (List Ins):=p.map fun r=>r.map toIns
abbrev ofP (p:List (List Ins)):List (List ZIn):=p.map fun r=>r.map ofIns
theorem frel_insI {w:World} {v:Value} {p:List (List Ins)} {lo hi:Nat} {fz:Nat->Prop} (hfz:∀ g,lo<=g->g<hi->fz g) (h:SlSl Ins.cells 4 w lo hi v p):FRel w fz (eL (cL ZIn.c) (ofP p)) v:=
 frel_slslI (f:=Ins.cells) (s:=4) (c:=ZIn.c) (e:=ofIns) (fun _=>rfl) (fun _=>rfl) (fun x u hu=>by simp [Ins.cells] at hu;rcases hu with rfl | rfl | rfl | rfl <;> rfl) hfz h
theorem tup2_rel {w:World} {fz:Nat->Prop} {a b:AV} {u v:Value} (ha:FRel w fz a u) (hb:FRel w fz b v):FRel w fz (.tup [a,b]) (.tuple #[u,v]):=by
 refine .tup rfl fun i c x hc hx => ?_
 match i with
 | 0=>
  obtain rfl:=Option.some.inj hc
  obtain rfl:u=x:=by simpa using hx
  exact ha
 | 1=>
  obtain rfl:=Option.some.inj hc
  obtain rfl:v=x:=by simpa using hx
  exact hb
 | i+2=>simp at hc
theorem pcall_ss {P:Program} {g:FuncId} {ars:List AV} {r:List (List Ins)×Bool} {to ti:TypeId} (hc:callable P g=true) (h:∀ (w:World) (fz:Nat->Prop) (vs:Array Value),vs.size=ars.length->(∀ (i:Nat) (a:AV) (v:Value),ars[i]? = some a->vs[i]? = some v->FRel w fz a v) ->
  Calls P g vs w fun e w'=>(∃ v,e = .returned (.tuple #[v,.bool r.2])/\OwOw Ins.cells 4 to ti w' w.heap.size w'.heap.size v r.1)/\Below w.heap.size w w'):PCall P g ars (.tup [eL (cL ZIn.c) (ofP r.1),Bo r.2]):=by
 refine ⟨hc,fun w fz vs hlt hl hrel=>(h w fz vs hl hrel).mono fun e w' ⟨⟨v,he,ho⟩,hb⟩ => ?_⟩
 have hfz:∀ g,w.heap.size<=g->g<w'.heap.size->(fun g=>fz g\/(w.heap.size<=g/\g<w'.heap.size)) g:=fun g h1 h2 => .inr ⟨h1,h2⟩
 refine ⟨_,fun g=>fz g\/(w.heap.size<=g/\g<w'.heap.size),he,hb,tup2_rel (frel_insI hfz ho.sl) (.v rfl),fun g hg => .inl hg,fun g hg => ?_,fun g hg => ?_⟩
 ·rcases hg with hg | hg
  ·exact .inl hg
  ·exact .inr hg.1
 ·rcases hg with hg | hg
  ·exact Nat.lt_of_lt_of_le (hlt g hg) hb.size
  ·exact hg.2
theorem args_i {w:World} {fz:Nat->Prop} {vs:Array Value} {a:AV} {t:Int} (hl:vs.size=[a,I t].length) (hrel:∀ (j:Nat) (c:AV) (v:Value),[a,I t][j]? = some c->vs[j]? = some v->FRel w fz c v):∃ u,vs = #[u,.int .i64 t]:=by
 obtain ⟨l⟩:=vs
 match l,hl with
 | [x,y],_=>
  have e1:=frel_v (hrel 1 _ y rfl rfl)
  subst e1
  exact ⟨x,rfl⟩
end Go.Proofs.Ytlgfihlflchhgaa
