/-
 From a law's walk to its row: an argument's reading in this seat's own words; the row's last step where memory below the old heap has not turned. Plain theorems over any program. No conditions.
-/
import Derived.Test.YtlmjnhnpahicmaaGD
import Derived.ChangeSame
import Derived.ChangeSlices
import Derived.WideKeyArgs
import Derived.Carry
import Derived.Deep.Slices
import Derived.Deep.Fields
import Derived.ProofKit
namespace Go.Proofs.Ytlmjnhnpahicmaa
open Go.RowKit Go.WideShapes Go.ChangeShapes Go.Deep
section
variable {H:Type} {enc:TypeId×Value->H} {P:Program}
theorem post_of_below {f:Func} {s:ChangeSpec} {apart fresh handsOn again:Bool} {W W':World} {args:Array Value} {v:Value} {ds gs:List (DataW H)} {before pa pv:List MemPlace}
  (hW:DataW.Whole enc P f.params.toList s.vars apart W args.toList ds gs before)
  (hres:∀ (b:Nat) (sp:Nat->Bool) (hd:Bool),DataW.TrodAll enc P W' b sp hd f.resultTypes.toList (v.resultList f.resultTypes.size) (s.fn H (ds++gs)).results [])
  (hargs:∀ sp:Nat->Bool,(∀ p∈before,sp p.block=true)->DataW.TrodAll enc P W' 0 sp true f.params.toList args.toList (s.fn H (ds++gs)).args pa)
  (hvars:∀ sp:Nat->Bool,(∀ p∈before,sp p.block=true)->DataW.TrodVars enc P W' sp s.vars (s.fn H (ds++gs)).vars pv)
  (hps:before=pa++pv) (hb:Below W.heap.size W W')
  (hok:∀ (j:Nat) (t:TypeId) (r:Value),f.resultTypes[j]? = some t->(v.resultList f.resultTypes.size)[j]? = some r->Value.okWide P W' .any 0 t r) :
  s.post enc P f apart fresh handsOn again W args v W':=by
 have hlt:∀ p∈before,p.block<W.heap.size:=fun p hp=>hW.lt p hp
 have hold:∀ p∈before,(fun b=>decide (b<W.heap.size)) p.block=true:=fun p hp=>by simpa using hlt p hp
 refine ⟨ds,gs,before,[],pa,pv,hW,hres _ _ _,hargs _ hold,hvars _ hold,World.keptBut_mono (fun p hp=>⟨hp,?_⟩) (hb.frame (· ∈ before)),fun _ => ?_⟩
 ·rw [hps,List.mem_append] at hp
  exact Or.inr hp
 ·obtain ⟨_,_,_,_,_,hz,hn⟩:=hW
  refine ⟨hok,_,_,([]++pa)++pv,⟨[]++pa,pv,trodAll_append (hargs _ (fun _ _=>rfl)) (hres _ _ _),hvars _ (fun _ _=>rfl),rfl,?_,?_⟩,?_⟩
  ·intro b off hp
   have hin:MemPlace.cell b off∈before:=by rw [hps];simpa using hp
   rw [hb.frozen (hlt _ hin)]
   exact hz b off hin
  ·intro ha
   have := hn ha
   rw [hps] at this
   simpa using this
  ·intro p hp _
   rw [hps]
   simpa using hp
theorem trodAll_below (hl:laidOutB P=true) {W W':World} (hb:Below W.heap.size W W') {sp:Nat->Bool}:∀ (ts:List TypeId) (vs:List Value) (ds:List (DataW H)) (ps:List MemPlace),
  (∀ t∈ts,P.readableRec t=true/\t<P.types.size)->DataW.TrodAll enc P W 0 (fun _=>true) true ts vs ds ps->(∀ x∈ps,x.block<W.heap.size)->(∀ x∈ps,sp x.block=true) ->
  DataW.TrodAll enc P W' 0 sp true ts vs ds ps
 | [],[],[],_,_,h,_,_=>h
 | t::ts,v::vs,d::ds,ps,hr,⟨p,q,h1,h2,hpq⟩,hlt,hs=>by
  subst hpq
  have hp:∀ x∈p,x.block<W.heap.size:=fun x hx=>hlt x (List.mem_append_left _ hx)
  exact ⟨p,q,WideElems.Trod_stays hl (hr t (by simp)).1 (hr t (by simp)).2 h1 (fun x hx=>hb.same (hp x hx)) (fun x hx=>hs x (List.mem_append_left _ hx)),
   trodAll_below hl hb ts vs ds q (fun t ht=>hr t (List.mem_cons_of_mem _ ht)) h2 (fun x hx=>hlt x (List.mem_append_right _ hx)) (fun x hx=>hs x (List.mem_append_right _ hx)),rfl⟩
 | [],_::_,_,_,_,h,_,_=>(by cases h)
 | [],[],_::_,_,_,h,_,_=>(by cases h)
 | _::_,[],_,_,_,h,_,_=>(by cases h)
 | _::_,_::_,[],_,_,h,_,_=>(by cases h)
variable {w:World} {spare:Nat->Bool} {held:Bool}
theorem rd_slice {α:Type} {f:α->List Value} {s:Nat} {t e:TypeId} (hs:P.cellsOf e=s) (hs0:0<s) (ht:P.underlying t=some (.slice e)) {Good:α->Prop}
  (hel:∀ (fuel:Nat) (cs:List Value) (x:DataW H×List MemPlace),DataW.trod enc P w 0 spare held fuel e cs=some x->∃ a,cs=f a/\Good a) {fuel:Nat} {cs:List Value} {x:DataW H×List MemPlace}
  (h:DataW.trod enc P w 0 spare held fuel t cs=some x):∃ v,cs=[v]/\∃ xs:List α,Sl f s w 0 w.heap.size v xs/\∀ y∈xs,Good y:=by
 rcases open_slice ht h with ⟨rfl,_⟩ | ⟨a,len,cap,m,n,D,Pl,rfl,_,hl,hm,hmm,_,hi⟩
 ·exact ⟨_,rfl,[],Sl.nil_ _ _ (by omega),fun y hy=>absurd hy (by simp)⟩
 ·refine ⟨_,rfl,?_⟩
  have hlm:len<=m:=by rw [hmm];split <;> omega
  have key:∀ i,i<len->∃ y:α,Good y/\∀ (j:Nat) (u:Value),(f y)[j]? = some u->w.cell? ((a.add (i*s)).add j)=some u:=by
   intro i hil
   obtain ⟨cs',hc,ht'⟩:=hi i (by omega)
   obtain ⟨y,rfl,hg⟩:=hel _ _ _ ht'
   obtain ⟨_,hcl,hat⟩:=World.cells?_some hc
   rw [hs] at hat hcl
   exact ⟨y,hg,fun j u hu=>by
    have hj:j<s:=by
     have := (List.getElem?_eq_some_iff.1 hu).1
     omega
    rw [hat j hj]
    exact hu⟩
  have key2:∀ i,i<len->∃ cs',w.cells? 0 (a.add (i*s)) s=some cs':=by
   intro i hil
   obtain ⟨cs',hc,_⟩:=hi i (by omega)
   rw [hs] at hc
   exact ⟨cs',hc⟩
  clear hi
  simp only [maxLen] at hm
  by_cases hn:0<len
  ·obtain ⟨cs0,hc0⟩:=key2 0 hn
   obtain ⟨_,hcl,hat⟩:=World.cells?_some hc0
   have h00:=hat 0 hs0
   rw [List.getElem?_eq_getElem (by omega)] at h00
   have hspot:=World.cell?_spot h00
   obtain ⟨b,o,sp⟩:=a
   have hsp:sp=none:=by simpa [Addr.add] using hspot
   subst hsp
   have hb:b<w.heap.size:=by
    have := World.block_lt_of_cell? w _ h00
    simpa [add_plain'] using this
   have hch:∃ F:Nat->α,∀ i,i<len->Good (F i)/\∀ (j:Nat) (u:Value),(f (F i))[j]? = some u->w.cell? (((⟨b,o,none⟩:Addr).add (i*s)).add j)=some u:=by
    obtain ⟨y0,_⟩:=key 0 hn
    refine ⟨fun i=>if h:i<len then (key i h).choose else y0,fun i hil => ?_⟩
    simp only [dif_pos hil]
    exact (key i hil).choose_spec
   obtain ⟨F,hF⟩:=hch
   refine ⟨(List.range len).map F,⟨_,cap,by simp,by simpa using hl,by omega,fun _=>⟨b,o,rfl,Nat.zero_le _,hb,hb,fun k hk j u hu => ?_⟩⟩,fun y hy => ?_⟩
   ·have hk':k<len:=by simpa using hk
    have := (hF k hk').2 j u (by simpa using hu)
    rwa [add_plain',add_plain'] at this
   ·rw [List.mem_map] at hy
    obtain ⟨i,hi,rfl⟩:=hy
    exact (hF i (by simpa using hi)).1
  ·have h0:len=0:=by omega
   subst h0
   exact ⟨[],Sl.nil_ _ _ (by omega),fun y hy=>absurd hy (by simp)⟩
theorem rd_int {t:TypeId} {k:IntKind} (ht:P.underlying t=some (.int k)) (fuel:Nat) (cs:List Value) (x:DataW H×List MemPlace) (h:DataW.trod enc P w 0 spare held fuel t cs=some x) :
  ∃ a:Int,cs=[.int k a]/\(Lit.int k a).wf=true:=by
 obtain ⟨n,h1,_,h3⟩:=DataW.trod_int ht h
 exact ⟨n,h1,h3⟩
theorem rd_ins {t e:TypeId} {f0 f1 f2 f3:Field} (ht:P.underlying t=some (.struct #[f0,f1,f2,f3])) (he:P.underlying e=some (.int .i64)) (h0:f0.type=e/\f0.offset=0) (h1:f1.type=e/\f1.offset=1)
  (h2:f2.type=e/\f2.offset=2) (h3:f3.type=e/\f3.offset=3) (hc:P.cellsOf t=4) (hce:P.cellsOf e=1) (fuel:Nat) (cs:List Value) (x:DataW H×List MemPlace)
  (h:DataW.trod enc P w 0 spare held fuel t cs=some x):∃ a:Ins,cs=a.cells/\True:=by
 obtain ⟨xs,n,_,_,hlen,hxl,hf⟩:=DataW.trod_struct ht h
 rw [hc] at hlen
 match cs,hlen with
 | [c0,c1,c2,c3],_=>
  match xs,hxl with
  | [y0,y1,y2,y3],_=>
   have g0:=hf 0 f0 rfl
   have g1:=hf 1 f1 rfl
   have g2:=hf 2 f2 rfl
   have g3:=hf 3 f3 rfl
   rw [h0.1,h0.2,hce] at g0
   rw [h1.1,h1.2,hce] at g1
   rw [h2.1,h2.2,hce] at g2
   rw [h3.1,h3.2,hce] at g3
   obtain ⟨a0,e0,_⟩:=DataW.trod_int he (g0.trans rfl)
   obtain ⟨a1,e1,_⟩:=DataW.trod_int he (g1.trans rfl)
   obtain ⟨a2,e2,_⟩:=DataW.trod_int he (g2.trans rfl)
   obtain ⟨a3,e3,_⟩:=DataW.trod_int he (g3.trans rfl)
   refine ⟨⟨a0,a1,a2,a3⟩,?_,trivial⟩
   simp only [List.drop_zero,List.take_succ_cons,List.take_zero,List.drop_succ_cons,List.cons.injEq,and_true] at e0 e1 e2 e3
   rw [e0,e1,e2,e3]
   rfl
theorem rd_sliceS {α:Type} {f:α->List Value} {s:Nat} {t t1 e:TypeId} (hs:P.cellsOf e=s) (hs0:0<s) (h1s:P.cellsOf t1=1) (ht:P.underlying t=some (.slice t1)) (ht1:P.underlying t1=some (.slice e)) {Good:α->Prop}
  (hel:∀ (fuel:Nat) (cs:List Value) (x:DataW H×List MemPlace),DataW.trod enc P w 0 spare held fuel e cs=some x->∃ a,cs=f a/\Good a) {fuel:Nat} {cs:List Value} {x:DataW H×List MemPlace}
  (h:DataW.trod enc P w 0 spare held fuel t cs=some x):∃ v,cs=[v]/\∃ p:List (List α),SlSl f s w 0 w.heap.size v p/\∀ r∈p,∀ y∈r,Good y:=by
 obtain ⟨v,rfl,vs,hvs,hg⟩:=rd_slice (f:=val1) h1s (by omega) ht (Good:=fun v=>∃ xs:List α,Sl f s w 0 w.heap.size v xs/\∀ y∈xs,Good y)
  (fun fuel cs x h=>by
   obtain ⟨v,hv,hx⟩:=rd_slice hs hs0 ht1 hel h
   exact ⟨v,hv,hx⟩) h
 refine ⟨v,rfl,?_⟩
 have hch:∃ F:Nat->List α,∀ i (h:i<vs.length),Sl f s w 0 w.heap.size vs[i] (F i)/\∀ y∈F i,Good y:=by
  refine ⟨fun i=>if h:i<vs.length then (hg vs[i] (List.getElem_mem h)).choose else [],fun i h => ?_⟩
  simp only [dif_pos h]
  exact (hg vs[i] (List.getElem_mem h)).choose_spec
 obtain ⟨F,hF⟩:=hch
 refine ⟨(List.range vs.length).map F,⟨vs,hvs,by simp,fun k h h' => ?_⟩,fun r hr => ?_⟩
 ·have := (hF k h).1
  simpa using this
 ·rw [List.mem_map] at hr
  obtain ⟨i,hi,rfl⟩:=hr
  exact (hF i (by simpa using hi)).2
end
theorem one_cell {v u:Value} (h:v.cells.toList=[u]) (hv:∃ a len cap,v = .slice a len cap):v=u:=by
 obtain ⟨a,len,cap,rfl⟩:=hv
 simpa [Value.cells] using h
end Go.Proofs.Ytlmjnhnpahicmaa
