/- Texts joined. No conditions. -/
import Derived.ChangeSame
import Derived.ChangeSlices
import Derived.WideKeyArgs
import Derived.Carry
import Derived.Deep.Slices
import Derived.Deep.Fields
import Derived.ProofKit
import Derived.OpenShut
import Derived.BigRegion
import Derived.Sort.Row
import Derived.Sort.Grow
import Derived.Test.YtlmjnhnpahicmaaGreatProg
import Derived.Shelf.Slices.Delete
import Derived.Test.YtlmjnhnpahicmaaGreatY9
namespace Go.Proofs.YtlmjnhnpahicmaaGreat
noncomputable section
open Go.RowKit Go.WideShapes Go.ChangeShapes Go.Deep
section
variable {H:Type} {enc:TypeId×Value->H} {P:Program}
theorem wA {f:Func} {s:ChangeSpec} {apart fresh handsOn again:Bool} {W W':World} {args:Array Value} {v:Value} {ds gs:List (DataW H)} {before pa pv:List MemPlace}
  (hW:DataW.Whole enc P f.params.toList s.vars apart W args.toList ds gs before)
  (hres:∀ (b:Nat) (sp:Nat->Bool) (hd:Bool),DataW.TrodAll enc P W' b sp hd f.resultTypes.toList (v.resultList f.resultTypes.size) (s.fn H (ds++gs)).results [])
  (hargs:∀ sp:Nat->Bool,(∀ p∈before,sp p.block=true)->DataW.TrodAll enc P W' 0 sp true f.params.toList args.toList (s.fn H (ds++gs)).args pa)
  (hvars:∀ sp:Nat->Bool,(∀ p∈before,sp p.block=true)->DataW.TrodVars enc P W' sp s.vars (s.fn H (ds++gs)).vars pv)
  (hps:before=pa++pv) (hb:Below W.heap.size W W')
  (hok:∀ (j:Nat) (t:TypeId) (r:Value),f.resultTypes[j]? = some t->(v.resultList f.resultTypes.size)[j]? = some r->Value.okWide P W' .any 0 t r) :
  s.post enc P f apart fresh handsOn again W args v W':=by
 have hlt:∀ p∈before,p.block<W.heap.size:=fun p hp=>hW.lt p hp;have hold:∀ p∈before,(fun b=>decide (b<W.heap.size)) p.block=true:=fun p hp=>by simpa using hlt p hp
 refine ⟨ds,gs,before,[],pa,pv,hW,hres _ _ _,hargs _ hold,hvars _ hold,World.keptBut_mono (fun p hp=>⟨hp,?_⟩) (hb.frame (· ∈ before)),fun _=>?_⟩
 ·rw [hps,List.mem_append] at hp;exact Or.inr hp
 ·obtain ⟨_,_,_,_,_,hz,hn⟩:=hW;refine ⟨hok,_,_,([]++pa)++pv,⟨[]++pa,pv,trodAll_append (hargs _ (fun _ _=>rfl)) (hres _ _ _),hvars _ (fun _ _=>rfl),rfl,?_,?_⟩,?_⟩
  ·intro b off hp;have hin:MemPlace.cell b off∈before:=by rw [hps];simpa using hp
   rw [hb.frozen (hlt _ hin)];exact hz b off hin
  ·intro ha;have := hn ha;rw [hps] at this;simpa using this
  ·intro p hp _;rw [hps];simpa using hp
theorem oL (hl:laidOutB P=true) {W W':World} (hb:Below W.heap.size W W') {sp:Nat->Bool}:∀ (ts:List TypeId) (vs:List Value) (ds:List (DataW H)) (ps:List MemPlace),
  (∀ t∈ts,P.readableRec t=true/\t<P.types.size)->DataW.TrodAll enc P W 0 (fun _=>true) true ts vs ds ps->(∀ x∈ps,x.block<W.heap.size)->(∀ x∈ps,sp x.block=true) ->
  DataW.TrodAll enc P W' 0 sp true ts vs ds ps
 | [],[],[],_,_,h,_,_=>h
 | t::ts,v::vs,d::ds,ps,hr,⟨p,q,h1,h2,hpq⟩,hlt,hs=>by
  subst hpq;have hp:∀ x∈p,x.block<W.heap.size:=fun x hx=>hlt x (List.mem_append_left _ hx);exact ⟨p,q,WideElems.Trod_stays hl (hr t (by simp)).1 (hr t (by simp)).2 h1 (fun x hx=>hb.same (hp x hx)) (fun x hx=>hs x (List.mem_append_left _ hx)),
   oL hl hb ts vs ds q (fun t ht=>hr t (List.mem_cons_of_mem _ ht)) h2 (fun x hx=>hlt x (List.mem_append_right _ hx)) (fun x hx=>hs x (List.mem_append_right _ hx)),rfl⟩
 | [],_::_,_,_,_,h,_,_=>(by cases h)
 | [],[],_::_,_,_,h,_,_=>(by cases h)
 | _::_,[],_,_,_,h,_,_=>(by cases h)
 | _::_,_::_,[],_,_,h,_,_=>(by cases h)
variable {w:World} {spare:Nat->Bool} {held:Bool}
theorem zX {α:Type} {f:α->List Value} {s:Nat} {t e:TypeId} (hs:P.cellsOf e=s) (hs0:0<s) (ht:P.underlying t=some (.slice e)) {Good:α->Prop}
  (hel:∀ (fuel:Nat) (cs:List Value) (x:DataW H×List MemPlace),DataW.trod enc P w 0 spare held fuel e cs=some x->∃ a,cs=f a/\Good a) {fuel:Nat} {cs:List Value} {x:DataW H×List MemPlace}
  (h:DataW.trod enc P w 0 spare held fuel t cs=some x):∃ v,cs=[v]/\∃ xs:List α,Sl f s w 0 w.heap.size v xs/\∀ y∈xs,Good y:=by
 rcases open_slice ht h with ⟨rfl,_⟩ | ⟨a,len,cap,m,n,D,Pl,rfl,_,hl,hm,hmm,_,hi⟩
 ·exact ⟨_,rfl,[],Sl.nil_ _ _ (by omega),fun y hy=>absurd hy (by simp)⟩
 ·refine ⟨_,rfl,?_⟩;have hlm:len<=m:=by rw [hmm];split <;> omega
  have key:∀ i,i<len->∃ y:α,Good y/\∀ (j:Nat) (u:Value),(f y)[j]? = some u->w.cell? ((a.add (i*s)).add j)=some u:=by
   intro i hil;obtain ⟨cs',hc,ht'⟩:=hi i (by omega);obtain ⟨y,rfl,hg⟩:=hel _ _ _ ht';obtain ⟨_,hcl,hat⟩:=World.cells?_some hc;rw [hs] at hat hcl;exact ⟨y,hg,fun j u hu=>by
    have hj:j<s:=by
     have := (ges hu).1;omega
    rw [hat j hj];exact hu⟩
  have key2:∀ i,i<len->∃ cs',w.cells? 0 (a.add (i*s)) s=some cs':=by
   intro i hil;obtain ⟨cs',hc,_⟩:=hi i (by omega);rw [hs] at hc;exact ⟨cs',hc⟩
  clear hi;simp only [maxLen] at hm
  by_cases hn:0<len
  ·obtain ⟨cs0,hc0⟩:=key2 0 hn;obtain ⟨_,hcl,hat⟩:=World.cells?_some hc0;have h00:=hat 0 hs0;rw [geq (by omega)] at h00;have hspot:=World.cell?_spot h00;obtain ⟨b,o,sp⟩:=a;have hsp:sp=none:=by simpa [Addr.add] using hspot
   subst hsp;have hb:b<w.heap.size:=by
    have := World.block_lt_of_cell? w _ h00;simpa [pV] using this
   have hch:∃ F:Nat->α,∀ i,i<len->Good (F i)/\∀ (j:Nat) (u:Value),(f (F i))[j]? = some u->w.cell? (((⟨b,o,none⟩:Addr).add (i*s)).add j)=some u:=by
    obtain ⟨y0,_⟩:=key 0 hn;refine ⟨fun i=>if h:i<len then (key i h).choose else y0,fun i hil=>?_⟩;simp only [dif_pos hil];exact (key i hil).choose_spec
   obtain ⟨F,hF⟩:=hch;refine ⟨(List.range len).map F,⟨_,cap,by simp,by simpa using hl,by omega,fun _=>⟨b,o,rfl,Nat.zero_le _,hb,hb,fun k hk j u hu=>?_⟩⟩,fun y hy=>?_⟩
   ·have hk':k<len:=by simpa using hk
    have := (hF k hk').2 j u (by simpa using hu)
    rwa [pV,pV] at this
   ·rw [List.mem_map] at hy;obtain ⟨i,hi,rfl⟩:=hy;exact (hF i (by simpa using hi)).1
  ·have h0:len=0:=by omega
   subst h0;exact ⟨[],Sl.nil_ _ _ (by omega),fun y hy=>absurd hy (by simp)⟩
theorem Hy {t e:TypeId} {f0 f1 f2 f3:Field} (ht:P.underlying t=some (.struct #[f0,f1,f2,f3])) (he:P.underlying e=some (.int .i64)) (h0:f0.type=e/\f0.offset=0) (h1:f1.type=e/\f1.offset=1)
  (h2:f2.type=e/\f2.offset=2) (h3:f3.type=e/\f3.offset=3) (hc:P.cellsOf t=4) (hce:P.cellsOf e=1) (fuel:Nat) (cs:List Value) (x:DataW H×List MemPlace)
  (h:DataW.trod enc P w 0 spare held fuel t cs=some x):∃ a:Ins,cs=a.cells/\True:=by
 obtain ⟨xs,n,_,_,hlen,hxl,hf⟩:=DataW.trod_struct ht h;rw [hc] at hlen
 match cs,hlen with
 | [c0,c1,c2,c3],_=>
  match xs,hxl with
  | [y0,y1,y2,y3],_=>
   have g0:=hf 0 f0 rfl;have g1:=hf 1 f1 rfl;have g2:=hf 2 f2 rfl;have g3:=hf 3 f3 rfl;rw [h0.1,h0.2,hce] at g0;rw [h1.1,h1.2,hce] at g1;rw [h2.1,h2.2,hce] at g2;rw [h3.1,h3.2,hce] at g3;obtain ⟨a0,e0,_⟩:=DataW.trod_int he (g0.trans rfl);obtain ⟨a1,e1,_⟩:=DataW.trod_int he (g1.trans rfl);obtain ⟨a2,e2,_⟩:=DataW.trod_int he (g2.trans rfl);obtain ⟨a3,e3,_⟩:=DataW.trod_int he (g3.trans rfl);refine ⟨⟨a0,a1,a2,a3⟩,?_,trivial⟩;simp only [List.drop_zero,List.take_succ_cons,List.take_zero,List.drop_succ_cons,List.cons.injEq,and_true] at e0 e1 e2 e3;rw [e0,e1,e2,e3]
   rfl
theorem Dr {α:Type} {f:α->List Value} {s:Nat} {t t1 e:TypeId} (hs:P.cellsOf e=s) (hs0:0<s) (h1s:P.cellsOf t1=1) (ht:P.underlying t=some (.slice t1)) (ht1:P.underlying t1=some (.slice e)) {Good:α->Prop}
  (hel:∀ (fuel:Nat) (cs:List Value) (x:DataW H×List MemPlace),DataW.trod enc P w 0 spare held fuel e cs=some x->∃ a,cs=f a/\Good a) {fuel:Nat} {cs:List Value} {x:DataW H×List MemPlace}
  (h:DataW.trod enc P w 0 spare held fuel t cs=some x):∃ v,cs=[v]/\∃ p:List (List α),iO f s w 0 w.heap.size v p/\∀ r∈p,∀ y∈r,Good y:=by
 obtain ⟨v,rfl,vs,hvs,hg⟩:=zX (f:=Bb) h1s (by omega) ht (Good:=fun v=>∃ xs:List α,Sl f s w 0 w.heap.size v xs/\∀ y∈xs,Good y)
  (fun fuel cs x h=>by
   obtain ⟨v,hv,hx⟩:=zX hs hs0 ht1 hel h;exact ⟨v,hv,hx⟩) h
 refine ⟨v,rfl,?_⟩;have hch:∃ F:Nat->List α,∀ i (h:i<vs.length),Sl f s w 0 w.heap.size vs[i] (F i)/\∀ y∈F i,Good y:=by
  refine ⟨fun i=>if h:i<vs.length then (hg vs[i] (List.getElem_mem h)).choose else [],fun i h=>?_⟩;simp only [dif_pos h];exact (hg vs[i] (List.getElem_mem h)).choose_spec
 obtain ⟨F,hF⟩:=hch;refine ⟨(List.range vs.length).map F,⟨vs,hvs,by simp,fun k h h' => ?_⟩,fun r hr=>?_⟩
 ·have := (hF k h).1;simpa using this
 ·rw [List.mem_map] at hr;obtain ⟨i,hi,rfl⟩:=hr;exact (hF i (by simpa using hi)).2
end
theorem one_cell {v u:Value} (h:v.cells.toList=[u]) (hv:∃ a len cap,v = .slice a len cap):v=u:=by
 obtain ⟨a,len,cap,rfl⟩:=hv;simpa [Value.cells] using h
open Go.ChangeShapes Go.WideShapes Go.ChangeAt Go.RowKit Go.Shelf Go.Sort
set_option maxRecDepth 100000
theorem zY {α:Type} (f:α->LI):SWO (ltOf fun x y=>cmpL (f x) (f y)) where
 irrefl x:=by simp [ltOf,jv]
 trans x y z h1 h2:=by
  simp only [ltOf,dte] at *;exact jl h1 h2
 ntrans x y z h1 h2:=by
  simp only [ltOf,decide_eq_false_iff_not] at *;intro h;rcases kX (f x) (f y) with g | g | g
  ·exact h1 g
  ·rw [g] at h;exact h2 h
  ·exact h2 (jl g h)
theorem ui (x y:Int) (w:World) :
  Calls Tryz.prog 104 #[.int .i64 x,.int .i64 y] w fun e w'=>e = .returned (.int .i64 (if x<y then -1 else if y<x then 1 else 0))/\w'=w:=by
 go_enter Tryz.func104,Tryz.ntmps104
 by_cases h1:x<y
 ·rw [if_pos h1]
  go_wp2
  go_ret
  exact ⟨rfl,rfl⟩
 ·rw [if_neg h1]
  by_cases h2:y<x
  ·rw [if_pos h2]
   go_wp2
   go_ret
   exact ⟨rfl,rfl⟩
  ·rw [if_neg h2]
   go_wp2
   go_ret
   exact ⟨rfl,rfl⟩
theorem tq {lo hi lo' hi':Nat} {u v:Value} {xs ys:LI} {w:World} (hu:Sl lM 1 w lo hi u xs) (hv:Sl lM 1 w lo' hi' v ys) :
  Calls Tryz.prog 71 #[u,v] w fun e w'=>e = .returned (.int .i64 (cmpL xs ys))/\w'=w:=by
 obtain ⟨A,ca,rfl,hca,hma,hA⟩:=hu.ints;obtain ⟨B,cb,rfl,hcb,hmb,hB⟩:=hv.ints;have HAA:=Lib.hid hA;clear hA;have HBB:=Lib.hid hB;clear hB
 go_enter Tryz.func71,Tryz.ntmps71
 go_wp2_with fail
 go_loopw [11] (fun i wr=>∃ k:Nat,k<=xs.length/\k<=ys.length/\i = .int .i64 k/\wr=w/\cmpL xs ys=cmpL (xs.drop k) (ys.drop k)) (fun i _=>xs.length-(intOf i).toNat)
 case atStart=>exact ⟨0,Nat.zero_le _,Nat.zero_le _,rfl,rfl,rfl⟩
 case round=>
  obtain ⟨k,hk,hk2,rfl,rfl,he⟩:=hrel;have HE:=Lib.hid he;clear he
  by_cases hlt:k<xs.length
  ·obtain ⟨ba,oa,rfl,_,_,hba,hA⟩:=HAA.out (by omega);have ca1:=hA k hlt;clear hA;have i1:(0:Int)<=(k:Int):=by omega
   have i2:(k:Int)<(xs.length:Int):=by omega
   have HX:=Lib.hid (List.drop_eq_getElem_cons hlt)
   by_cases hlt2:k<ys.length
   ·obtain ⟨bb,ob,rfl,_,_,hbb,hB⟩:=HBB.out (by omega);have cb1:=hB k hlt2;clear hB;have i3:(k:Int)<(ys.length:Int):=by omega
    have HY:=Lib.hid (List.drop_eq_getElem_cons hlt2);generalize xs[k]=x at *;generalize ys[k]=y at *;have hc:=ui x y wr
    by_cases h1:x<y
    ·rw [if_pos h1] at hc;have HR:=Lib.hid (show cmpL xs ys = -1 by rw [HE.out,HX.out,HY.out,cmpL,if_pos h1])
     go_wp2_with (go_at_call 104;refine hc.mono ?_;rintro e w' ⟨rfl,rfl⟩)
     go_ret
     exact ⟨by rw [HR.out];rfl,rfl⟩
    ·rw [if_neg h1] at hc
     by_cases h2:y<x
     ·rw [if_pos h2] at hc;have HR:=Lib.hid (show cmpL xs ys=1 by rw [HE.out,HX.out,HY.out,cmpL,if_neg h1,if_pos h2])
      go_wp2_with (go_at_call 104;refine hc.mono ?_;rintro e w' ⟨rfl,rfl⟩)
      go_ret
      exact ⟨by rw [HR.out];rfl,rfl⟩
     ·rw [if_neg h2] at hc;have HR:=Lib.hid (show cmpL xs ys=cmpL (xs.drop (k+1)) (ys.drop (k+1)) by rw [HE.out,HX.out,HY.out,cmpL,if_neg h1,if_neg h2])
      go_wp2_with (go_at_call 104;refine hc.mono ?_;rintro e w' ⟨rfl,rfl⟩)
      go_roundw
      case rel=>exact ⟨k+1,by omega,by omega,by go_num,by first | rfl | trivial,HR.out⟩
      case measure=>simp [intOf];omega
   ·have hky:k=ys.length:=by omega
    have i3:((ys.length:Int)<=(k:Int)):=by omega
    have HR:=Lib.hid (show cmpL xs ys=1 by rw [HE.out,HX.out,List.drop_eq_nil_of_le (show ys.length<=k by omega)];rfl);clear hky
    go_wp2_with fail
    go_ret
    exact ⟨by rw [HR.out];rfl,rfl⟩
  ·have hkx:k=xs.length:=by omega
   have HF:=Lib.hid (show cmpL xs ys=cmpL [] (ys.drop xs.length) by rw [HE.out,hkx,List.drop_length]);clear HE;subst hkx
   by_cases hl:xs.length<ys.length
   ·have i3:((xs.length:Int)<(ys.length:Int)):=by omega
    go_wp2_with fail
    go_ret
    exact ⟨by rw [HF.out,List.drop_eq_getElem_cons hl];rfl,rfl⟩
   ·have i3 : ¬ ((xs.length:Int)<(ys.length:Int)):=by omega
    go_wp2_with fail
    go_ret
    exact ⟨by rw [HF.out,List.drop_eq_nil_of_le (by omega)];rfl,rfl⟩
theorem oM {w:World} {fz:Nat->Prop} {v:Value} {l:LI} (h:FRel w fz (eL cI l) v):Sl lM 1 w 0 w.heap.size v l:=by
 have := p9 (f:=lM) (s:=1) (c:=cI) (e:=id) (fun _=>rfl) (fun _=>rfl) h
 rwa [List.map_id] at this
def Rd1 (w:World) (fz:Nat->Prop):Type:={ p:Value×LI // p.1.oneCell'=true/\FRel w fz (eL cI p.2) p.1 }
theorem Dt (w:World) (fz:Nat->Prop):FRel w fz (eL cI ([]:LI)) (.slice none 0 0):=
 .sl (s:=1) (g:=0) (o:=0) (fun _ _ => .bool false) (Nat.le_refl _) (by decide) (fun h=>absurd h (by simp)) (fun i h=>absurd h (by simp)) (fun i j a h=>absurd h (by simp)) (fun i j a h=>absurd h (by simp)) (fun i j a h=>absurd h (by simp))
instance {w:World} {fz:Nat->Prop}:Inhabited (Rd1 w fz):=⟨⟨(.slice none 0 0,[]),rfl,Dt w fz⟩⟩
def wG {w:World} {fz:Nat->Prop} (x:Rd1 w fz):Value:=x.1.1
def Du {w:World} {fz:Nat->Prop} (x:Rd1 w fz):LI:=x.1.2
theorem kx {α:Type} [Inhabited α] {enc:α->Value} {w:World} {blk off g:Nat} {d:Array α} (h:g≠blk):(putRow enc w blk off d).heap[g]? = w.heap[g]? := by
 show (w.heap.modify blk _)[g]? = _;rw [Array.getElem?_modify,if_neg (Ne.symm h)]
theorem ng {α:Type} [Inhabited α] {enc:α->Value} {w:World} {blk off:Nat} {d:Array α} {cs:Array Value} {t:TypeId} {fr:Nat×Nat} (h:w.heap[blk]? = some (.cells cs t fr)):(putRow enc w blk off d).heap[blk]? = some (.cells (putCells enc off d cs) t fr):=by
 show (w.heap.modify blk _)[blk]? = _;rw [Array.getElem?_modify,if_pos rfl,h]
 rfl
theorem iE {α:Type} [Inhabited α] {enc:α->Value} {w:World} {blk off m g:Nat} {d:Array α} {os:Array Obj} (hg:g<w.heap.size):(sortWorld enc w blk off m d os).heap[g]? = (putRow enc w blk off d).heap[g]? := by
 show ((putRow enc (Sort.ahead w m) blk off d).heap++os)[g]? = _;have hs:(putRow enc (Sort.ahead w m) blk off d).heap.size=w.heap.size:=by rw [size_putRow];rfl
 rw [Array.getElem?_append_left (by rw [hs];exact hg)]
 rfl
theorem lq {α:Type} [Inhabited α] {enc:α->Value} {off:Nat} {d:Array α} {cs:Array Value}:(putCells enc off d cs).size=cs.size:=by simp [putCells]
theorem qI {α:Type} [Inhabited α] {enc:α->Value} {off:Nat} {d:Array α} {cs:Array Value} {k:Nat} (h:off+d.size<=cs.size) (hk:k<d.size):(putCells enc off d cs)[off+k]? = some (enc d[k]!):=by
 unfold putCells;rw [Array.getElem?_mapIdx,Array.getElem?_eq_getElem (by omega)];simp only [Option.map_some];rw [if_pos (by omega),show off+k-off=k by omega]
theorem Gx {c:Cx} {blk off size:Nat} (hnf : ¬ c.fz blk) (hlt:∀ g,c.fz g->g<c.w.heap.size):CmpLays1 Tryz.prog 71 #[] (wG (w:=c.w) (fz:=c.fz)) (fun x y=>cmpL (Du x) (Du y)) blk off size c.w:=by
 intro m os dk hs x y;have hW:∀ g,c.fz g->g<c.w.heap.size->(sortWorld wG c.w blk off m dk os).heap[g]? = c.w.heap[g]? /\ c.fz g:=fun g hg hl=>by
  rw [iE hl,kx (by rintro rfl;exact hnf hg)];exact ⟨rfl,hg⟩
 have hsz:c.w.heap.size<=(sortWorld wG c.w blk off m dk os).heap.size:=by
  show _<=((putRow wG (Sort.ahead c.w m) blk off dk).heap++os).size;rw [Array.size_append,size_putRow];show c.w.heap.size<=c.w.heap.size+os.size;omega
 have hx:=oM (x.2.2.mono hsz hW);have hy:=oM (y.2.2.mono hsz hW);refine (tq hx hy).mono fun e w' ⟨he,hw⟩=>⟨he,0,#[],?_⟩;rw [hw,grow_empty]
 rfl
theorem qJ {α:Type} [Inhabited α] {d:Array α} {i:Nat} (h:i<d.size):d[i]? = some d[i]! := by
 rw [getElem!_pos d i h];exact Array.getElem?_eq_getElem h
theorem EK {c:Cx} (hr:HRel c) {l:LL} {ver:Nat} (hH:c.H=[some ⟨ver,1,35,l.map (cL cI)⟩]) {u:Value} (hu:c.rel (.hs 0 ver 1 0 l.length) u) (hl:l.length<4611686018427387904) (hn:0<l.length) :
  Calls Tryz.prog 70 #[u,.func (.func 71) #[] #[]] c.w fun e w'=>∃ c',e = .returned (.tuple #[])/\c'.w=w'/\c'.H=[some ⟨ver,1,35,(xm l).map (cL cI)⟩]/\HRel c'/\Ext c c':=by
 have hlv:c.live 0 ⟨ver,1,35,l.map (cL cI)⟩:=by
  unfold Cx.live;rw [hH]
  rfl
 obtain ⟨cs,fr0,hB⟩:=hr.blk 0 _ hlv
 cases hu with
 | fr h=>cases h
 | @hs _ _ _ _ _ cap A hb hc hm h0 h=>
 obtain ⟨f,rfl,hat,hhd⟩:=hB.cells hlv (fun x hx=>(h x hx).1);obtain ⟨_,_,h3,_⟩:=h _ hhd;have hA:=h3 (by omega);have hfit:(c.φ 0).2+l.length<=cs.size:=by
  have := hB.fits;simpa using this
 have hrow:∀ i (hi:i<l.length),∃ p:Rd1 c.w c.fz,cs[(c.φ 0).2+i]? = some (wG p)/\Du p=l[i]:=fun i hi=>by
  obtain ⟨u,g1,g2,g3⟩:=hB.rel i (cL cI l[i]) 0 (eL cI l[i]) (by simp [hi]) rfl;refine ⟨⟨(u,l[i]),g2,ny 1 _ _ rfl g3⟩,?_,rfl⟩;show _=some u;simpa using g1
 obtain ⟨d,hds,hd1,hd2⟩:∃ d:Array (Rd1 c.w c.fz),d.size=l.length/\(∀ i,i<l.length->cs[(c.φ 0).2+i]? = some (wG d[i]!))/\d.toList.map Du=l:=by
  refine ⟨Array.ofFn (fun i:_root_.Fin l.length=>(hrow i.1 i.2).choose),by simp,fun i hi=>?_,?_⟩
  ·rw [getElem!_pos _ i (by simpa using hi),Array.getElem_ofFn];exact (hrow i hi).choose_spec.1
  ·apply List.ext_getElem
   ·simp
   ·intro i h1 h2;simp only [List.getElem_map,Array.getElem_toList,Array.getElem_ofFn];exact (hrow i h2).choose_spec.2
 have hblk:(c.φ 0).1<c.w.heap.size:=hr.live_lt hlv;have hH2:Holds (wG (w:=c.w) (fz:=c.fz)) c.w (c.φ 0).1 (c.φ 0).2 d:=fun j hj=>by
  have hj2:(c.φ 0).2+j<cs.size:=by omega
  refine ⟨?_,?_⟩
  ·simp only [World.cell?,hat];exact hd1 j (by omega)
  ·have := hB.free f rfl _ hj2;obtain ⟨lo,hi'⟩:=f;simp only [World.frozen?,hat,Bool.and_eq_false_iff,decide_eq_false_iff_not];simp only at this;omega
 have eg:∀ args w,(callFunc 71 args).run Tryz.prog w = .ok (.enter 71 args) w:=enters_of Tryz.func71 (by kernel_rfl) rfl;have hcon:=Any.slices_SortFunc Dq (wG (w:=c.w) (fz:=c.fz)) (fun x=>x.2.1) (fun x y=>cmpL (Du x) (Du y)) (zY Du) 71 #[] (c.φ 0).1 (c.φ 0).2 cap d c.w eg (Gx (hr.not_fz hlv) hr.lt) hH2 hblk (by omega);rw [hA,show (c.φ 0).2+0*1=(c.φ 0).2 by omega,<- hds];refine (show Calls Tryz.prog 70 _ _ _ from hcon).mono ?_;rintro e w' ⟨rfl,d',m,os,hp,hs,rfl⟩;have hds':d'.size=l.length:=hp.1.trans hds;have hpl:d'.toList.Perm d.toList:=by
  have := hp.2.2
  rwa [Array.extract_eq_self_of_le (by omega),Array.extract_eq_self_of_le (by omega)] at this
 have hsl:d'.toList.map Du=xm l:=by
  refine kY ((hpl.map Du).trans (hd2 ▸ (jw l).symm)) ?_ (sJ l);rw [List.pairwise_map,List.pairwise_iff_getElem];intro i j h1 h2 hij;have := hs i j (Nat.zero_le _) hij (by rw [hds,<- hds'];simpa using h2);rw [getElem!_pos d' j (by simpa using h2),getElem!_pos d' i (by simpa using h1)] at this;unfold ltOf at this;unfold leL;rw [dte];simpa using this
 have hat':∀ i (hi:i<(xm l).length),Du d'[i]! = (xm l)[i]:=fun i hi=>by
  have hi2:i<d'.size:=by
   rw [(jw l).length_eq] at hi;omega
  rw [getElem!_pos d' i hi2];have : (d'.toList.map Du)[i]? = (xm l)[i]? := by rw [hsl]
  rw [geq (by simpa using hi2),geq hi] at this;simpa using this
 have hll:(xm l).length=l.length:=(jw l).length_eq;have he1:Ext c (c.upd 0 ⟨ver,1,35,(xm l).map (cL cI)⟩ ((c.φ 0).1,(c.φ 0).2) (putCells wG (c.φ 0).2 d' cs)):=Cx.upd_ext hr hlv hB lq (.inl ⟨rfl,rfl,by simp [hll],rfl⟩);have hr1:=Cx.upd_rel hr hlv hB (k:=⟨ver,1,35,(xm l).map (cL cI)⟩) (o:=(c.φ 0).2) (cs:=putCells wG (c.φ 0).2 d' cs) lq rfl he1 Nat.one_pos (by rw [lq];simpa [hll] using hfit) (fun i row h=>by
  obtain ⟨x,_,rfl⟩:=by simpa [List.getElem?_map,Option.map_eq_some_iff] using h
  rfl) (fun i row j a h1 h2=>by
  have hi:i<(xm l).length:=by simpa using (ges h1).1
  have hrw:row=cL cI (xm l)[i]:=by
   have := (ges h1).2;rw [<- this];simp
  subst hrw
  match j,h2 with
  | 0,h2=>
   obtain rfl:=osl h2;refine ⟨wG d'[i]!,?_,d'[i]!.2.1,?_⟩
   ·have := qI (enc:=wG) (off:=(c.φ 0).2) (d:=d') (cs:=cs) (k:=i) (by omega) (by omega);simpa using this
   ·rw [<- hat' i hi];exact .fr d'[i]!.2.2
  | j+1,h2=>simp [cL] at h2)
 have hbl:Below (c.upd 0 ⟨ver,1,35,(xm l).map (cL cI)⟩ ((c.φ 0).1,(c.φ 0).2) (putCells wG (c.φ 0).2 d' cs)).w.heap.size (c.upd 0 ⟨ver,1,35,(xm l).map (cL cI)⟩ ((c.φ 0).1,(c.φ 0).2) (putCells wG (c.φ 0).2 d' cs)).w (sortWorld wG c.w (c.φ 0).1 (c.φ 0).2 m d' os):=by
  have hz:(c.upd 0 ⟨ver,1,35,(xm l).map (cL cI)⟩ ((c.φ 0).1,(c.φ 0).2) (putCells wG (c.φ 0).2 d' cs)).w.heap.size=c.w.heap.size:=by simp [Cx.upd]
  refine ⟨rfl,rfl,rfl,?_,fun g hg=>?_⟩
  ·rw [hz];show _<=((putRow wG (Sort.ahead c.w m) (c.φ 0).1 (c.φ 0).2 d').heap++os).size;rw [Array.size_append,size_putRow];show c.w.heap.size<=c.w.heap.size+os.size;omega
  ·rw [hz] at hg;rw [iE hg];show _=(c.w.setRow (c.φ 0).1 (putCells wG (c.φ 0).2 d' cs)).heap[g]?
   by_cases e:g=(c.φ 0).1
   ·subst e;rw [ng hat,setRow_heap _ _ _ _ _ _ hat]
   ·rw [kx e,setRow_other _ _ _ _ e]
 obtain ⟨g1,g2⟩:=lW hr1 hbl (fz':=fun _=>False) (fun _ h=>h.elim) (fun _ h=>h.elim) (fun _ _ _ h=>h);refine ⟨_,rfl,rfl,?_,g1,he1.trans g2⟩;show c.H.set 0 _=_;rw [hH]
 rfl
theorem nJ (l:LL) (g:Bool) (ver:Nat) (hg:g=true->l=[]) {q:LL} (h:cZ l=some q) :
  jp Tryz.prog 70 [hS g 0 ver 1 l.length,.fn (.func 71) []] [bE g ver 1 35 (l.map (cL cI))] (.tup []) [bE g ver 1 35 (q.map (cL cI))]:=by
 obtain ⟨hl,h⟩:=gdD h;obtain rfl:=osl h;refine ⟨by kernel_rfl,fun c vs hH hr hall=>?_⟩;obtain ⟨hsz,hrel⟩:=hall;obtain ⟨u,f,rfl⟩:∃ u f,vs = #[u,f]:=by
  match vs,hsz with
  | ⟨[u,f]⟩,_=>exact ⟨u,f,rfl⟩
 have hu:=hrel 0 _ u rfl rfl;obtain ⟨vs2,rfl,h5,_⟩:=qy (hrel 1 _ f rfl rfl);obtain rfl:vs2 = #[]:=Array.eq_empty_of_size_eq_zero h5
 by_cases hn:0<l.length
 ·obtain rfl:g=false:=by
   cases g with
   | false=>rfl
   | true=>
    rw [hg rfl] at hn;exact absurd hn (by simp)
  refine (EK hr hH hu hl hn).mono ?_;rintro e w' ⟨c',rfl,hw,hH',h1,h2⟩;exact ⟨_,c',Z,hw,hH',h1,h2,.tup Z (fun i x y hx=>by simp at hx)⟩
 ·obtain rfl:l=[]:=List.eq_nil_of_length_eq_zero (by omega);obtain ⟨A,cap,rfl⟩:∃ A cap,u = .slice A 0 cap:=by
   cases g with
   | true=>
    cases hu with
    | fr h=>cases h;exact ⟨_,_,rfl⟩
   | false=>
    obtain ⟨A,cap,h6,_⟩:=ij hu;exact ⟨A,cap,h6⟩
  refine (show Calls Tryz.prog 70 _ _ _ from AnyF.slices_SortFunc_none { Dq with } A cap _ c.w).mono ?_;rintro e w' ⟨rfl,rfl⟩;refine ⟨_,c,Z,Z,?_,hr,Ext.refl c,.tup Z (fun i x y hx=>by simp at hx)⟩;rw [hH,(jw []).eq_nil]
open Go.RowKit
def kL (ops:Array Oper) (e:Env) (o:Oper) (w:Bool):Prop:=match o.guard with
 | none=>w=true
 | some (j,b)=>(∃ q,dY ops.toList e j = .v (.bool q)/\w=(q==b))\/(dY ops.toList e j = .tup []/\w=false)
theorem kL.wants {ops:Array Oper} {e:Env} {o:Oper} {w:Bool} (h:kL ops e o w):pE ops e o w:=by
 unfold kL at h
 cases hg:o.guard with
 | none=>
  rw [hg] at h;subst h;exact .free hg
 | some x=>
  obtain ⟨j,b⟩:=x;rw [hg] at h;rcases h with ⟨q,h1,h2⟩ | ⟨h1,h2⟩
  ·subst h2
   by_cases e1:q=b
   ·subst e1;rw [beq_self_eq_true];exact .yes hg h1 rfl
   ·have e2:(q==b)=false:=by simpa using e1
    rw [e2];exact .no hg h1 (by cases q <;> cases b <;> simp_all)
  ·subst h2;exact .un hg h1
theorem kL.congr {ops:Array Oper} {e e':Env} {o:Oper} {w:Bool} (h:kL ops e o w) (he:∀ t∈o.looksAt ops,e t=e' t):kL ops e' o w:=by
 unfold kL at h ⊢
 cases hg:o.guard with
 | none=>rw [hg] at h;exact h
 | some x=>
  obtain ⟨j,b⟩:=x;rw [hg] at h;have hy:dY ops.toList e' j=dY ops.toList e j:=by
   unfold dY
   cases hd:(ops.toList[j]?).bind (·.dst) with
   | none=>rfl
   | some d=>
    refine (he d ?_).symm;unfold Oper.looksAt;rw [hg];refine List.mem_append_right _ ?_;have : (ops[j]?).bind (·.dst)=some d:=by simpa using hd
    show d∈((ops[j]?).bind (·.dst)).toList;rw [this];simp
  simp only [hy];exact h
theorem Dv {ops:Array Oper} {e e':Env} {o:Oper} (he:∀ t∈o.looksAt ops,e t=e' t):∀ x∈o.op.operands,rho e x=rho e' x:=by
 intro x hx
 cases x with
 | tmp t=>exact he t (List.mem_append_left _ (List.mem_filterMap.2 ⟨.tmp t,by simpa using hx,rfl⟩))
 | _=>rfl
theorem xO {ops:Array Oper} {e:Env} {oi oj:Oper} {r:AV} (h:∀ d,oi.dst=some d->d∉oj.looksAt ops):∀ t∈oj.looksAt ops,ig e oi.dst r t=e t:=by
 intro t ht
 cases hd:oi.dst with
 | none=>rfl
 | some d=>
  rw [nQ];show (if t=d then r else e t)=e t;have hne:t≠d:=by
   rintro rfl;exact h t hd ht
  rw [if_neg hne]
def Hz (P:Program) (ops:Array Oper) (o:Oper) (e:Env) (H:AH) (r:AV) (H':AH):Prop:=(kL ops e o true/\Jb P o (rho e) H r H')\/(kL ops e o false/\r = .tup []/\H'=H)
theorem Hz.congr {P:Program} {ops:Array Oper} {o:Oper} {e e':Env} {H H':AH} {r:AV} (h:Hz P ops o e H r H') (he:∀ t∈o.looksAt ops,e t=e' t):Hz P ops o e' H r H':=by
 rcases h with ⟨h1,h2⟩ | ⟨h1,h2⟩
 ·exact .inl ⟨h1.congr he,h2.congr (Dv he)⟩
 ·exact .inr ⟨h1.congr he,h2⟩
def lK (P:Program) (ops:Array Oper) (o:Oper) (e:Env) (H:AH) (r:AV) (H':AH) (F:List Nat):Prop:=
 H'.length=H.length/\(∀ b,b∉F->H'[b]? = H[b]?)/\∀ G,agree F G H->∃ G',G'.length=G.length/\(∀ b∈F,G'[b]? = H'[b]?)/\(∀ b,b∉F->G'[b]? = G[b]?)/\Hz P ops o e G r G'
section
variable {P:Program} {ops:Array Oper} {o:Oper} {e:Env} {H H':AH} {r:AV} {F:List Nat}
theorem lK.op (h:lK P ops o e H r H' F):Hz P ops o e H r H':=by
 obtain ⟨h1,h2,h3⟩:=h;obtain ⟨G',g1,g2,g3,g4⟩:=h3 H ⟨rfl,fun _ _=>rfl⟩;have : G'=H':=by
  apply List.ext_getElem?;intro b
  by_cases hb:b∈F
  ·exact g2 b hb
  ·rw [g3 b hb,h2 b hb]
 exact this ▸ g4
theorem lK.congr {e':Env} (h:lK P ops o e H r H' F) (he:∀ t∈o.looksAt ops,e t=e' t):lK P ops o e' H r H' F:=by
 obtain ⟨h1,h2,h3⟩:=h;refine ⟨h1,h2,fun G hG=>?_⟩;obtain ⟨G',g1,g2,g3,g4⟩:=h3 G hG;exact ⟨G',g1,g2,g3,g4.congr he⟩
theorem lK.at_ {G:AH} (h:lK P ops o e H r H' F) (hG:agree F G H):∃ G',G'.length=G.length/\(∀ b∈F,G'[b]? = H'[b]?)/\(∀ b,b∉F->G'[b]? = G[b]?)/\lK P ops o e G r G' F:=by
 obtain ⟨h1,h2,h3⟩:=h;obtain ⟨G',g1,g2,g3,g4⟩:=h3 G hG;refine ⟨G',g1,g2,g3,g1,g3,fun K hK=>?_⟩;obtain ⟨K',k1,k2,k3,k4⟩:=h3 K ⟨hK.1.trans hG.1,fun b hb=>(hK.2 b hb).trans (hG.2 b hb)⟩;exact ⟨K',k1,fun b hb=>(k2 b hb).trans (g2 b hb).symm,k3,k4⟩
theorem lK.ofF (hw:kL ops e o true) (h:jM P o (rho e) H r H' F):lK P ops o e H r H' F:=by
 obtain ⟨h1,h2,h3⟩:=h;refine ⟨h1,h2,fun G hG=>?_⟩;obtain ⟨G',g1,g2,g3,g4⟩:=h3 G hG;exact ⟨G',g1,g2,g3,.inl ⟨hw,g4⟩⟩
theorem lK.skip (hw:kL ops e o false) (F:List Nat):lK P ops o e H (.tup []) H F:=⟨rfl,fun _ _=>rfl,fun G hG=>⟨G,rfl,hG.2,fun _ _=>rfl,.inr ⟨hw,rfl,rfl⟩⟩⟩
def GM (P:Program) (ops:Array Oper) (fp:Nat->Fp) (Q:Env->AH->Prop):Nat->Array Bool->Env->AH->Prop
 | 0,listed,e,H=>Region.ready .any ops listed=[]/\Q e H
 | fuel+1,listed,e,H=>(Region.ready .any ops listed=[]->Q e H) /\
  ∀ i∈Region.ready .any ops listed,∃ o r H',ops[i]? = some o/\lK P ops o e H r H' (fp i).1/\((fp i).2=false->H'=H)/\GM P ops fp Q fuel (listed.setIfInBounds i true) (ig e o.dst r) H'
theorem AU {ops:Array Oper} {fp:Nat->Fp} {Q:Env->AH->Prop} {i:Nat} {oi:Oper} {r:AV} (hi:ops[i]? = some oi) :
  ∀ (fuel:Nat) (listed:Array Bool) (e:Env) (H Hi:AH),
   (∀ (j:Nat) (oj:Oper),ops[j]? = some oj->j≠i->listed.getD j true=false->(∀ ed∈oj.after,Region.binds .any ed=true->ed.on≠i)->oi.apart ops oj=true/\iQ (fp i) (fp j)=true) ->
   i∈Region.ready .any ops listed->lK P ops oi e H r Hi (fp i).1->((fp i).2=false->Hi=H)->GM P ops fp Q fuel (listed.setIfInBounds i true) (ig e oi.dst r) Hi->GM P ops fp Q (fuel+1) listed e H:=by
 intro fuel
 induction fuel with
 | zero=>
  intro listed e H Hi _ hr hy hro hA;refine ⟨fun h=>(by rw [h] at hr;cases hr),fun j hj=>?_⟩
  by_cases hji:j=i
  ·subst hji;exact ⟨oi,r,Hi,hi,hy,hro,hA⟩
  ·have := ready_mono hj hji;rw [hA.1] at this
   cases this
 | succ fuel ih=>
  intro listed e H Hi hfree hr hy hro hA;refine ⟨fun h=>(by rw [h] at hr;cases hr),fun j hj=>?_⟩
  by_cases hji:j=i
  ·subst hji;exact ⟨oi,r,Hi,hi,hy,hro,hA⟩
  ·obtain ⟨oj,q,Hj,hoj,hsj,hroj,hAj⟩:=hA.2 j (ready_mono hj hji);obtain ⟨hjun,oj',hoj',hall⟩:=mem_ready.1 hj;rw [hoj] at hoj';injection hoj' with hoj';subst hoj';have hnot:∀ ed∈oj.after,Region.binds .any ed=true->ed.on≠i:=fun ed he hb heq=>by
    have h1:=hall ed he hb;have h0:=(mem_ready.1 hr).1;rw [heq] at h1;rcases Nat.lt_or_ge i listed.size with h' | h'
    ·simp [h'] at h0 h1;rw [h0] at h1;cases h1
    ·simp [Array.getElem?_eq_none h'] at h1
   obtain ⟨hap,hcm⟩:=hfree j oj hoj hji hjun hnot;obtain ⟨h1,h2,h3⟩:=Oper.apart_spec hap;have ej:=xO (e:=e) (r:=r) h1;have ei:=xO (e:=e) (oi:=oj) (r:=q) h3;have hsj':=hsj.congr ej;have hfree':∀ (k:Nat) (ok:Oper),ops[k]? = some ok->k≠i->(listed.setIfInBounds j true).getD k true=false->(∀ ed∈ok.after,Region.binds .any ed=true->ed.on≠i)->oi.apart ops ok=true/\iQ (fp i) (fp k)=true:=fun k ok hk hki hun hno=>by
    refine hfree k ok hk hki ?_ hno
    by_cases hjk:j=k
    ·subst hjk;exact hjun
    ·rw [getD_set_ne true hjk] at hun;exact hun
   have fin:∀ Hj',lK P ops oj e H q Hj' (fp j).1->((fp j).2=false->Hj'=H)->lK P ops oi e Hj' r Hj (fp i).1->((fp i).2=false->Hj=Hj')->∃ o r' H',ops[j]? = some o/\lK P ops o e H r' H' (fp j).1/\((fp j).2=false->H'=H)/\GM P ops fp Q (fuel+1) (listed.setIfInBounds j true) (ig e o.dst r') H':=fun Hj' s1 s1' s2 s2'=>by
    refine ⟨oj,q,Hj',hoj,s1,s1',ih (listed.setIfInBounds j true) (ig e oj.dst q) Hj' Hj hfree' (ready_mono hr (Ne.symm hji)) (s2.congr fun x hx=>(ei x hx).symm) s2' ?_⟩;rw [Array.setIfInBounds_comm _ _ hji,lV (fun d hd=>fun hd'=>h2 d (by simpa using hd') (by simpa using hd))];exact hAj
   simp only [iQ,Bool.or_eq_true,bae,Bool.not_eq_true',List.all_eq_true,List.contains_eq_mem,decide_eq_false_iff_not] at hcm;rcases hcm with hdis | ⟨w1,w2⟩
   ·have hag:agree (fp j).1 H Hi:=⟨hy.1.symm,fun b hb=>(hy.2.1 b (fun hbi=>hdis b hbi hb)).symm⟩;obtain ⟨Hj',a1,a2,a3,a4⟩:=hsj'.at_ hag;have hag2:agree (fp i).1 Hj' H:=⟨a1,fun b hb=>a3 b (hdis b hb)⟩;obtain ⟨K,b1,b2,b3,b4⟩:=hy.at_ hag2;have hKH:K=Hj:=by
     apply List.ext_getElem?;intro b
     by_cases hbi:b∈(fp i).1
     ·rw [b2 b hbi,hsj'.2.1 b (hdis b hbi)]
     ·rw [b3 b hbi]
      by_cases hbj:b∈(fp j).1
      ·exact a2 b hbj
      ·rw [a3 b hbj,hsj'.2.1 b hbj,hy.2.1 b hbi]
    subst hKH;refine fin Hj' a4 (fun hw=>?_) b4 (fun hw=>?_)
    ·apply List.ext_getElem?;intro b
     by_cases hbj:b∈(fp j).1
     ·rw [a2 b hbj,hroj hw,hy.2.1 b (fun hbi=>hdis b hbi hbj)]
     ·exact a3 b hbj
    ·apply List.ext_getElem?;intro b
     by_cases hbi:b∈(fp i).1
     ·rw [b2 b hbi,hro hw,a3 b (hdis b hbi)]
     ·exact b3 b hbi
   ·obtain rfl:=hro w1;obtain rfl:=hroj w2;exact fin _ hsj' (fun _=>rfl) hy (fun _=>rfl)
def Ik (ops:Array Oper) (fp:Nat->Fp):Bool:=
 Region.lexB .any ops &&
 (List.range ops.size).all fun i=>(List.range ops.size).all fun j=>decide (j<=i)||iQ (fp i) (fp j)||match ops[j]? with
  | some oj=>oj.after.any fun ed=>Region.binds .any ed&&ed.on==i
  | none=>true
def TG (P:Program) (ops:Array Oper) (fp:Nat->Fp):Nat->List Oper->(Env->AH->Prop)->Env->AH->Prop
 | _,[],K,e,H=>K e H
 | k,o::rest,K,e,H=>∃ r H',lK P ops o e H r H' (fp k).1/\((fp k).2=false->H'=H)/\TG P ops fp (k+1) rest K (ig e o.dst r) H'
theorem Dw {ops:Array Oper} {fp:Nat->Fp} {Q:Env->AH->Prop} (hc:Ik ops fp=true):∀ (l:List Oper) (k:Nat) (listed:Array Bool) (e:Env) (H:AH),(∀ j,l[j]? = ops[k+j]?)->listed.size=ops.size->(∀ j,j<k->listed.getD j true=true) ->
  Region.lexFrom .any ops l.length k listed=true->TG P ops fp k l Q e H->GM P ops fp Q l.length listed e H
 | [],k,listed,e,H,_,_,_,hB,h=>⟨by simpa [Region.lexFrom] using hB,h⟩
 | o::l,k,listed,e,H,hl,hsz,hbef,hB,h=>by
  have h0:ops[k]? = some o:=by simpa using (hl 0).symm
  have hk:k<ops.size:=(Array.getElem?_eq_some_iff.1 h0).1;simp only [llc,Region.lexFrom,bae] at hB;obtain ⟨⟨hr,hf⟩,hB'⟩:=hB;obtain ⟨r,H',hs,hro,hK⟩:=h;refine AU h0 l.length listed e H H' (fun j oj hj hne hun hno=>⟨Region.free_spec h0 hf j oj hj hne hun hno,?_⟩) (by simpa using hr) hs hro
   (Dw hc l (k+1) _ _ _ (fun j=>by have := hl (j+1);simpa [Nat.add_assoc,Nat.add_comm 1 j] using this) (by simpa using hsz) (fun j hj=>?_) hB' hK)
  ·have hjs:j<ops.size:=(Array.getElem?_eq_some_iff.1 hj).1;have hkj : ¬ j<=k:=fun hle=>by
    have := hbef j (by omega);rw [this] at hun
    cases hun
   simp only [Ik,bae,List.all_eq_true,List.mem_range] at hc;have := hc.2 k hk j hjs;simp only [hj,Bool.or_eq_true,dte,hkj,false_or] at this;rcases this with h1 | h1
   ·exact h1
   ·rw [Array.any_eq_true'] at h1;obtain ⟨ed,h2,h3⟩:=h1;simp only [bae,beq_iff_eq] at h3;exact absurd h3.2 (hno ed h2 h3.1)
  ·by_cases e:j=k
   ·subst e;simp [hsz,hk]
   ·rw [getD_set_ne true (Ne.symm e)];exact hbef j (by omega)
theorem qa {nt:Nat} {ops:Array Oper} {fp:Nat->Fp} {Q:Exit->Env->AH->Prop} (hd:yh nt ops.toList=true):∀ (fuel:Nat) (listed:Array Bool) (e:Env) (H:AH),GM P ops fp (Q .normal) fuel listed e H ->
  ∀ (c c0:Cx) (a:Act),c.H=H->Ext c0 c->SRel c nt e a->wpAny P .any ops (FG nt c0 Q) fuel listed a c.w
 | 0,listed,e,H,h,c,c0,a,hH,hx,hs=>⟨h.1,trivial,c,e,rfl,hx,hs,hH ▸ h.2⟩
 | fuel+1,listed,e,H,h,c,c0,a,hH,hx,hs=>by
  refine ⟨fun hr=>⟨trivial,c,e,rfl,hx,hs,hH ▸ h.1 hr⟩,fun i hi=>?_⟩;obtain ⟨o,r,H',ho,hst,_,hA⟩:=h.2 i hi;have hm:o∈ops.toList:=by rw [Array.mem_toList_iff];exact Array.mem_of_getElem? ho
  unfold wpOp;simp only [ho];rcases hst.op with ⟨hw,hop⟩ | ⟨hw,rfl,rfl⟩
  ·rw [if_pos (hw.wants nt c a hs)];refine .inl (hop c a _ _ hH hs.heap (fun x _=>hs.rho x) fun v c' hH' hr' hx' hv=>?_);exact qa hd fuel _ _ H' hA c' c0 _ hH' (hx.trans hx') (hs.put o.dst (f9 hd hm) hx' hr' hv)
  ·rw [hw.wants nt c a hs];exact qa hd fuel _ _ _ hA c c0 _ hH hx (hs.put o.dst (f9 hd hm) (Ext.refl c) hs.heap (.tup (vs:=#[]) rfl (fun i q u hq=>by simp at hq)))
end
section
variable {P:Program} {nt b0:Nat} {Q:Exit->Env->AH->Prop} {e:Env} {H H':AH} {r:AV}
theorem T.drawG {i:Nat} {ops:Array Oper} (fp:Nat->Fp) (hm:P.follows .mixedOrders=true) (hc:Ik ops fp=true) (h:TG P ops fp 0 ops.toList (Q .normal) e H):T P nt b0 (.region i ops true) Q e H:=by
 intro hok c c0 a hH hb hx hs;simp only [codeOk] at hok;have hc':=hc;simp only [Ik,bae,Region.lexB] at hc';refine wp_region_any hm ?_;have hlex:=Dw hc ops.toList 0 (Array.replicate ops.size false) e H (fun j=>by simp) (by simp) (fun j hj=>absurd hj (by omega)) (by simpa using hc'.1.2) h;have := qa hok ops.toList.length _ e H hlex c.drew c0 a hH (hx.trans c.drew_ext) ⟨hs.size,hs.defers,fun t=>(hs.rel t).ext hs.heap c.drew_ext,Cx.drew_rel hs.heap⟩;rw [Array.length_toList] at this;exact this
variable {ops:Array Oper} {d:Tmp} {op:Op} {ty:TypeId} {pos:String} {af:Array Edge} {en:List (Nat×AV)} {fp:Nat->Fp} {i:Nat} {K:Env->AH->Prop} {l:List Oper}
theorem TG.nil {k:Nat} (h:K e H):TG P ops fp k [] K e H:=h
theorem kL.y {o:Oper} {j:Nat} {b q:Bool} (hg:o.guard=some (j,b)) (hy:dY ops.toList e j = .v (.bool q)) (hq:q=b):kL ops e o true:=by
 unfold kL;rw [hg];exact .inl ⟨q,hy,by rw [hq];simp⟩
theorem kL.n {o:Oper} {j:Nat} {b q:Bool} (hg:o.guard=some (j,b)) (hy:dY ops.toList e j = .v (.bool q)) (hq:q = !b):kL ops e o false:=by
 unfold kL;rw [hg];exact .inl ⟨q,hy,by rw [hq];cases b <;> rfl⟩
theorem kL.u {o:Oper} {j:Nat} {b:Bool} (hg:o.guard=some (j,b)) (hy:dY ops.toList e j = .tup []):kL ops e o false:=by
 unfold kL;rw [hg];exact .inr ⟨hy,rfl⟩
theorem tN (hc:fp i=([],false)) (hv:Je P (rho (ae en)) op r) (h:TG P ops fp (i+1) l K (ae ((d,r)::en)) H):TG P ops fp i (⟨some d,op,ty,pos,af,none⟩::l) K (ae en) H:=
 ⟨r,H,by rw [hc];exact .ofF rfl (yz hv),fun _=>rfl,h⟩
theorem tR (F:List Nat) (hc:fp i=(F,false)) (hv:∀ G,agree F G H->EvA P (rho (ae en)) op G r G) (h:TG P ops fp (i+1) l K (ae ((d,r)::en)) H):TG P ops fp i (⟨some d,op,ty,pos,af,none⟩::l) K (ae en) H:=
 ⟨r,H,by rw [hc];exact .ofF rfl (yA hv),fun _=>rfl,h⟩
theorem Jv {j:Nat} {b q:Bool} (hy:dY ops.toList (ae en) j = .v (.bool q)) (hq:q=b) (hc:fp i=([],false)) (hv:Je P (rho (ae en)) op r) (h:TG P ops fp (i+1) l K (ae ((d,r)::en)) H):TG P ops fp i (⟨some d,op,ty,pos,af,some (j,b)⟩::l) K (ae en) H:=
 ⟨r,H,by rw [hc];exact .ofF (.y rfl hy hq) (yz hv),fun _=>rfl,h⟩
theorem tgR {j:Nat} {b q:Bool} (hy:dY ops.toList (ae en) j = .v (.bool q)) (hq:q=b) (F:List Nat) (hc:fp i=(F,false)) (hv:∀ G,agree F G H->EvA P (rho (ae en)) op G r G) (h:TG P ops fp (i+1) l K (ae ((d,r)::en)) H):TG P ops fp i (⟨some d,op,ty,pos,af,some (j,b)⟩::l) K (ae en) H:=
 ⟨r,H,by rw [hc];exact .ofF (.y rfl hy hq) (yA hv),fun _=>rfl,h⟩
theorem Jw {j:Nat} {b q:Bool} (hy:dY ops.toList (ae en) j = .v (.bool q)) (hq:q = !b) (h:TG P ops fp (i+1) l K (ae ((d,.tup [])::en)) H):TG P ops fp i (⟨some d,op,ty,pos,af,some (j,b)⟩::l) K (ae en) H:=
 ⟨.tup [],H,.skip (.n rfl hy hq) _,fun _=>rfl,h⟩
theorem tgU {j:Nat} {b:Bool} (hy:dY ops.toList (ae en) j = .tup []) (h:TG P ops fp (i+1) l K (ae ((d,.tup [])::en)) H):TG P ops fp i (⟨some d,op,ty,pos,af,some (j,b)⟩::l) K (ae en) H:=
 ⟨.tup [],H,.skip (.u rfl hy) _,fun _=>rfl,h⟩
end
section
variable {P:Program} {o:Oper} {ρ ρ':Operand->AV} {H:AH} {K K':AV->AH->Prop}
theorem OpG.congr {R:AV->AH->Prop} (h:OpG P o ρ H R) (he:∀ x∈o.op.operands,ρ x=ρ' x):OpG P o ρ' H R:=
 fun c a K Q hH hr hxs hK=>h c a K Q hH hr (fun x hx=>by rw [he x hx];exact hxs x hx) hK
theorem OpG.mono {R R':AV->AH->Prop} (h:OpG P o ρ H R) (hR:∀ r G,R r G->R' r G):OpG P o ρ H R':=
 fun c a K Q hH hr hxs hK=>h c a K Q hH hr hxs fun v c' r hr1 hr2 hr3 hr4=>hK v c' r (hR _ _ hr1) hr2 hr3 hr4
theorem Jb.opG {r:AV} {H':AH} (h:Jb P o ρ H r H'):OpG P o ρ H fun r' G=>r'=r/\G=H':=
 fun c a K Q hH hr hxs hK=>h c a K Q hH hr hxs fun v c' hc hr2 hr3 hr4=>hK v c' r ⟨rfl,hc⟩ hr2 hr3 hr4
abbrev Xc:=Bool×List Nat
def agr (F:List Nat) (G H:AH):Prop:=∀ b∈F,G[b]? = H[b]?
theorem agr.a0 {b:Nat} {F:List Nat} {G H:AH} (h:agr (b::F) G H) {x:Option ABlk} (hx:H[b]? = some x):G[b]? = some x:=(h b (by simp)).trans hx
theorem agr.a1 {b c:Nat} {F:List Nat} {G H:AH} (h:agr (c::b::F) G H) {x:Option ABlk} (hx:H[b]? = some x):G[b]? = some x:=(h b (by simp)).trans hx
theorem agr.a2 {a b c:Nat} {F:List Nat} {G H:AH} (h:agr (a::c::b::F) G H) {x:Option ABlk} (hx:H[b]? = some x):G[b]? = some x:=(h b (by simp)).trans hx
def oO (W:List Nat) (H H':AH):Prop:=∀ b,b<H.length->b∉W->H'[b]? = H[b]?
theorem lu {b:Nat} {X:Option ABlk}:oO [b] H (H.set b X):=fun c _ hc=>List.getElem?_set_ne fun e=>hc (by simp [e])
theorem mO {L:AH}:oO [] H (H++L):=fun _ hb _=>gal hb
def tu (P:Program) (o:Oper) (ρ:Operand->AV) (H:AH) (b:Xc) (K:AV->AH->Prop):Prop:=match b.1 with
 | false=>∃ r,(∀ c∈b.2,c<H.length)/\(∀ G,agr b.2 G H->Jb P o ρ G r G)/\K r H
 | true=>OpG P o ρ H fun r H'=>oO b.2 H H'/\K r H'
theorem tu.mono {b:Xc} (h:tu P o ρ H b K) (hK:∀ r G,K r G->K' r G):tu P o ρ H b K':=by
 obtain ⟨b,F⟩:=b
 cases b with
 | false=>
  obtain ⟨r,h0,h1,h2⟩:=h;exact ⟨r,h0,h1,hK _ _ h2⟩
 | true=>
  show OpG P o ρ H fun r H'=>oO F H H'/\K' r H';exact OpG.mono (R:=fun r H'=>oO F H H'/\K r H') h fun r G hr=>⟨hr.1,hK _ _ hr.2⟩
theorem tu.congr {b:Xc} (h:tu P o ρ H b K) (he:∀ x∈o.op.operands,ρ x=ρ' x):tu P o ρ' H b K:=by
 obtain ⟨b,F⟩:=b
 cases b with
 | false=>
  obtain ⟨r,h0,h1,h2⟩:=h;exact ⟨r,h0,fun G hG=>(h1 G hG).congr he,h2⟩
 | true=>
  show OpG P o ρ' H fun r H'=>oO F H H'/\K r H';exact OpG.congr (R:=fun r H'=>oO F H H'/\K r H') h he
theorem tu.opG {b:Xc} (h:tu P o ρ H b K):OpG P o ρ H K:=by
 obtain ⟨b,F⟩:=b
 cases b with
 | false=>
  obtain ⟨r,_,h1,h2⟩:=h;refine (Jb.opG (h1 H fun _ _=>rfl)).mono ?_;rintro r' G ⟨rfl,rfl⟩;exact h2
 | true=>exact OpG.mono (R:=fun r H'=>oO F H H'/\K r H') h fun r G hr=>hr.2
def EL (a b:Xc):Bool := !b.1||a.2.all fun x => !b.2.contains x
def EM (P:Program) (ops:Array Oper) (cls:Nat->Xc) (Q:Env->AH->Prop):Nat->Array Bool->Env->AH->Prop
 | 0,listed,e,H=>Region.ready .any ops listed=[]/\Q e H
 | fuel+1,listed,e,H=>(Region.ready .any ops listed=[]->Q e H) /\
  ∀ i∈Region.ready .any ops listed,∃ o,ops[i]? = some o/\tu P o (rho e) H (cls i) fun r H'=>EM P ops cls Q fuel (listed.setIfInBounds i true) (ig e o.dst r) H'
theorem AX {ops:Array Oper} {cls:Nat->Xc} {Q:Env->AH->Prop} {i:Nat} {oi:Oper} {r:AV} {F:List Nat} (hi:ops[i]? = some oi) (hci:cls i=(false,F)) :
  ∀ (fuel:Nat) (listed:Array Bool) (e:Env) (H:AH),
   (∀ (j:Nat) (oj:Oper),ops[j]? = some oj->j≠i->listed.getD j true=false->(∀ ed∈oj.after,Region.binds .any ed=true->ed.on≠i)->oi.apart ops oj=true/\EL (cls i) (cls j)=true) ->
   i∈Region.ready .any ops listed->(∀ c∈F,c<H.length)->(∀ G,agr F G H->Jb P oi (rho e) G r G)->EM P ops cls Q fuel (listed.setIfInBounds i true) (ig e oi.dst r) H->EM P ops cls Q (fuel+1) listed e H:=by
 intro fuel
 induction fuel with
 | zero=>
  intro listed e H _ hr hF hy hA;refine ⟨fun h=>(by rw [h] at hr;cases hr),fun j hj=>?_⟩
  by_cases hji:j=i
  ·subst hji;exact ⟨oi,hi,by rw [hci];exact ⟨r,hF,hy,hA⟩⟩
  ·have := ready_mono hj hji;rw [hA.1] at this
   cases this
 | succ fuel ih=>
  intro listed e H hfree hr hF hy hA;refine ⟨fun h=>(by rw [h] at hr;cases hr),fun j hj=>?_⟩
  by_cases hji:j=i
  ·subst hji;exact ⟨oi,hi,by rw [hci];exact ⟨r,hF,hy,hA⟩⟩
  ·obtain ⟨oj,hoj,hsj⟩:=hA.2 j (ready_mono hj hji);obtain ⟨hjun,oj',hoj',hall⟩:=mem_ready.1 hj;rw [hoj] at hoj';injection hoj' with hoj';subst hoj';have hnot:∀ ed∈oj.after,Region.binds .any ed=true->ed.on≠i:=fun ed he hb heq=>by
    have h1:=hall ed he hb;have h0:=(mem_ready.1 hr).1;rw [heq] at h1;rcases Nat.lt_or_ge i listed.size with h' | h'
    ·simp [h'] at h0 h1;rw [h0] at h1;cases h1
    ·simp [Array.getElem?_eq_none h'] at h1
   obtain ⟨hap,hcm⟩:=hfree j oj hoj hji hjun hnot;obtain ⟨h1,h2,h3⟩:=Oper.apart_spec hap;have ej:=iI (e:=e) (r:=r) h1;have hfree':∀ (k:Nat) (ok:Oper),ops[k]? = some ok->k≠i->(listed.setIfInBounds j true).getD k true=false->(∀ ed∈ok.after,Region.binds .any ed=true->ed.on≠i)->oi.apart ops ok=true/\EL (cls i) (cls k)=true:=fun k ok hk hki hun hno=>by
    refine hfree k ok hk hki ?_ hno
    by_cases hjk:j=k
    ·subst hjk;exact hjun
    ·rw [getD_set_ne true hjk] at hun;exact hun
   have hsj':=hsj.congr ej;have go:∀ q Hj,(∀ c∈F,c<Hj.length)->(∀ c∈F,Hj[c]? = H[c]?)->EM P ops cls Q fuel ((listed.setIfInBounds i true).setIfInBounds j true) (ig (ig e oi.dst r) oj.dst q) Hj->EM P ops cls Q (fuel+1) (listed.setIfInBounds j true) (ig e oj.dst q) Hj:=fun q Hj hF' hHj hAj=>by
    have ei:=iI (e:=e) (oi:=oj) (r:=q) h3;refine ih (listed.setIfInBounds j true) (ig e oj.dst q) Hj hfree' (ready_mono hr (Ne.symm hji)) hF' (fun G hG=>(hy G fun c hc=>(hG c hc).trans (hHj c hc)).congr fun x hx=>(ei x hx).symm) ?_;rw [Array.setIfInBounds_comm _ _ hji,lV (fun d hd=>fun hd'=>h2 d (by simpa using hd') (by simpa using hd))];exact hAj
   refine ⟨oj,hoj,?_⟩;rw [hci] at hcm;generalize cls j=cj at hsj' hcm ⊢;obtain ⟨b,W⟩:=cj
   cases b with
   | false=>
    obtain ⟨q,q0,q1,q2⟩:=hsj';exact ⟨q,q0,q1,go q H hF (fun _ _=>rfl) q2⟩
   | true=>
    simp only [EL,Bool.not_true,Bool.false_or,List.all_eq_true,Bool.not_eq_true',List.contains_eq_mem,decide_eq_false_iff_not] at hcm;show OpG P oj (rho e) H fun r1 H1=>oO W H H1/\EM P ops cls Q (fuel+1) (listed.setIfInBounds j true) (ig e oj.dst r1) H1;refine OpG.mono (R:=fun r1 H1=>oO W H H1/\EM P ops cls Q fuel ((listed.setIfInBounds i true).setIfInBounds j true) (ig (ig e oi.dst r) oj.dst r1) H1) hsj' fun q Hj ⟨k1,k2⟩=>⟨k1,go q Hj (fun c hc=>?_) (fun c hc=>k1 c (hF c hc) (hcm c hc)) k2⟩;have := k1 c (hF c hc) (hcm c hc);rw [geq (hF c hc)] at this;exact (ges this).1
def HZ (ops:Array Oper) (cls:Nat->Xc):List Nat->Array Bool->Bool
 | [],listed=>(Region.ready .any ops listed).isEmpty
 | i::l,listed=>(match ops[i]? with
  | some oi=>if (cls i).1 then Region.ready .any ops listed==[i] else (Region.ready .any ops listed).contains i&&(List.range ops.size).all fun j=>j==i||listed.getD j true||(match ops[j]? with
   | some oj=>(oj.after.any fun ed=>Region.binds .any ed&&ed.on==i)||(oi.apart ops oj&&EL (cls i) (cls j))
   | none=>true)
  | none=>false)&&HZ ops cls l (listed.setIfInBounds i true)
def TX (P:Program) (ops:Array Oper) (cls:Nat->Xc):List Nat->(Env->AH->Prop)->Env->AH->Prop
 | [],K,e,H=>K e H
 | i::l,K,e,H=>∃ o,ops[i]? = some o/\tu P o (rho e) H (cls i) fun r H'=>TX P ops cls l K (ig e o.dst r) H'
theorem za {ops:Array Oper} {cls:Nat->Xc} {Q:Env->AH->Prop}:∀ (l:List Nat) (listed:Array Bool) (e:Env) (H:AH),HZ ops cls l listed=true->TX P ops cls l Q e H->EM P ops cls Q l.length listed e H
 | [],listed,e,H,hc,h=>⟨by simpa [HZ] using hc,h⟩
 | i::l,listed,e,H,hc,h=>by
  obtain ⟨oi,hi,hs⟩:=h;simp only [HZ,hi,bae] at hc;obtain ⟨hc1,hc2⟩:=hc;generalize hci:cls i=ci at hc1 hs;obtain ⟨b,F⟩:=ci
  cases b with
  | true=>
   simp only [if_true,beq_iff_eq] at hc1;refine ⟨fun hn=>(by rw [hc1] at hn;cases hn),fun j hj=>?_⟩;rw [hc1,List.mem_singleton] at hj;subst hj;exact ⟨oi,hi,by rw [hci];exact tu.mono (b:=(true,F)) hs fun r G hr=>za l _ _ _ hc2 hr⟩
  | false=>
   obtain ⟨r,hF,hy,hK⟩:=hs;simp only [Bool.false_eq_true,if_false,bae,List.contains_eq_mem,dte,List.all_eq_true,List.mem_range] at hc1;refine AX hi hci l.length listed e H (fun j oj hj hne hun hno=>?_) hc1.1 hF hy (za l _ _ _ hc2 hK);have hjs:j<ops.size:=(Array.getElem?_eq_some_iff.1 hj).1;have := hc1.2 j hjs;simp only [hj,hun,Bool.or_eq_true,beq_iff_eq,hne,false_or,Bool.false_eq_true,bae] at this;rw [hci];rcases this with h1 | h1
   ·rw [Array.any_eq_true'] at h1;obtain ⟨ed,h2,h3⟩:=h1;simp only [bae,beq_iff_eq] at h3;exact absurd h3.2 (hno ed h2 h3.1)
   ·exact h1
theorem uZ {nt:Nat} {ops:Array Oper} {cls:Nat->Xc} {Q:Exit->Env->AH->Prop} (hd:yh nt ops.toList=true) (hg:ops.all (fun o=>o.guard.isNone)=true):∀ (fuel:Nat) (listed:Array Bool) (e:Env) (H:AH),EM P ops cls (Q .normal) fuel listed e H ->
  ∀ (c c0:Cx) (a:Act),c.H=H->Ext c0 c->SRel c nt e a->wpAny P .any ops (FG nt c0 Q) fuel listed a c.w
 | 0,listed,e,H,h,c,c0,a,hH,hx,hs=>⟨h.1,trivial,c,e,rfl,hx,hs,hH ▸ h.2⟩
 | fuel+1,listed,e,H,h,c,c0,a,hH,hx,hs=>by
  refine ⟨fun hr=>⟨trivial,c,e,rfl,hx,hs,hH ▸ h.1 hr⟩,fun i hi=>?_⟩;obtain ⟨o,ho,hst⟩:=h.2 i hi;have hm:o∈ops.toList:=by rw [Array.mem_toList_iff];exact Array.mem_of_getElem? ho
  have hgn:o.guard=none:=by
   rw [Array.all_eq_true] at hg;obtain ⟨hlt,rfl⟩:=Array.getElem?_eq_some_iff.1 ho;simpa using hg i hlt
  have hw:Region.wanted o (yielded ops a.tmps)=true:=by simp [Region.wanted,hgn]
  unfold wpOp;simp only [ho];rw [if_pos hw];refine .inl (hst.opG c a _ _ hH hs.heap (fun x _=>hs.rho x) fun v c' r hA hr' hx' hv=>?_);exact uZ hd hg fuel _ _ _ hA c' c0 _ rfl (hx.trans hx') (hs.put o.dst (f9 hd hm) hx' hr' hv)
end
theorem EvA.mkZR {P:Program} {ρ:Operand->AV} {H:AH} {x y:Operand} {t e:TypeId} {ag:Bool} {w m:Nat} {zs:List AV} {a b:Int} {α:Type} (bl:Nat) (v:α) (q:SlT P t e ag w zs m) (hx:ρ x = .v (.int .i64 a)) (hy:ρ y = .v (.int .i64 b)) (hq:0<=a/\a<=b/\b*(m:Int)<=140737488355328/\b<=140737488355328) (hab:a=b) (hF:zs.all (isF 9)=true) (hb:H[bl]? = some none) :
  EvA P ρ (.makeSlice t x y) H (hS false bl 0 w (List.replicate a.toNat v).length) (H.set bl (bE false 0 w e (List.replicate a.toNat zs))):=fun o ho=>by
 subst hab;rw [List.length_replicate];have h:=FQ (H:=H) q ho hx hy hq;refine h.at_ hb (fun r hr z hz=>?_) (.inl ⟨_,rfl,rfl⟩);rw [List.mem_replicate] at hr;rw [hr.2] at hz;exact List.all_eq_true.1 hF z hz
theorem Je.mkF0 {P:Program} {ρ:Operand->AV} {t e:TypeId} {α:Type} [Inhabited α] {f:α->List AV} {ag:Bool} {w m:Nat} {zs:List AV} {parts:Array (Nat×Operand)} (q:SlT P t e ag w zs m) (hr:fU (parts.toList.map fun p=>(ρ p.2).cells)=some [[.nil]]) (hn:(Nat.blt 0 w&&Nat.ble (1*w) 16777216&&(parts.toList.map (·.1)==List.range 1))=true) (hw:w=1) :
  Je P ρ (.buildSlice t 1 parts) (eL (cL f) [([]:List α)]):=by
 simp only [bae,beq_iff_eq] at hn;have hz:=Eb q.z (q.zl.trans q.ty.cells.symm);refine .newF ⟨0,P.cellsOf e,e,[[.nil]]⟩ (fun b => .hs b 0 (P.cellsOf e) 0 1) (fun o ho G=>f7 ho q.u hr (by rw [q.ty.cells];exact nlb hn.1.1) (by rw [q.ty.cells];exact nlb hn.1.2) hn.2 hz q.z.one (fun row hrow=>by
  obtain rfl:=List.mem_singleton.1 hrow;rw [q.ty.cells,hw]
  rfl)) fun m G hG=>?_
 show Fz _ _ _ (.sl 1 _);refine .hs (k:=⟨0,P.cellsOf e,e,[[.nil]]⟩) (Nat.le_refl _) (by rw [<- hG];simp) rfl rfl (by simp) (fun i r hi hr=>?_) (fun i r j c d hi hr hc hd=>?_)
 ·obtain rfl:i=0:=by omega
  obtain rfl:=osl hr
  rfl
 ·obtain rfl:i=0:=by omega
  obtain rfl:=osl hr
  match j with
  | 0=>
   obtain rfl:=osl hc;obtain rfl:=osl hd;exact .nil0
  | j+1=>simp at hc
section
variable {P:Program} {nt b0:Nat} {Q:Exit->Env->AH->Prop} {e:Env} {H H':AH} {r:AV}
theorem T.drawX {i:Nat} {ops:Array Oper} (ord:List Nat) (cls:Nat->Xc) (hm:P.follows .mixedOrders=true) (hg:ops.all (fun o=>o.guard.isNone)=true) (hc:(HZ ops cls ord (Array.replicate ops.size false)&&(ord.length==ops.size))=true) (h:TX P ops cls ord (Q .normal) e H):T P nt b0 (.region i ops true) Q e H:=by
 intro hok c c0 a hH hb hx hs;simp only [codeOk] at hok;simp only [bae,beq_iff_eq] at hc;refine wp_region_any hm ?_;have hlex:=za ord (Array.replicate ops.size false) e H hc.1 h;have := uZ hok hg ord.length _ e H hlex c.drew c0 a hH (hx.trans c.drew_ext) ⟨hs.size,hs.defers,fun t=>(hs.rel t).ext hs.heap c.drew_ext,Cx.drew_rel hs.heap⟩;rw [hc.2] at this;exact this
variable {d:Tmp} {op:Op} {ty:TypeId} {pos:String} {af:Array Edge} {en:List (Nat×AV)} {cls:Nat->Xc} {ops:Array Oper} {i:Nat} {K:Env->AH->Prop} {l:List Nat}
theorem TX.nil (h:K e H):TX P ops cls [] K e H:=h
theorem xN (h0:ops[i]? = some ⟨some d,op,ty,pos,af,none⟩) (hc:cls i=(false,[])) (hv:Je P (rho (ae en)) op r) (h:TX P ops cls l K (ae ((d,r)::en)) H):TX P ops cls (i::l) K (ae en) H:=
 ⟨_,h0,by rw [hc];exact ⟨r,fun _ h=>(by cases h),fun G _=>hv _ rfl G,h⟩⟩
theorem xR (F:List Nat) (h0:ops[i]? = some ⟨some d,op,ty,pos,af,none⟩) (hc:cls i=(false,F)) (hb:F.all (fun b=>Nat.blt b H.length)=true) (hv:∀ G,agr F G H->EvA P (rho (ae en)) op G r G) (h:TX P ops cls l K (ae ((d,r)::en)) H):TX P ops cls (i::l) K (ae en) H:=
 ⟨_,h0,by rw [hc];exact ⟨r,fun b hm=>nlb (List.all_eq_true.1 hb b hm),fun G hG=>hv G hG _ rfl,h⟩⟩
theorem xT {W:List Nat} {o:Oper} {R:AV->AH->Prop} {e:Env} (h0:ops[i]? = some o) (hc:cls i=(true,W)) (hv:OpG P o (rho e) H R) (hk:∀ r G,R r G->oO W H G/\TX P ops cls l K (ig e o.dst r) G):TX P ops cls (i::l) K e H:=by
 refine ⟨o,h0,?_⟩;rw [hc];exact OpG.mono (R':=fun r H'=>oO W H H'/\TX P ops cls l K (ig e o.dst r) H') hv hk
theorem xA {W:List Nat} (h0:ops[i]? = some ⟨some d,op,ty,pos,af,none⟩) (hc:cls i=(true,W)) (hv:EvA P (rho (ae en)) op H r H') (hk:oO W H H') (h:TX P ops cls l K (ae ((d,r)::en)) H'):TX P ops cls (i::l) K (ae en) H:=
 xT h0 hc (Jb.opG (hv ⟨some d,op,ty,pos,af,none⟩ rfl)) fun r' G hG=>by obtain ⟨e1,e2⟩:=hG;subst e1 e2;exact ⟨hk,h⟩
theorem xV {W:List Nat} (h0:ops[i]? = some ⟨none,op,ty,pos,af,none⟩) (hc:cls i=(true,W)) (hv:EvA P (rho (ae en)) op H r H') (hk:oO W H H') (h:TX P ops cls l K (ae en) H'):TX P ops cls (i::l) K (ae en) H:=
 xT h0 hc (Jb.opG (hv ⟨none,op,ty,pos,af,none⟩ rfl)) fun r' G hG=>by obtain ⟨e1,e2⟩:=hG;subst e1 e2;exact ⟨hk,h⟩
end
theorem Fv {vs:Array Value} {a:AV} (hl:vs.size=[a].length):∃ u,vs = #[u]:=by
 obtain ⟨l⟩:=vs
 match l,hl with
 | [u],_=>exact ⟨u,rfl⟩
theorem eG (p:List (List Jh)) {q:Bool} (h:az p=some q):aJ Tryz.prog 21 [eL (cL Jh.c) p] (Bo q):=by
 unfold az at h;obtain ⟨⟨h1,h2⟩,h⟩:=gdD h;obtain rfl:=osl h;refine ⟨by kernel_rfl,fun w fz vs hlt hl hrel=>?_⟩;obtain ⟨u,rfl⟩:=Fv hl;have hs:=j6 (f:=Ins.cells) (s:=4) (e:=gy) (fun _=>rfl) (fun _=>rfl) (hrel 0 _ u rfl rfl);refine (l7 hs (Nat.le_refl _) (by rw [sD];exact h2)).mono fun e w' ⟨he,hb⟩ => ?_;exact ⟨_,fz,he,hb,.v Z,fun g hg=>hg,fun g hg => .inl hg,fun g hg=>Nat.lt_of_lt_of_le (hlt g hg) hb.size⟩
theorem mo (p:List (List Jh)) {q:Bool} (h:aR p=some q):aJ Tryz.prog 50 [eL (cL Jh.c) p] (Bo q):=by
 unfold aR at h;obtain ⟨⟨h1,h2⟩,h⟩:=gdD h;obtain rfl:=osl h;refine ⟨by kernel_rfl,fun w fz vs hlt hl hrel=>?_⟩;obtain ⟨u,rfl⟩:=Fv hl;have hs:=j6 (f:=Ins.cells) (s:=4) (e:=gy) (fun _=>rfl) (fun _=>rfl) (hrel 0 _ u rfl rfl);refine (l6 hs (Nat.le_refl _) (by rw [sD];exact h2)).mono fun e w' ⟨he,hb⟩ => ?_;exact ⟨_,fz,he,hb,.v Z,fun g hg=>hg,fun g hg => .inl hg,fun g hg=>Nat.lt_of_lt_of_le (hlt g hg) hb.size⟩
open Go.ChangeShapes Go.WideShapes Go.ChangeAt Go.RowKit Go.Sort
theorem tv {w:World} {blk off g:Nat} {d:Array Int} (h:g≠blk):(putRow (Value.int .i64) w blk off d).heap[g]? = w.heap[g]? := by
 show (w.heap.modify blk _)[g]? = _;rw [Array.getElem?_modify,if_neg (Ne.symm h)]
theorem tz {w:World} {blk off:Nat} {d:Array Int} {cs:Array Value} {t:TypeId} {fr:Nat×Nat} (h:w.heap[blk]? = some (.cells cs t fr)):(putRow (Value.int .i64) w blk off d).heap[blk]? = some (.cells (putCells (Value.int .i64) off d cs) t fr):=by
 show (w.heap.modify blk _)[blk]? = _;rw [Array.getElem?_modify,if_pos rfl,h]
 rfl
theorem iF {off:Nat} {d:Array Int} {cs:Array Value}:(putCells (Value.int .i64) off d cs).size=cs.size:=by simp [putCells]
theorem wB {off:Nat} {d:Array Int} {cs:Array Value} {k:Nat} (h:off+d.size<=cs.size) (hk:k<d.size):(putCells (Value.int .i64) off d cs)[off+k]? = some (.int .i64 d[k]!):=by
 unfold putCells;rw [Array.getElem?_mapIdx,Array.getElem?_eq_getElem (by omega)];simp only [Option.map_some];rw [if_pos (by omega),show off+k-off=k by omega]
theorem EN {c:Cx} (hr:HRel c) {l q:LI} {ver ver':Nat} (hH:c.H=[some ⟨ver,1,3,l.map cI⟩]) {cs:Array Value} {fr0:Nat×Nat} (hB:BRel c 0 ⟨ver,1,3,l.map cI⟩ cs (some fr0)) {d':Array Int} (hd:d'.size=l.length) (hq:q.length<=d'.size)
  (hqe:∀ i (h:i<q.length),d'[i]! = q[i]) {m:Nat} {os:Array Obj} (hv:(ver'=ver/\q.length=l.length)\/ver<ver') :
  ∃ c',c'.w=grow (putRow (Value.int .i64) (Sort.ahead c.w m) (c.φ 0).1 (c.φ 0).2 d') os/\c'.H=[some ⟨ver',1,3,q.map cI⟩]/\HRel c'/\Ext c c'/\c'.φ 0=c.φ 0/\c'.w.heap[(c.φ 0).1]? = some (.cells (putCells (Value.int .i64) (c.φ 0).2 d' cs) 3 fr0):=by
 have hlv:c.live 0 ⟨ver,1,3,l.map cI⟩:=by
  unfold Cx.live;rw [hH]
  rfl
 have hat:c.w.heap[(c.φ 0).1]? = some (.cells cs 3 fr0):=hB.at_;have hblk:(c.φ 0).1<c.w.heap.size:=hr.live_lt hlv;have hfit:(c.φ 0).2+l.length<=cs.size:=by
  have := hB.fits;simpa using this
 have he1:Ext c (c.upd 0 ⟨ver',1,3,q.map cI⟩ ((c.φ 0).1,(c.φ 0).2) (putCells (Value.int .i64) (c.φ 0).2 d' cs)):=Cx.upd_ext hr hlv hB iF (by
  rcases hv with ⟨h1,h2⟩ | h
  ·exact .inl ⟨h1,rfl,by simp [h2],rfl⟩
  ·exact .inr h)
 have hr1:=Cx.upd_rel hr hlv hB (k:=⟨ver',1,3,q.map cI⟩) (o:=(c.φ 0).2) (cs:=putCells (Value.int .i64) (c.φ 0).2 d' cs) iF rfl he1 Nat.one_pos (by rw [iF];simp;omega) (fun i row h=>by
  obtain ⟨x,_,rfl⟩:=by simpa [List.getElem?_map,Option.map_eq_some_iff] using h
  rfl) (fun i row j a h1 h2=>by
  have hi:i<q.length:=by simpa using (ges h1).1
  have hrw:row=cI q[i]:=by
   have := (ges h1).2;rw [<- this];simp
  subst hrw
  match j,h2 with
  | 0,h2=>
   obtain rfl:=osl h2;refine ⟨.int .i64 d'[i]!,?_,rfl,?_⟩
   ·have := wB (off:=(c.φ 0).2) (d:=d') (cs:=cs) (k:=i) (by omega) (by omega);simpa using this
   ·rw [hqe i hi];exact .fr (.v rfl)
  | j+1,h2=>simp [cI] at h2)
 have hbl:Below (c.upd 0 ⟨ver',1,3,q.map cI⟩ ((c.φ 0).1,(c.φ 0).2) (putCells (Value.int .i64) (c.φ 0).2 d' cs)).w.heap.size (c.upd 0 ⟨ver',1,3,q.map cI⟩ ((c.φ 0).1,(c.φ 0).2) (putCells (Value.int .i64) (c.φ 0).2 d' cs)).w (grow (putRow (Value.int .i64) (Sort.ahead c.w m) (c.φ 0).1 (c.φ 0).2 d') os):=by
  have hz:(c.upd 0 ⟨ver',1,3,q.map cI⟩ ((c.φ 0).1,(c.φ 0).2) (putCells (Value.int .i64) (c.φ 0).2 d' cs)).w.heap.size=c.w.heap.size:=by simp [Cx.upd]
  have hs:(putRow (Value.int .i64) (Sort.ahead c.w m) (c.φ 0).1 (c.φ 0).2 d').heap.size=c.w.heap.size:=by rw [size_putRow];rfl
  refine ⟨rfl,rfl,rfl,?_,fun g hg=>?_⟩
  ·rw [hz];show _<=((putRow (Value.int .i64) (Sort.ahead c.w m) (c.φ 0).1 (c.φ 0).2 d').heap++os).size;rw [Array.size_append,hs];omega
  ·rw [hz] at hg;show ((putRow (Value.int .i64) (Sort.ahead c.w m) (c.φ 0).1 (c.φ 0).2 d').heap++os)[g]? = (c.w.setRow (c.φ 0).1 (putCells (Value.int .i64) (c.φ 0).2 d' cs)).heap[g]?;rw [Array.getElem?_append_left (by rw [hs];exact hg)]
   by_cases e:g=(c.φ 0).1
   ·subst e;rw [tz (w:=Sort.ahead c.w m) hat,setRow_heap _ _ _ _ _ _ hat]
   ·rw [tv e,setRow_other _ _ _ _ e]
    rfl
 obtain ⟨g1,g2⟩:=lW hr1 hbl (fz':=fun _=>False) (fun _ h=>h.elim) (fun _ h=>h.elim) (fun _ _ _ h=>h);refine ⟨_,rfl,?_,g1,he1.trans g2,?_,?_⟩
 ·show c.H.set 0 _=_;rw [hH]
  rfl
 ·rfl
 ·have hz:(c.upd 0 ⟨ver',1,3,q.map cI⟩ ((c.φ 0).1,(c.φ 0).2) (putCells (Value.int .i64) (c.φ 0).2 d' cs)).w.heap.size=c.w.heap.size:=by simp [Cx.upd]
  have := hbl.block (c.φ 0).1 (by rw [hz];exact hblk);refine this.trans ?_;show (c.w.setRow (c.φ 0).1 (putCells (Value.int .i64) (c.φ 0).2 d' cs)).heap[_]? = _;exact setRow_heap _ _ _ _ _ _ hat
theorem EO {c:Cx} (hr:HRel c) {l:LI} {ver:Nat} (hH:c.H=[some ⟨ver,1,3,l.map cI⟩]) {u:Value} (hu:c.rel (.hs 0 ver 1 0 l.length) u) (hn:0<l.length) :
  ∃ cs fr0 cap,BRel c 0 ⟨ver,1,3,l.map cI⟩ cs (some fr0)/\u = .slice (some ⟨(c.φ 0).1,(c.φ 0).2,none⟩) l.length cap/\l.length<=cap/\cap<=9223372036854775807/\(c.φ 0).2+cap<=cs.size/\Holds (Value.int .i64) c.w (c.φ 0).1 (c.φ 0).2 l.toArray/\(c.φ 0).1<c.w.heap.size:=by
 have hlv:c.live 0 ⟨ver,1,3,l.map cI⟩:=by
  unfold Cx.live;rw [hH]
  rfl
 obtain ⟨cs,fr0,hB⟩:=hr.blk 0 _ hlv
 cases hu with
 | fr h=>cases h
 | @hs _ _ _ _ _ cap A hb hc hm h0 h=>
 obtain ⟨f,rfl,hat,hhd⟩:=hB.cells hlv (fun x hx=>(h x hx).1);obtain ⟨_,_,h3,h4⟩:=h _ hhd;have hA:=h3 (by omega);simp only [Nat.zero_mul,Nat.add_zero,Nat.mul_one] at hA h4;refine ⟨cs,f,cap,hB,by rw [hA],hc,hm,h4,fun j hj=>?_,hr.live_lt hlv⟩;have hj:j<l.length:=by simpa using hj
 have hj2:(c.φ 0).2+j<cs.size:=by omega
 obtain ⟨u,g1,g2,g3⟩:=hB.rel j (cI l[j]) 0 (I l[j]) (by simp [hj]) rfl;refine ⟨?_,?_⟩
 ·simp only [World.cell?,hat];have := cA g3;simp only [Nat.mul_one,Nat.add_zero] at g1;rw [g1];obtain ⟨rfl,_⟩:=this;simp [hj]
 ·have := hB.free f rfl _ hj2;obtain ⟨lo,hi'⟩:=f;simp only [World.frozen?,hat,Bool.and_eq_false_iff,decide_eq_false_iff_not];simp only at this;omega
open Go.Shelf Go.RowKit Go.Lib Go.Sort
def H3:Go.Shelf.Ren:=⟨fun | 23=>98 | n=>n,fun | 22=>35 | 3=>3 | 4=>4 | 0=>0 | n=>n,fun | n=>n⟩
theorem H4:Go.Proofs.Lays2.n23 Tryz.prog H3 where
 mixed:=by kernel_rfl
 f23:=Tryz.func98.trans (congrArg some (by kernel_rfl))
 t0:=Tryz.underlying0
 a0:=Tryz.isAgg0
 z0:=Tryz.sizeOf0
 v0:=Tryz.zeroValue0
 t3:=Tryz.underlying3
 a3:=Tryz.isAgg3
 z3:=Tryz.sizeOf3
 v3:=Tryz.zeroValue3
 t4:=Tryz.underlying4
 a4:=Tryz.isAgg4
 z4:=Tryz.sizeOf4
 v4:=Tryz.zeroValue4
 t22:=Tryz.underlying35
 a22:=Tryz.isAgg35
 z22:=Tryz.sizeOf35
 v22:=Tryz.zeroValue35
 i3:=by kernel_rfl
theorem qb (l:LI) (i j:Int) (g:Bool) (ver:Nat) (hg:g=true->l=[]) {q:LI} (h:ju l i j=some q) :
  bg Tryz.prog 98 [hS g 0 ver 1 l.length,I i,I j] [bE g ver 1 3 (l.map cI)] (yB 1 3 (fun x=>x) q.length (q.map cI) 0 []):=by
 obtain ⟨⟨h0,h1,h2,hn⟩,h⟩:=gdD h;obtain rfl:=osl h;obtain rfl:g=false:=by
  cases g with
  | false=>rfl
  | true=>
   rw [hg rfl] at hn;exact absurd hn (by simp)
 refine ⟨by kernel_rfl,fun c vs hH hr hall=>?_⟩;obtain ⟨hsz,hrel⟩:=hall;obtain ⟨u,a,b,rfl⟩:∃ u a b,vs = #[u,a,b]:=by
  match vs,hsz with
  | ⟨[u,a,b]⟩,_=>exact ⟨u,a,b,rfl⟩
 obtain ⟨rfl,_⟩:=cA (hrel 1 _ a rfl rfl);obtain ⟨rfl,_⟩:=cA (hrel 2 _ b rfl rfl);have hH:c.H=[some ⟨ver,1,3,l.map cI⟩]:=hH;obtain ⟨cs,fr0,cap,hB,rfl,hc,hm,hcs,hHo,hblk⟩:=EO hr hH (hrel 0 _ u rfl rfl) hn;have hcon:=Any.slices_Delete_int H4 (c.φ 0).1 (c.φ 0).2 cap i.toNat j.toNat l c.w hHo hc hm (by omega) (by omega);rw [show (i.toNat:Int)=i by omega,show (j.toNat:Int)=j by omega] at hcon;refine (show Calls Tryz.prog 98 _ _ _ from hcon).mono ?_;rintro e w' ⟨rfl,m,rfl⟩;have hql:(l.take i.toNat++l.drop j.toNat).length=l.length-(j.toNat-i.toNat):=by simp;omega
 have hdl:(l.take i.toNat++l.drop j.toNat++List.replicate (j.toNat-i.toNat) (0:Int)).toArray.size=l.length:=by simp;omega
 obtain ⟨c',w1,w2,w3,w4,w5,w6⟩:=EN hr hH hB (q:=l.take i.toNat++l.drop j.toNat) (ver':=ver+1) (d':=(l.take i.toNat++l.drop j.toNat++List.replicate (j.toNat-i.toNat) (0:Int)).toArray) hdl (by rw [hdl,hql];omega) (fun k hk=>by
  rw [getElem!_pos _ k (by rw [hdl];omega)];simp only [List.getElem_toArray];rw [List.getElem_append_left hk]) (m:=m) (os:=#[]) (.inr (Nat.lt_succ_self _))
 rw [grow_empty] at w1;have hlv:c'.live 0 ⟨ver+1,1,3,(l.take i.toNat++l.drop j.toNat).map cI⟩:=by
  unfold Cx.live;rw [w2]
  rfl
 refine ⟨_,c',hS false 0 (ver+1) 1 (l.take i.toNat++l.drop j.toNat).length,Z,w1,⟨false,ver+1,fun e=>(by cases e),Z,w2⟩,w3,w4,?_⟩;rw [<- hql];refine .hs ?_ (by omega) hm (fun _=>⟨_,Z⟩) fun x hx=>?_
 ·unfold Cx.born;rw [show c'.H[0]? = some (some _) from hlv];exact Nat.le_refl _
 ·have := Cx.hd_of hlv (by rw [w5];exact w6);rw [show (⟨ver+1,1,3,(l.take i.toNat++l.drop j.toNat).map cI⟩:ABlk).ver=ver+1 from rfl] at this;rw [this] at hx;obtain rfl:=osl hx;rw [w5];refine ⟨Z,by simp,fun _=>by simp,?_⟩;show (c.φ 0).2+0*1+cap*1<=(putCells (Value.int .i64) (c.φ 0).2 _ cs).size;rw [iF];omega
end
end Go.Proofs.YtlmjnhnpahicmaaGreat
