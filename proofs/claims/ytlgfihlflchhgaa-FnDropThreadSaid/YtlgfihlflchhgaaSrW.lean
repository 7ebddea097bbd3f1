/-
 slices.SortFunc over lists of lists of numbers, compared by slices.Compare: what it does to a slice of the call's own. No conditions.
-/
import Derived.Test.YtlgfihlflchhgaaSrt
import Derived.Test.YtlgfihlflchhgaaGD
import Derived.Test.YtlgfihlflchhgaaSf
import Derived.Test.YtlgfihlflchhgaaBr
import Derived.Test.YtlgfihlflchhgaaSrL
import Derived.Test.YtlgfihlflchhgaaRow
import Derived.OpenShut
import Derived.BigRegion
namespace Go.Proofs.Ytlgfihlflchhgaa
open Go.ChangeShapes Go.WideShapes Go.ChangeAt Go.RowKit Go.Shelf Go.Sort
set_option maxRecDepth 100000
theorem cmpL_swo {α:Type} (f:α->List Int):SWO (ltOf fun x y=>cmpL (f x) (f y)) where
 irrefl x:=by simp [ltOf,cmpL_refl]
 trans x y z h1 h2:=by
  simp only [ltOf,decide_eq_true_eq] at *
  exact cmpL_trans h1 h2
 ntrans x y z h1 h2:=by
  simp only [ltOf,decide_eq_false_iff_not] at *
  intro h
  rcases cmpL_tri (f x) (f y) with g | g | g
  ·exact h1 g
  ·rw [g] at h
   exact h2 h
  ·exact h2 (cmpL_trans g h)
theorem cmpCompare_any (x y:Int) (w:World) :
  Calls Try.prog 68 #[.int .i64 x,.int .i64 y] w fun e w'=>e = .returned (.int .i64 (if x<y then -1 else if y<x then 1 else 0))/\w'=w:=by
 go_enter Try.func68,Try.ntmps68
 by_cases h1:x<y
 ·rw [if_pos h1]
  go_wp2
  go_ret
  exact ⟨rfl,rfl⟩
 ·rw [if_neg h1]
  by_cases h2:y<x
  ·rw [if_pos h2]
   go_wp2
   go_ret
   exact ⟨rfl,rfl⟩
  ·rw [if_neg h2]
   go_wp2
   go_ret
   exact ⟨rfl,rfl⟩
theorem compare_any {lo hi lo' hi':Nat} {u v:Value} {xs ys:List Int} {w:World} (hu:Sl int1 1 w lo hi u xs) (hv:Sl int1 1 w lo' hi' v ys) :
  Calls Try.prog 55 #[u,v] w fun e w'=>e = .returned (.int .i64 (cmpL xs ys))/\w'=w:=by
 obtain ⟨A,ca,rfl,hca,hma,hA⟩:=hu.ints
 obtain ⟨B,cb,rfl,hcb,hmb,hB⟩:=hv.ints
 have HAA:=Lib.hid hA;clear hA
 have HBB:=Lib.hid hB;clear hB
 go_enter Try.func55,Try.ntmps55
 go_wp2_with fail
 go_loopw [11] (fun i wr=>∃ k:Nat,k<=xs.length/\k<=ys.length/\i = .int .i64 k/\wr=w/\cmpL xs ys=cmpL (xs.drop k) (ys.drop k)) (fun i _=>xs.length-(intOf i).toNat)
 case atStart=>exact ⟨0,Nat.zero_le _,Nat.zero_le _,rfl,rfl,rfl⟩
 case round=>
  obtain ⟨k,hk,hk2,rfl,rfl,he⟩:=hrel
  have HE:=Lib.hid he;clear he
  by_cases hlt:k<xs.length
  ·obtain ⟨ba,oa,rfl,_,_,hba,hA⟩:=HAA.out (by omega)
   have ca1:=hA k hlt
   clear hA
   have i1:(0:Int)<=(k:Int):=by omega
   have i2:(k:Int)<(xs.length:Int):=by omega
   have HX:=Lib.hid (List.drop_eq_getElem_cons hlt)
   by_cases hlt2:k<ys.length
   ·obtain ⟨bb,ob,rfl,_,_,hbb,hB⟩:=HBB.out (by omega)
    have cb1:=hB k hlt2
    clear hB
    have i3:(k:Int)<(ys.length:Int):=by omega
    have HY:=Lib.hid (List.drop_eq_getElem_cons hlt2)
    generalize xs[k]=x at *
    generalize ys[k]=y at *
    have hc:=cmpCompare_any x y wr
    by_cases h1:x<y
    ·rw [if_pos h1] at hc
     have HR:=Lib.hid (show cmpL xs ys = -1 by rw [HE.out,HX.out,HY.out,cmpL,if_pos h1])
     go_wp2_with (go_at_call 68;refine hc.mono ?_;rintro e w' ⟨rfl,rfl⟩)
     go_ret
     exact ⟨by rw [HR.out];rfl,rfl⟩
    ·rw [if_neg h1] at hc
     by_cases h2:y<x
     ·rw [if_pos h2] at hc
      have HR:=Lib.hid (show cmpL xs ys=1 by rw [HE.out,HX.out,HY.out,cmpL,if_neg h1,if_pos h2])
      go_wp2_with (go_at_call 68;refine hc.mono ?_;rintro e w' ⟨rfl,rfl⟩)
      go_ret
      exact ⟨by rw [HR.out];rfl,rfl⟩
     ·rw [if_neg h2] at hc
      have HR:=Lib.hid (show cmpL xs ys=cmpL (xs.drop (k+1)) (ys.drop (k+1)) by rw [HE.out,HX.out,HY.out,cmpL,if_neg h1,if_neg h2])
      go_wp2_with (go_at_call 68;refine hc.mono ?_;rintro e w' ⟨rfl,rfl⟩)
      go_roundw
      case rel=>exact ⟨k+1,by omega,by omega,by go_num,by first | rfl | trivial,HR.out⟩
      case measure=>simp [intOf];omega
   ·have hky:k=ys.length:=by omega
    have i3:((ys.length:Int)<=(k:Int)):=by omega
    have HR:=Lib.hid (show cmpL xs ys=1 by rw [HE.out,HX.out,List.drop_eq_nil_of_le (show ys.length<=k by omega)];rfl)
    clear hky
    go_wp2_with fail
    go_ret
    exact ⟨by rw [HR.out];rfl,rfl⟩
  ·have hkx:k=xs.length:=by omega
   have HF:=Lib.hid (show cmpL xs ys=cmpL [] (ys.drop xs.length) by rw [HE.out,hkx,List.drop_length])
   clear HE
   subst hkx
   by_cases hl:xs.length<ys.length
   ·have i3:((xs.length:Int)<(ys.length:Int)):=by omega
    go_wp2_with fail
    go_ret
    exact ⟨by rw [HF.out,List.drop_eq_getElem_cons hl];rfl,rfl⟩
   ·have i3 : ¬ ((xs.length:Int)<(ys.length:Int)):=by omega
    go_wp2_with fail
    go_ret
    exact ⟨by rw [HF.out,List.drop_eq_nil_of_le (by omega)];rfl,rfl⟩
theorem ints_of_frelR {w:World} {fz:Nat->Prop} {v:Value} {l:List Int} (h:FRel w fz (eL cI l) v):Sl int1 1 w 0 w.heap.size v l:=by
 have := sl_of_frel (f:=int1) (s:=1) (c:=cI) (e:=id) (fun _=>rfl) (fun _=>rfl) h
 rwa [List.map_id] at this
def Rd1 (w:World) (fz:Nat->Prop):Type:={ p:Value×List Int // p.1.oneCell'=true/\FRel w fz (eL cI p.2) p.1 }
theorem frel_nilI (w:World) (fz:Nat->Prop):FRel w fz (eL cI ([]:List Int)) (.slice none 0 0):=
 .sl (s:=1) (g:=0) (o:=0) (fun _ _ => .bool false) (Nat.le_refl _) (by decide) (fun h=>absurd h (by simp)) (fun i h=>absurd h (by simp)) (fun i j a h=>absurd h (by simp)) (fun i j a h=>absurd h (by simp)) (fun i j a h=>absurd h (by simp))
instance {w:World} {fz:Nat->Prop}:Inhabited (Rd1 w fz):=⟨⟨(.slice none 0 0,[]),rfl,frel_nilI w fz⟩⟩
def encR {w:World} {fz:Nat->Prop} (x:Rd1 w fz):Value:=x.1.1
def lstR {w:World} {fz:Nat->Prop} (x:Rd1 w fz):List Int:=x.1.2
theorem heap_putRow_ne {α:Type} [Inhabited α] {enc:α->Value} {w:World} {blk off g:Nat} {d:Array α} (h:g≠blk):(putRow enc w blk off d).heap[g]? = w.heap[g]? := by
 show (w.heap.modify blk _)[g]? = _
 rw [Array.getElem?_modify,if_neg (Ne.symm h)]
theorem heap_putRow_at {α:Type} [Inhabited α] {enc:α->Value} {w:World} {blk off:Nat} {d:Array α} {cs:Array Value} {t:TypeId} {fr:Nat×Nat} (h:w.heap[blk]? = some (.cells cs t fr)):(putRow enc w blk off d).heap[blk]? = some (.cells (putCells enc off d cs) t fr):=by
 show (w.heap.modify blk _)[blk]? = _
 rw [Array.getElem?_modify,if_pos rfl,h]
 rfl
theorem heap_sortWorld {α:Type} [Inhabited α] {enc:α->Value} {w:World} {blk off m g:Nat} {d:Array α} {os:Array Obj} (hg:g<w.heap.size):(sortWorld enc w blk off m d os).heap[g]? = (putRow enc w blk off d).heap[g]? := by
 show ((putRow enc (Sort.ahead w m) blk off d).heap++os)[g]? = _
 have hs:(putRow enc (Sort.ahead w m) blk off d).heap.size=w.heap.size:=by rw [size_putRow];rfl
 rw [Array.getElem?_append_left (by rw [hs];exact hg)]
 rfl
theorem putCells_size {α:Type} [Inhabited α] {enc:α->Value} {off:Nat} {d:Array α} {cs:Array Value}:(putCells enc off d cs).size=cs.size:=by simp [putCells]
theorem putCells_get {α:Type} [Inhabited α] {enc:α->Value} {off:Nat} {d:Array α} {cs:Array Value} {k:Nat} (h:off+d.size<=cs.size) (hk:k<d.size):(putCells enc off d cs)[off+k]? = some (enc d[k]!):=by
 unfold putCells
 rw [Array.getElem?_mapIdx,Array.getElem?_eq_getElem (by omega)]
 simp only [Option.map_some]
 rw [if_pos (by omega),show off+k-off=k by omega]
theorem cmpLays {c:Cx} {blk off size:Nat} (hnf : ¬ c.fz blk) (hlt:∀ g,c.fz g->g<c.w.heap.size):CmpLays1 Try.prog 55 #[] (encR (w:=c.w) (fz:=c.fz)) (fun x y=>cmpL (lstR x) (lstR y)) blk off size c.w:=by
 intro m os dk hs x y
 have hW:∀ g,c.fz g->g<c.w.heap.size->(sortWorld encR c.w blk off m dk os).heap[g]? = c.w.heap[g]? /\ c.fz g:=fun g hg hl=>by
  rw [heap_sortWorld hl,heap_putRow_ne (by rintro rfl;exact hnf hg)]
  exact ⟨rfl,hg⟩
 have hsz:c.w.heap.size<=(sortWorld encR c.w blk off m dk os).heap.size:=by
  show _<=((putRow encR (Sort.ahead c.w m) blk off dk).heap++os).size
  rw [Array.size_append,size_putRow]
  show c.w.heap.size<=c.w.heap.size+os.size
  omega
 have hx:=ints_of_frelR (x.2.2.mono hsz hW)
 have hy:=ints_of_frelR (y.2.2.mono hsz hW)
 refine (compare_any hx hy).mono fun e w' ⟨he,hw⟩=>⟨he,0,#[],?_⟩
 rw [hw,grow_empty]
 rfl
theorem sort_any {c:Cx} (hr:HRel c) {l:List (List Int)} {ver:Nat} (hH:c.H=[some ⟨ver,1,63,l.map (cL cI)⟩]) {u:Value} (hu:c.rel (.hs 0 ver 1 0 l.length) u) (hl:l.length<4611686018427387904) (hn:0<l.length) :
  Calls Try.prog 54 #[u,.func (.func 55) #[] #[]] c.w fun e w'=>∃ c',e = .returned (.tuple #[])/\c'.w=w'/\c'.H=[some ⟨ver,1,63,(srtL l).map (cL cI)⟩]/\HRel c'/\Ext c c':=by
 have hlv:c.live 0 ⟨ver,1,63,l.map (cL cI)⟩:=by
  unfold Cx.live
  rw [hH]
  rfl
 obtain ⟨cs,fr0,hB⟩:=hr.blk 0 _ hlv
 cases hu with
 | fr h=>cases h
 | @hs _ _ _ _ _ cap A hb hc hm h0 h=>
 obtain ⟨f,rfl,hat,hhd⟩:=hB.cells hlv (fun x hx=>(h x hx).1)
 obtain ⟨_,_,h3,_⟩:=h _ hhd
 have hA:=h3 (by omega)
 have hfit:(c.φ 0).2+l.length<=cs.size:=by
  have := hB.fits
  simpa using this
 have hrow:∀ i (hi:i<l.length),∃ p:Rd1 c.w c.fz,cs[(c.φ 0).2+i]? = some (encR p)/\lstR p=l[i]:=fun i hi=>by
  obtain ⟨u,g1,g2,g3⟩:=hB.rel i (cL cI l[i]) 0 (eL cI l[i]) (by simp [hi]) rfl
  refine ⟨⟨(u,l[i]),g2,rel_isF 1 _ _ rfl g3⟩,?_,rfl⟩
  show _=some u
  simpa using g1
 obtain ⟨d,hds,hd1,hd2⟩:∃ d:Array (Rd1 c.w c.fz),d.size=l.length/\(∀ i,i<l.length->cs[(c.φ 0).2+i]? = some (encR d[i]!))/\d.toList.map lstR=l:=by
  refine ⟨Array.ofFn (fun i:_root_.Fin l.length=>(hrow i.1 i.2).choose),by simp,fun i hi => ?_,?_⟩
  ·rw [getElem!_pos _ i (by simpa using hi),Array.getElem_ofFn]
   exact (hrow i hi).choose_spec.1
  ·apply List.ext_getElem
   ·simp
   ·intro i h1 h2
    simp only [List.getElem_map,Array.getElem_toList,Array.getElem_ofFn]
    exact (hrow i h2).choose_spec.2
 have hblk:(c.φ 0).1<c.w.heap.size:=hr.live_lt hlv
 have hH2:Holds (encR (w:=c.w) (fz:=c.fz)) c.w (c.φ 0).1 (c.φ 0).2 d:=fun j hj=>by
  have hj2:(c.φ 0).2+j<cs.size:=by omega
  refine ⟨?_,?_⟩
  ·simp only [World.cell?,hat]
   exact hd1 j (by omega)
  ·have := hB.free f rfl _ hj2
   obtain ⟨lo,hi'⟩:=f
   simp only [World.frozen?,hat,Bool.and_eq_false_iff,decide_eq_false_iff_not]
   simp only at this
   omega
 have eg:∀ args w,(callFunc 55 args).run Try.prog w = .ok (.enter 55 args) w:=enters_of Try.func55 (by kernel_rfl) rfl
 have hcon:=Any.slices_SortFunc srtLay (encR (w:=c.w) (fz:=c.fz)) (fun x=>x.2.1) (fun x y=>cmpL (lstR x) (lstR y)) (cmpL_swo lstR) 55 #[] (c.φ 0).1 (c.φ 0).2 cap d c.w eg (cmpLays (hr.not_fz hlv) hr.lt) hH2 hblk (by omega)
 rw [hA,show (c.φ 0).2+0*1=(c.φ 0).2 by omega,<- hds]
 refine (show Calls Try.prog 54 _ _ _ from hcon).mono ?_
 rintro e w' ⟨rfl,d',m,os,hp,hs,rfl⟩
 have hds':d'.size=l.length:=hp.1.trans hds
 have hpl:d'.toList.Perm d.toList:=by
  have := hp.2.2
  rwa [Array.extract_eq_self_of_le (by omega),Array.extract_eq_self_of_le (by omega)] at this
 have hsl:d'.toList.map lstR=srtL l:=by
  refine sorted_uniq ((hpl.map lstR).trans (hd2 ▸ (srtL_perm l).symm)) ?_ (srtL_sorted l)
  rw [List.pairwise_map,List.pairwise_iff_getElem]
  intro i j h1 h2 hij
  have := hs i j (Nat.zero_le _) hij (by rw [hds,<- hds'];simpa using h2)
  rw [getElem!_pos d' j (by simpa using h2),getElem!_pos d' i (by simpa using h1)] at this
  unfold ltOf at this
  unfold leL
  rw [decide_eq_true_eq]
  simpa using this
 have hat':∀ i (hi:i<(srtL l).length),lstR d'[i]! = (srtL l)[i]:=fun i hi=>by
  have hi2:i<d'.size:=by
   rw [(srtL_perm l).length_eq] at hi
   omega
  rw [getElem!_pos d' i hi2]
  have : (d'.toList.map lstR)[i]? = (srtL l)[i]? := by rw [hsl]
  rw [List.getElem?_eq_getElem (by simpa using hi2),List.getElem?_eq_getElem hi] at this
  simpa using this
 have hll:(srtL l).length=l.length:=(srtL_perm l).length_eq
 have he1:Ext c (c.upd 0 ⟨ver,1,63,(srtL l).map (cL cI)⟩ ((c.φ 0).1,(c.φ 0).2) (putCells encR (c.φ 0).2 d' cs)):=Cx.upd_ext hr hlv hB putCells_size (.inl ⟨rfl,rfl,by simp [hll],rfl⟩)
 have hr1:=Cx.upd_rel hr hlv hB (k:=⟨ver,1,63,(srtL l).map (cL cI)⟩) (o:=(c.φ 0).2) (cs:=putCells encR (c.φ 0).2 d' cs) putCells_size rfl he1 Nat.one_pos (by rw [putCells_size];simpa [hll] using hfit) (fun i row h=>by
  obtain ⟨x,_,rfl⟩:=by simpa [List.getElem?_map,Option.map_eq_some_iff] using h
  rfl) (fun i row j a h1 h2=>by
  have hi:i<(srtL l).length:=by simpa using (List.getElem?_eq_some_iff.1 h1).1
  have hrw:row=cL cI (srtL l)[i]:=by
   have := (List.getElem?_eq_some_iff.1 h1).2
   rw [<- this]
   simp
  subst hrw
  match j,h2 with
  | 0,h2=>
   obtain rfl:=Option.some.inj h2
   refine ⟨encR d'[i]!,?_,d'[i]!.2.1,?_⟩
   ·have := putCells_get (enc:=encR) (off:=(c.φ 0).2) (d:=d') (cs:=cs) (k:=i) (by omega) (by omega)
    simpa using this
   ·rw [<- hat' i hi]
    exact .fr d'[i]!.2.2
  | j+1,h2=>simp [cL] at h2)
 have hbl:Below (c.upd 0 ⟨ver,1,63,(srtL l).map (cL cI)⟩ ((c.φ 0).1,(c.φ 0).2) (putCells encR (c.φ 0).2 d' cs)).w.heap.size (c.upd 0 ⟨ver,1,63,(srtL l).map (cL cI)⟩ ((c.φ 0).1,(c.φ 0).2) (putCells encR (c.φ 0).2 d' cs)).w (sortWorld encR c.w (c.φ 0).1 (c.φ 0).2 m d' os):=by
  have hz:(c.upd 0 ⟨ver,1,63,(srtL l).map (cL cI)⟩ ((c.φ 0).1,(c.φ 0).2) (putCells encR (c.φ 0).2 d' cs)).w.heap.size=c.w.heap.size:=by simp [Cx.upd]
  refine ⟨rfl,rfl,rfl,?_,fun g hg => ?_⟩
  ·rw [hz]
   show _<=((putRow encR (Sort.ahead c.w m) (c.φ 0).1 (c.φ 0).2 d').heap++os).size
   rw [Array.size_append,size_putRow]
   show c.w.heap.size<=c.w.heap.size+os.size
   omega
  ·rw [hz] at hg
   rw [heap_sortWorld hg]
   show _=(c.w.setRow (c.φ 0).1 (putCells encR (c.φ 0).2 d' cs)).heap[g]?
   by_cases e:g=(c.φ 0).1
   ·subst e
    rw [heap_putRow_at hat,setRow_heap _ _ _ _ _ _ hat]
   ·rw [heap_putRow_ne e,setRow_other _ _ _ _ e]
 obtain ⟨g1,g2⟩:=below_ctx hr1 hbl (fz':=fun _=>False) (fun _ h=>h.elim) (fun _ h=>h.elim) (fun _ _ _ h=>h)
 refine ⟨_,rfl,rfl,?_,g1,he1.trans g2⟩
 show c.H.set 0 _=_
 rw [hH]
 rfl
theorem F_slices_SortFunc_W (l:List (List Int)) (g:Bool) (ver:Nat) (hg:g=true->l=[]) {q:List (List Int)} (h:F_slices_SortFunc l=some q) :
  ACall Try.prog 54 [hS g 0 ver 1 l.length,.fn (.func 55) []] [bE g ver 1 63 (l.map (cL cI))] (.tup []) [bE g ver 1 63 (q.map (cL cI))]:=by
 obtain ⟨hl,h⟩:=gdD h
 obtain rfl:=Option.some.inj h
 refine ⟨by kernel_rfl,fun c vs hH hr hall => ?_⟩
 obtain ⟨hsz,hrel⟩:=hall
 obtain ⟨u,f,rfl⟩:∃ u f,vs = #[u,f]:=by
  match vs,hsz with
  | ⟨[u,f]⟩,_=>exact ⟨u,f,rfl⟩
 have hu:=hrel 0 _ u rfl rfl
 obtain ⟨vs2,rfl,h5,_⟩:=rel_fn (hrel 1 _ f rfl rfl)
 obtain rfl:vs2 = #[]:=Array.eq_empty_of_size_eq_zero h5
 by_cases hn:0<l.length
 ·obtain rfl:g=false:=by
   cases g with
   | false=>rfl
   | true=>
    rw [hg rfl] at hn
    exact absurd hn (by simp)
  refine (sort_any hr hH hu hl hn).mono ?_
  rintro e w' ⟨c',rfl,hw,hH',h1,h2⟩
  exact ⟨_,c',rfl,hw,hH',h1,h2,.tup rfl (fun i x y hx=>by simp at hx)⟩
 ·obtain rfl:l=[]:=List.eq_nil_of_length_eq_zero (by omega)
  obtain ⟨A,cap,rfl⟩:∃ A cap,u = .slice A 0 cap:=by
   cases g with
   | true=>
    cases hu with
    | fr h=>cases h;exact ⟨_,_,rfl⟩
   | false=>
    obtain ⟨A,cap,h6,_⟩:=rel_hs_form hu
    exact ⟨A,cap,h6⟩
  refine (show Calls Try.prog 54 _ _ _ from AnyF.slices_SortFunc_none { srtLay with } A cap _ c.w).mono ?_
  rintro e w' ⟨rfl,rfl⟩
  refine ⟨_,c,rfl,rfl,?_,hr,Ext.refl c,.tup rfl (fun i x y hx=>by simp at hx)⟩
  rw [hH,(srtL_perm []).eq_nil]
end Go.Proofs.Ytlgfihlflchhgaa
