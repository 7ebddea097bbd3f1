/-
 A row of numbers that the library has written, as the abstract machine sees it. Plain theorems. No conditions.
-/
import Derived.Test.YtlmjnhnpahicmaaGD
import Derived.Test.YtlmjnhnpahicmaaSf
import Derived.Test.YtlmjnhnpahicmaaBr
import Derived.Test.YtlmjnhnpahicmaaRow
import Derived.OpenShut
import Derived.BigRegion
import Derived.Sort.Row
import Derived.Sort.Grow
namespace Go.Proofs.Ytlmjnhnpahicmaa
open Go.ChangeShapes Go.WideShapes Go.ChangeAt Go.RowKit Go.Sort
set_option maxRecDepth 100000
theorem heap_putRowI_ne {w:World} {blk off g:Nat} {d:Array Int} (h:g≠blk):(putRow (Value.int .i64) w blk off d).heap[g]? = w.heap[g]? := by
 show (w.heap.modify blk _)[g]? = _
 rw [Array.getElem?_modify,if_neg (Ne.symm h)]
theorem heap_putRowI_at {w:World} {blk off:Nat} {d:Array Int} {cs:Array Value} {t:TypeId} {fr:Nat×Nat} (h:w.heap[blk]? = some (.cells cs t fr)):(putRow (Value.int .i64) w blk off d).heap[blk]? = some (.cells (putCells (Value.int .i64) off d cs) t fr):=by
 show (w.heap.modify blk _)[blk]? = _
 rw [Array.getElem?_modify,if_pos rfl,h]
 rfl
theorem putCellsI_size {off:Nat} {d:Array Int} {cs:Array Value}:(putCells (Value.int .i64) off d cs).size=cs.size:=by simp [putCells]
theorem putCellsI_get {off:Nat} {d:Array Int} {cs:Array Value} {k:Nat} (h:off+d.size<=cs.size) (hk:k<d.size):(putCells (Value.int .i64) off d cs)[off+k]? = some (.int .i64 d[k]!):=by
 unfold putCells
 rw [Array.getElem?_mapIdx,Array.getElem?_eq_getElem (by omega)]
 simp only [Option.map_some]
 rw [if_pos (by omega),show off+k-off=k by omega]
theorem ints_put {c:Cx} (hr:HRel c) {l q:List Int} {ver ver':Nat} (hH:c.H=[some ⟨ver,1,3,l.map cI⟩]) {cs:Array Value} {fr0:Nat×Nat} (hB:BRel c 0 ⟨ver,1,3,l.map cI⟩ cs (some fr0)) {d':Array Int} (hd:d'.size=l.length) (hq:q.length<=d'.size)
  (hqe:∀ i (h:i<q.length),d'[i]! = q[i]) {m:Nat} {os:Array Obj} (hv:(ver'=ver/\q.length=l.length)\/ver<ver') :
  ∃ c',c'.w=grow (putRow (Value.int .i64) (Sort.ahead c.w m) (c.φ 0).1 (c.φ 0).2 d') os/\c'.H=[some ⟨ver',1,3,q.map cI⟩]/\HRel c'/\Ext c c'/\c'.φ 0=c.φ 0/\c'.w.heap[(c.φ 0).1]? = some (.cells (putCells (Value.int .i64) (c.φ 0).2 d' cs) 3 fr0):=by
 have hlv:c.live 0 ⟨ver,1,3,l.map cI⟩:=by
  unfold Cx.live
  rw [hH]
  rfl
 have hat:c.w.heap[(c.φ 0).1]? = some (.cells cs 3 fr0):=hB.at_
 have hblk:(c.φ 0).1<c.w.heap.size:=hr.live_lt hlv
 have hfit:(c.φ 0).2+l.length<=cs.size:=by
  have := hB.fits
  simpa using this
 have he1:Ext c (c.upd 0 ⟨ver',1,3,q.map cI⟩ ((c.φ 0).1,(c.φ 0).2) (putCells (Value.int .i64) (c.φ 0).2 d' cs)):=Cx.upd_ext hr hlv hB putCellsI_size (by
  rcases hv with ⟨h1,h2⟩ | h
  ·exact .inl ⟨h1,rfl,by simp [h2],rfl⟩
  ·exact .inr h)
 have hr1:=Cx.upd_rel hr hlv hB (k:=⟨ver',1,3,q.map cI⟩) (o:=(c.φ 0).2) (cs:=putCells (Value.int .i64) (c.φ 0).2 d' cs) putCellsI_size rfl he1 Nat.one_pos (by rw [putCellsI_size];simp;omega) (fun i row h=>by
  obtain ⟨x,_,rfl⟩:=by simpa [List.getElem?_map,Option.map_eq_some_iff] using h
  rfl) (fun i row j a h1 h2=>by
  have hi:i<q.length:=by simpa using (List.getElem?_eq_some_iff.1 h1).1
  have hrw:row=cI q[i]:=by
   have := (List.getElem?_eq_some_iff.1 h1).2
   rw [<- this]
   simp
  subst hrw
  match j,h2 with
  | 0,h2=>
   obtain rfl:=Option.some.inj h2
   refine ⟨.int .i64 d'[i]!,?_,rfl,?_⟩
   ·have := putCellsI_get (off:=(c.φ 0).2) (d:=d') (cs:=cs) (k:=i) (by omega) (by omega)
    simpa using this
   ·rw [hqe i hi]
    exact .fr (.v rfl)
  | j+1,h2=>simp [cI] at h2)
 have hbl:Below (c.upd 0 ⟨ver',1,3,q.map cI⟩ ((c.φ 0).1,(c.φ 0).2) (putCells (Value.int .i64) (c.φ 0).2 d' cs)).w.heap.size (c.upd 0 ⟨ver',1,3,q.map cI⟩ ((c.φ 0).1,(c.φ 0).2) (putCells (Value.int .i64) (c.φ 0).2 d' cs)).w (grow (putRow (Value.int .i64) (Sort.ahead c.w m) (c.φ 0).1 (c.φ 0).2 d') os):=by
  have hz:(c.upd 0 ⟨ver',1,3,q.map cI⟩ ((c.φ 0).1,(c.φ 0).2) (putCells (Value.int .i64) (c.φ 0).2 d' cs)).w.heap.size=c.w.heap.size:=by simp [Cx.upd]
  have hs:(putRow (Value.int .i64) (Sort.ahead c.w m) (c.φ 0).1 (c.φ 0).2 d').heap.size=c.w.heap.size:=by rw [size_putRow];rfl
  refine ⟨rfl,rfl,rfl,?_,fun g hg => ?_⟩
  ·rw [hz]
   show _<=((putRow (Value.int .i64) (Sort.ahead c.w m) (c.φ 0).1 (c.φ 0).2 d').heap++os).size
   rw [Array.size_append,hs]
   omega
  ·rw [hz] at hg
   show ((putRow (Value.int .i64) (Sort.ahead c.w m) (c.φ 0).1 (c.φ 0).2 d').heap++os)[g]? = (c.w.setRow (c.φ 0).1 (putCells (Value.int .i64) (c.φ 0).2 d' cs)).heap[g]?
   rw [Array.getElem?_append_left (by rw [hs];exact hg)]
   by_cases e:g=(c.φ 0).1
   ·subst e
    rw [heap_putRowI_at (w:=Sort.ahead c.w m) hat,setRow_heap _ _ _ _ _ _ hat]
   ·rw [heap_putRowI_ne e,setRow_other _ _ _ _ e]
    rfl
 obtain ⟨g1,g2⟩:=below_ctx hr1 hbl (fz':=fun _=>False) (fun _ h=>h.elim) (fun _ h=>h.elim) (fun _ _ _ h=>h)
 refine ⟨_,rfl,?_,g1,he1.trans g2,?_,?_⟩
 ·show c.H.set 0 _=_
  rw [hH]
  rfl
 ·rfl
 ·have hz:(c.upd 0 ⟨ver',1,3,q.map cI⟩ ((c.φ 0).1,(c.φ 0).2) (putCells (Value.int .i64) (c.φ 0).2 d' cs)).w.heap.size=c.w.heap.size:=by simp [Cx.upd]
  have := hbl.block (c.φ 0).1 (by rw [hz];exact hblk)
  refine this.trans ?_
  show (c.w.setRow (c.φ 0).1 (putCells (Value.int .i64) (c.φ 0).2 d' cs)).heap[_]? = _
  exact setRow_heap _ _ _ _ _ _ hat
theorem ints_row {c:Cx} (hr:HRel c) {l:List Int} {ver:Nat} (hH:c.H=[some ⟨ver,1,3,l.map cI⟩]) {u:Value} (hu:c.rel (.hs 0 ver 1 0 l.length) u) (hn:0<l.length) :
  ∃ cs fr0 cap,BRel c 0 ⟨ver,1,3,l.map cI⟩ cs (some fr0)/\u = .slice (some ⟨(c.φ 0).1,(c.φ 0).2,none⟩) l.length cap/\l.length<=cap/\cap<=9223372036854775807/\(c.φ 0).2+cap<=cs.size/\Holds (Value.int .i64) c.w (c.φ 0).1 (c.φ 0).2 l.toArray/\(c.φ 0).1<c.w.heap.size:=by
 have hlv:c.live 0 ⟨ver,1,3,l.map cI⟩:=by
  unfold Cx.live
  rw [hH]
  rfl
 obtain ⟨cs,fr0,hB⟩:=hr.blk 0 _ hlv
 cases hu with
 | fr h=>cases h
 | @hs _ _ _ _ _ cap A hb hc hm h0 h=>
 obtain ⟨f,rfl,hat,hhd⟩:=hB.cells hlv (fun x hx=>(h x hx).1)
 obtain ⟨_,_,h3,h4⟩:=h _ hhd
 have hA:=h3 (by omega)
 simp only [Nat.zero_mul,Nat.add_zero,Nat.mul_one] at hA h4
 refine ⟨cs,f,cap,hB,by rw [hA],hc,hm,h4,fun j hj => ?_,hr.live_lt hlv⟩
 have hj:j<l.length:=by simpa using hj
 have hj2:(c.φ 0).2+j<cs.size:=by omega
 obtain ⟨u,g1,g2,g3⟩:=hB.rel j (cI l[j]) 0 (I l[j]) (by simp [hj]) rfl
 refine ⟨?_,?_⟩
 ·simp only [World.cell?,hat]
  have := rel_v g3
  simp only [Nat.mul_one,Nat.add_zero] at g1
  rw [g1]
  obtain ⟨rfl,_⟩:=this
  simp [hj]
 ·have := hB.free f rfl _ hj2
  obtain ⟨lo,hi'⟩:=f
  simp only [World.frozen?,hat,Bool.and_eq_false_iff,decide_eq_false_iff_not]
  simp only at this
  omega
end Go.Proofs.Ytlmjnhnpahicmaa
