/-
 Contracts and words, several texts joined. No conditions.
-/
import Derived.Below
import Derived.Laws.OwnMore
import Derived.Deep.Draws
import Derived.Laws.Rows
import Derived.Laws.MakeOwn
import Derived.Laws.Entries
import Derived.Lib.Hide
import Derived.Test.YtlmjnhnpahicmaaRows
import Derived.WalkKit
import Derived.ProofKit
import Derived.Deep.RegionHeld3
import Derived.Deep.DrawnRows
import Derived.Maps.AppendAt
import Derived.Deep.AppendLies
import Derived.RegionTactic
import Derived.OwnWalk
import Derived.Outline
import Derived.Deep.RegionLaw
namespace Go.Proofs.Ytlmjnhnpahicmaa
open Go.RowKit
def Blk (w:World) (g:Nat) (t:TypeId) (cs:Array Value):Prop:=w.heap[g]? = some (.cells cs t (0,0))
section
variable {w w':World} {g:Nat} {t:TypeId} {cs:Array Value}
theorem Blk.lt (h:Blk w g t cs):g<w.heap.size:=by
 rcases Nat.lt_or_ge g w.heap.size with hlt | hge
 ·exact hlt
 ·unfold Blk at h;rw [Array.getElem?_eq_none hge] at h;cases h
theorem Blk.cell (h:Blk w g t cs) (i:Nat):w.cell? ⟨g,i,none⟩=cs[i]? := cell_of_row w g i cs t (0,0) h
theorem Blk.frozen (h:Blk w g t cs) (i:Nat):w.frozen? ⟨g,i,none⟩=false:=by
 unfold Blk at h
 simp [World.frozen?,h]
theorem Blk.new (w:World) (t:TypeId) (cs:Array Value):Blk (w.alloc (.cells cs t)) w.heap.size t cs:=heap_alloc_new w _
theorem Blk.at_ {n:Nat} (h:w.heap.size=n):Blk (w.alloc (.cells cs t)) n t cs:=h ▸ Blk.new _ _ _
theorem Blk.alloc (h:Blk w g t cs) (o:Obj):Blk (w.alloc o) g t cs:=(Below.heap_alloc w o g h.lt).trans h
theorem Blk.set_ (h:Blk w g t cs) (i:Nat) (u:Value):Blk (w.setCell ⟨g,i,none⟩ u) g t (cs.setIfInBounds i u):=by
 unfold Blk at h ⊢
 simp [World.setCell,Array.getElem?_modify,h]
theorem Blk.far (h:Blk w g t cs) {p:Addr} (hp:g≠p.block) (u:Value):Blk (w.setCell p u) g t cs:=(Below.heap_setCell w p u g hp).trans h
theorem Blk.below {B:Nat} (h:Blk w g t cs) (hb:Below B w w') (hg:g<B):Blk w' g t cs:=(hb.block g hg).trans h
theorem Blk.inj {t':TypeId} {cs':Array Value} (h:Blk w g t cs) (h':Blk w g t' cs'):t=t'/\cs=cs':=by
 unfold Blk at h h'
 rw [h] at h'
 injection h' with h'
 injection h' with h1 h2
 exact ⟨h2,h1⟩
end
structure Fr (lo hi:Nat) (w w':World):Prop where
 os:w'.os=w.os
 tape:w'.tape=w.tape
 output:w'.output=w.output
 size:w.heap.size<=w'.heap.size
 block:∀ k,k<w.heap.size->(k<lo\/hi<=k)->w'.heap[k]? = w.heap[k]?
section
variable {a w w':World} {lo hi l h B:Nat}
theorem Fr.refl (lo hi:Nat) (w:World):Fr lo hi w w:=⟨rfl,rfl,rfl,Nat.le_refl _,fun _ _ _=>rfl⟩
theorem Fr.trans {b c:World} (h:Fr lo hi a b) (k:Fr lo hi b c):Fr lo hi a c:=
 ⟨k.os.trans h.os,k.tape.trans h.tape,k.output.trans h.output,Nat.le_trans h.size k.size,fun i hi hn=>(k.block i (Nat.lt_of_lt_of_le hi h.size) hn).trans (h.block i hi hn)⟩
theorem Fr.mono (f:Fr lo hi w w') (h1:l<=lo) (h2:hi<=h):Fr l h w w':=
 ⟨f.os,f.tape,f.output,f.size,fun k hk hn=>f.block k hk (by omega)⟩
theorem Fr.alloc (f:Fr lo hi a w) (o:Obj):Fr lo hi a (w.alloc o):=
 f.trans ⟨rfl,rfl,rfl,by simp,fun k hk _=>Below.heap_alloc _ _ _ hk⟩
theorem Fr.setCell (f:Fr lo hi a w) {p:Addr} (hp:(lo<=p.block/\p.block<hi)) (u:Value):Fr lo hi a (w.setCell p u):=
 f.trans ⟨rfl,rfl,rfl,by simp [World.setCell],fun k _ hn=>Below.heap_setCell _ _ _ _ (by omega)⟩
theorem Fr.below (f:Fr lo hi w w') (hB:B<=lo) (hs:B<=w.heap.size):Below B w w':=⟨f.os,f.tape,f.output,f.size,fun k hk=>f.block k (by omega) (by omega)⟩
theorem Blk.fr {g:Nat} {t:TypeId} {cs:Array Value} (b:Blk w g t cs) (f:Fr lo hi w w') (hg:g<lo\/hi<=g):Blk w' g t cs:=(f.block g b.lt hg).trans b
theorem Fr.cell (f:Fr lo hi w w') {p:Addr} (hp:p.block<w.heap.size) (hn:p.block<lo\/hi<=p.block):w'.cell? p=w.cell? p:=World.cell?_of_block (w:=w) (f.block p.block hp hn)
end
section
variable {α:Type} (f:α->List Value) (s:Nat)
def Sl (w:World) (lo hi:Nat) (v:Value) (xs:List α):Prop:=
 ∃ A c,v = .slice A xs.length c/\xs.length<=c/\c<=9223372036854775807/\(0<xs.length->∃ b o,A=some ⟨b,o,none⟩/\lo<=b/\b<hi/\b<w.heap.size /\
  ∀ (k:Nat) (h:k<xs.length) (j:Nat) (u:Value),(f xs[k])[j]? = some u->w.cell? ⟨b,o+k*s+j,none⟩=some u)
def Ow (t:TypeId) (w:World) (lo hi:Nat) (v:Value) (xs:List α):Prop:=
 ∃ A c,v = .slice A xs.length c/\xs.length<=c/\c<=9223372036854775807/\(0<xs.length->∃ g cur,A=some ⟨g,0,none⟩/\lo<=g/\g<hi/\Blk w g t cur/\cur.size=c*s /\
  ∀ (k:Nat) (h:k<xs.length) (j:Nat) (u:Value),(f xs[k])[j]? = some u->cur[k*s+j]? = some u)
end
section
variable {α:Type} {f:α->List Value} {s:Nat} {t:TypeId} {w w':World} {lo hi l h B:Nat} {v:Value} {xs:List α}
theorem Sl.nil_ (c:Nat) (A:Option Addr) (hc:c<=9223372036854775807):Sl f s w lo hi (.slice A 0 c) []:=⟨A,c,rfl,by simp,hc,fun h=>absurd h (by simp)⟩
theorem Ow.nil_ (c:Nat) (A:Option Addr) (hc:c<=9223372036854775807):Ow f s t w lo hi (.slice A 0 c) []:=⟨A,c,rfl,by simp,hc,fun h=>absurd h (by simp)⟩
theorem Sl.mono (x:Sl f s w lo hi v xs) (h1:l<=lo) (h2:hi<=h):Sl f s w l h v xs:=by
 obtain ⟨A,c,e,hc,hm,r⟩:=x
 refine ⟨A,c,e,hc,hm,fun hn => ?_⟩
 obtain ⟨b,o,e2,hb1,hb2,hb3,hx⟩:=r hn
 exact ⟨b,o,e2,by omega,by omega,hb3,hx⟩
theorem Ow.mono (x:Ow f s t w lo hi v xs) (h1:l<=lo) (h2:hi<=h):Ow f s t w l h v xs:=by
 obtain ⟨A,c,e,hc,hm,r⟩:=x
 refine ⟨A,c,e,hc,hm,fun hn => ?_⟩
 obtain ⟨b,o,e2,hb1,hb2,hx⟩:=r hn
 exact ⟨b,o,e2,by omega,by omega,hx⟩
theorem Sl.keep (x:Sl f s w lo hi v xs) (hs:w.heap.size<=w'.heap.size) (hk:∀ k,k<w.heap.size->lo<=k->k<hi->w'.heap[k]? = w.heap[k]?):Sl f s w' lo hi v xs:=by
 obtain ⟨A,c,e,hc,hm,r⟩:=x
 refine ⟨A,c,e,hc,hm,fun hn => ?_⟩
 obtain ⟨b,o,e2,hb1,hb2,hb3,hx⟩:=r hn
 refine ⟨b,o,e2,hb1,hb2,by omega,fun k hk' j u hu => ?_⟩
 rw [World.cell?_of_block (hk b hb3 hb1 hb2)]
 exact hx k hk' j u hu
theorem Ow.keep (x:Ow f s t w lo hi v xs) (hk:∀ k,k<w.heap.size->lo<=k->k<hi->w'.heap[k]? = w.heap[k]?):Ow f s t w' lo hi v xs:=by
 obtain ⟨A,c,e,hc,hm,r⟩:=x
 refine ⟨A,c,e,hc,hm,fun hn => ?_⟩
 obtain ⟨g,cur,e2,hb1,hb2,hb3,hx⟩:=r hn
 exact ⟨g,cur,e2,hb1,hb2,(hk g hb3.lt hb1 hb2).trans hb3,hx⟩
theorem Sl.below (x:Sl f s w lo hi v xs) (b:Below B w w') (hB:hi<=B):Sl f s w' lo hi v xs:=x.keep b.size fun k _ _ h2=>b.block k (by omega)
theorem Ow.below (x:Ow f s t w lo hi v xs) (b:Below B w w') (hB:hi<=B):Ow f s t w' lo hi v xs:=x.keep fun k _ _ h2=>b.block k (by omega)
theorem Sl.fr (x:Sl f s w lo hi v xs) (b:Fr l h w w') (hB:hi<=l\/h<=lo):Sl f s w' lo hi v xs:=x.keep b.size fun k hk h1 h2=>b.block k hk (by omega)
theorem Ow.fr (x:Ow f s t w lo hi v xs) (b:Fr l h w w') (hB:hi<=l\/h<=lo):Ow f s t w' lo hi v xs:=x.keep fun k hk h1 h2=>b.block k hk (by omega)
theorem Ow.sl (x:Ow f s t w lo hi v xs):Sl f s w lo hi v xs:=by
 obtain ⟨A,c,e,hc,hm,r⟩:=x
 refine ⟨A,c,e,hc,hm,fun hn => ?_⟩
 obtain ⟨g,cur,e2,hb1,hb2,hb3,_,hx⟩:=r hn
 refine ⟨g,0,e2,hb1,hb2,hb3.lt,fun k hk j u hu => ?_⟩
 rw [Nat.zero_add,hb3.cell]
 exact hx k hk j u hu
end
def val1 (v:Value):List Value:=[v]
def int1 (n:Int):List Value:=[.int .i64 n]
section
variable {α:Type} {g:α->Value} {f:α->List Value} {s:Nat} {w:World} {lo hi:Nat} {v:Value}
theorem Sl.one_ {xs:List α} (hf:∀ x,f x=[g x]) (x:Sl f 1 w lo hi v xs):∃ A c,v = .slice A xs.length c/\xs.length<=c/\c<=9223372036854775807/\(0<xs.length->∃ b o,A=some ⟨b,o,none⟩/\lo<=b/\b<hi/\b<w.heap.size /\
  ∀ (k:Nat) (h:k<xs.length),w.cell? ⟨b,o+k,none⟩=some (g xs[k])):=by
 obtain ⟨A,c,e,hc,hm,r⟩:=x
 refine ⟨A,c,e,hc,hm,fun hn => ?_⟩
 obtain ⟨b,o,e2,hb1,hb2,hb3,hx⟩:=r hn
 refine ⟨b,o,e2,hb1,hb2,hb3,fun k hk => ?_⟩
 have := hx k hk 0 (g xs[k]) (by rw [hf];rfl)
 simpa using this
theorem Sl.vals {xs:List Value} (x:Sl val1 1 w lo hi v xs):∃ A c,v = .slice A xs.length c/\xs.length<=c/\c<=9223372036854775807/\(0<xs.length->∃ b o,A=some ⟨b,o,none⟩/\lo<=b/\b<hi/\b<w.heap.size /\
  ∀ (k:Nat) (h:k<xs.length),w.cell? ⟨b,o+k,none⟩=some xs[k]):=Sl.one_ (g:=fun v=>v) (fun _=>rfl) x
theorem Sl.ints {xs:List Int} (x:Sl int1 1 w lo hi v xs):∃ A c,v = .slice A xs.length c/\xs.length<=c/\c<=9223372036854775807/\(0<xs.length->∃ b o,A=some ⟨b,o,none⟩/\lo<=b/\b<hi/\b<w.heap.size /\
  ∀ (k:Nat) (h:k<xs.length),w.cell? ⟨b,o+k,none⟩=some (.int .i64 xs[k])):=Sl.one_ (g:=fun v => .int .i64 v) (fun _=>rfl) x
end
structure Ins where
 op:Int
 loc:Int
 reg:Int
 val:Int
 deriving DecidableEq,Inhabited
def Ins.v (x:Ins):Value := .agg #[.int .i64 x.op,.int .i64 x.loc,.int .i64 x.reg,.int .i64 x.val]
def Ins.cells (x:Ins):List Value:=[.int .i64 x.op,.int .i64 x.loc,.int .i64 x.reg,.int .i64 x.val]
def Ins.eqB (x y:Ins):Bool:=x.op==y.op&&x.loc==y.loc&&x.reg==y.reg&&x.val==y.val
theorem Ins.eqB_iff (x y:Ins):x.eqB y=true↔x=y:=by
 obtain ⟨a,b,c,d⟩:=x
 obtain ⟨a',b',c',d'⟩:=y
 simp [Ins.eqB,and_assoc]
def InsAt (w:World) (b o:Nat) (x:Ins):Prop:=
 w.cell? ⟨b,o,none⟩=some (.int .i64 x.op)/\w.cell? ⟨b,o+1,none⟩=some (.int .i64 x.loc)/\w.cell? ⟨b,o+2,none⟩=some (.int .i64 x.reg)/\w.cell? ⟨b,o+3,none⟩=some (.int .i64 x.val)
def HasIns (cs:Array Value) (o:Nat) (x:Ins):Prop:=cs[o]? = some (.int .i64 x.op)/\cs[o+1]? = some (.int .i64 x.loc)/\cs[o+2]? = some (.int .i64 x.reg)/\cs[o+3]? = some (.int .i64 x.val)
def setIns (cs:Array Value) (o:Nat) (x:Ins):Array Value:=(((cs.setIfInBounds o (.int .i64 x.op)).setIfInBounds (o+1) (.int .i64 x.loc)).setIfInBounds (o+2) (.int .i64 x.reg)).setIfInBounds (o+3) (.int .i64 x.val)
section
variable {w w':World} {b o p:Nat} {x y:Ins} {cs:Array Value} {t:TypeId} {g B lo hi:Nat} {v:Value} {xs:List Ins}
theorem InsAt.below (h:InsAt w b o x) (hb:Below B w w') (hlt:b<B):InsAt w' b o x:=by
 unfold InsAt at *
 rw [hb.cell (by exact hlt),hb.cell (by exact hlt),hb.cell (by exact hlt),hb.cell (by exact hlt)]
 exact h
theorem size_setIns (cs:Array Value) (o:Nat) (x:Ins):(setIns cs o x).size=cs.size:=by simp [setIns]
theorem HasIns.same (h:o+4<=cs.size):HasIns (setIns cs o x) o x:=by
 unfold HasIns setIns
 refine ⟨?_,?_,?_,?_⟩ <;> simp [Array.getElem?_setIfInBounds] <;> omega
theorem HasIns.far (h:HasIns cs o x) (hf:o+4<=p\/p+4<=o):HasIns (setIns cs p y) o x:=by
 unfold HasIns setIns at *
 obtain ⟨h1,h2,h3,h4⟩:=h
 refine ⟨?_,?_,?_,?_⟩
 ·rw [Array.getElem?_setIfInBounds_ne (by omega),Array.getElem?_setIfInBounds_ne (by omega),Array.getElem?_setIfInBounds_ne (by omega),Array.getElem?_setIfInBounds_ne (by omega)];exact h1
 ·rw [Array.getElem?_setIfInBounds_ne (by omega),Array.getElem?_setIfInBounds_ne (by omega),Array.getElem?_setIfInBounds_ne (by omega),Array.getElem?_setIfInBounds_ne (by omega)];exact h2
 ·rw [Array.getElem?_setIfInBounds_ne (by omega),Array.getElem?_setIfInBounds_ne (by omega),Array.getElem?_setIfInBounds_ne (by omega),Array.getElem?_setIfInBounds_ne (by omega)];exact h3
 ·rw [Array.getElem?_setIfInBounds_ne (by omega),Array.getElem?_setIfInBounds_ne (by omega),Array.getElem?_setIfInBounds_ne (by omega),Array.getElem?_setIfInBounds_ne (by omega)];exact h4
theorem HasIns.cells {k:Nat} (h:HasIns cs k x):∀ (j:Nat) (u:Value),x.cells[j]? = some u->cs[k+j]? = some u:=by
 intro j u hu
 match j,hu with
 | 0,hu=>simp [Ins.cells] at hu;subst hu;exact h.1
 | 1,hu=>simp [Ins.cells] at hu;subst hu;exact h.2.1
 | 2,hu=>simp [Ins.cells] at hu;subst hu;exact h.2.2.1
 | 3,hu=>simp [Ins.cells] at hu;subst hu;exact h.2.2.2
 | n+4,hu=>simp [Ins.cells] at hu
theorem Sl.inss (x:Sl Ins.cells 4 w lo hi v xs):∃ A c,v = .slice A xs.length c/\xs.length<=c/\c<=9223372036854775807/\(0<xs.length->∃ b o,A=some ⟨b,o,none⟩/\lo<=b/\b<hi/\b<w.heap.size /\
  ∀ (k:Nat) (h:k<xs.length),InsAt w b (o+k*4) xs[k]):=by
 obtain ⟨A,c,e,hc,hm,r⟩:=x
 refine ⟨A,c,e,hc,hm,fun hn => ?_⟩
 obtain ⟨b,o,e2,hb1,hb2,hb3,hx⟩:=r hn
 exact ⟨b,o,e2,hb1,hb2,hb3,fun k hk=>⟨hx k hk 0 _ rfl,hx k hk 1 _ rfl,hx k hk 2 _ rfl,hx k hk 3 _ rfl⟩⟩
end
section
variable {α:Type} (f:α->List Value) (s:Nat)
def SlSl (w:World) (lo hi:Nat) (v:Value) (p:List (List α)):Prop:=
 ∃ vs:List Value,Sl val1 1 w lo hi v vs/\vs.length=p.length/\∀ (k:Nat) (h:k<vs.length) (h':k<p.length),Sl f s w lo hi vs[k] p[k]
def OwOw (to ti:TypeId) (w:World) (lo hi:Nat) (v:Value) (p:List (List α)):Prop:=
 ∃ vs:List Value,Ow val1 1 to w lo hi v vs/\vs.length=p.length/\(∀ (k:Nat) (h:k<vs.length) (h':k<p.length),Ow f s ti w lo hi vs[k] p[k]) /\
  ∀ (i j:Nat) (hi:i<vs.length) (hj:j<vs.length) (hi':i<p.length) (hj':j<p.length),i≠j->0<p[i].length->0<p[j].length->vs[i].ownBlock≠vs[j].ownBlock
end
section
variable {α:Type} {f:α->List Value} {s:Nat} {to ti:TypeId} {w w':World} {lo hi l h B:Nat} {v:Value} {p:List (List α)}
theorem SlSl.keep (x:SlSl f s w lo hi v p) (hs:w.heap.size<=w'.heap.size) (hk:∀ k,k<w.heap.size->lo<=k->k<hi->w'.heap[k]? = w.heap[k]?):SlSl f s w' lo hi v p:=by
 obtain ⟨vs,h1,h2,h3⟩:=x
 exact ⟨vs,h1.keep hs hk,h2,fun k a b=>(h3 k a b).keep hs hk⟩
theorem OwOw.keep (x:OwOw f s to ti w lo hi v p) (hk:∀ k,k<w.heap.size->lo<=k->k<hi->w'.heap[k]? = w.heap[k]?):OwOw f s to ti w' lo hi v p:=by
 obtain ⟨vs,h1,h2,h3,h4⟩:=x
 exact ⟨vs,h1.keep hk,h2,fun k a b=>(h3 k a b).keep hk,h4⟩
theorem SlSl.mono (x:SlSl f s w lo hi v p) (h1:l<=lo) (h2:hi<=h):SlSl f s w l h v p:=by
 obtain ⟨vs,g1,g2,g3⟩:=x
 exact ⟨vs,g1.mono h1 h2,g2,fun k a b=>(g3 k a b).mono h1 h2⟩
theorem OwOw.mono (x:OwOw f s to ti w lo hi v p) (h1:l<=lo) (h2:hi<=h):OwOw f s to ti w l h v p:=by
 obtain ⟨vs,g1,g2,g3,g4⟩:=x
 exact ⟨vs,g1.mono h1 h2,g2,fun k a b=>(g3 k a b).mono h1 h2,g4⟩
theorem SlSl.below (x:SlSl f s w lo hi v p) (b:Below B w w') (hB:hi<=B):SlSl f s w' lo hi v p:=x.keep b.size fun k _ _ h2=>b.block k (by omega)
theorem OwOw.below (x:OwOw f s to ti w lo hi v p) (b:Below B w w') (hB:hi<=B):OwOw f s to ti w' lo hi v p:=x.keep fun k _ _ h2=>b.block k (by omega)
theorem SlSl.fr (x:SlSl f s w lo hi v p) (b:Fr l h w w') (hB:hi<=l\/h<=lo):SlSl f s w' lo hi v p:=x.keep b.size fun k hk h1 h2=>b.block k hk (by omega)
theorem OwOw.fr (x:OwOw f s to ti w lo hi v p) (b:Fr l h w w') (hB:hi<=l\/h<=lo):OwOw f s to ti w' lo hi v p:=x.keep fun k hk h1 h2=>b.block k hk (by omega)
theorem OwOw.sl (x:OwOw f s to ti w lo hi v p):SlSl f s w lo hi v p:=by
 obtain ⟨vs,h1,h2,h3,_⟩:=x
 exact ⟨vs,h1.sl,h2,fun k a b=>(h3 k a b).sl⟩
end
theorem run_make_rowN {P:Program} (t e:TypeId) (i:TypeInfo) (z:Value) (ht:P.underlying t=some (.slice e)) (hi:P.info? e=some i) (hz:i.zero=some z)
  (kl kc:IntKind) (n c:Nat) (hnc:n<=c) (hbytes:i.bytes*c<=281474976710656) (h63:c<=9223372036854775807) (w:World) :
  (Instr.makeSlice t (.int kl (n:Int)) (.int kc (c:Int))).run P w = .ok (.slice (some ⟨w.heap.size,0,none⟩) n c) (w.alloc (.cells (madeCells z.cells (c*i.size)) e)):=by
 have hb:(i.bytes:Int)*(c:Int)<=281474976710656:=by
  have h:((i.bytes*c:Nat):Int)<=281474976710656:=by omega
  rwa [Int.natCast_mul] at h
 have hr:=run_make (P:=P) w t e i z ht hi hz kl kc n c (by omega) (by omega) hb (by omega)
 simp only [Int.toNat_natCast] at hr
 exact hr
theorem take_succ_get {α:Type} (xs:List α) (k:Nat) (h:k<xs.length):xs.take (k+1)=xs.take k++[xs[k]]:=by
 rw [List.take_succ_eq_append_getElem h]
theorem take_eq_step {α:Type} {xs ys:List α} {k:Nat} (h:k<xs.length) (h':k<ys.length) (e:xs.take k=ys.take k) (e2:xs[k]=ys[k]):xs.take (k+1)=ys.take (k+1):=by
 rw [take_succ_get _ _ h,take_succ_get _ _ h',e,e2]
theorem take_all_eq {α:Type} {xs ys:List α} (hl:xs.length=ys.length) (e:xs.take xs.length=ys.take xs.length):xs=ys:=by
 rw [List.take_length,hl,List.take_length] at e
 exact e
def upd {α:Type} (G:Nat->α) (k:Nat) (v:α):Nat->α:=fun j=>if j=k then v else G j
theorem upd_same {α:Type} (G:Nat->α) (k:Nat) (v:α):upd G k v k=v:=if_pos rfl
theorem upd_ne {α:Type} (G:Nat->α) {k j:Nat} (v:α) (h:j≠k):upd G k v j=G j:=if_neg h
theorem set_get_same {cs:Array Value} {i:Nat} {u:Value} (h:i<cs.size):(cs.setIfInBounds i u)[i]? = some u:=by simp [h]
theorem set_get_ne {cs:Array Value} {i j:Nat} {u:Value} (h:i≠j):(cs.setIfInBounds i u)[j]? = cs[j]? := by rw [Array.getElem?_setIfInBounds_ne h]
theorem ret_bool {a b:Bool} (h:a=b):Ending.returned (.bool a)=Ending.returned (.bool b):=by rw [h]
theorem ret_int {k:IntKind} {a b:Int} (h:a=b):Ending.returned (.int k a) = .returned (.int k b):=by rw [h]
end Go.Proofs.Ytlmjnhnpahicmaa
namespace Go.Proofs.Ytlmjnhnpahicmaa
open Go.ChangeShapes Go.WideShapes Go.ChangeAt Go.RowKit
set_option maxRecDepth 100000
theorem eqInstr_any (x y:Ins) (w:World) :
  Calls Try.prog 101 #[x.v,y.v] w fun e w'=>e = .returned (.bool (x.eqB y))/\Below w.heap.size w w':=by
 obtain ⟨a,b,c,d⟩:=x
 obtain ⟨a',b',c',d'⟩:=y
 unfold Ins.v Ins.eqB
 go_enter Try.func101,Try.ntmps101
 go_wp2
 all_goals
  go_ret
  refine ⟨?_,((Below.refl _ _).alloc (Nat.le_refl _) _).alloc (by simp) _⟩
  simp_all
theorem toInstr_any (x:Ins) (w:World) :
  Calls Try.prog 86 #[x.v] w fun e w'=>e = .returned x.v/\Below w.heap.size w w':=by
 obtain ⟨a,b,c,d⟩:=x
 unfold Ins.v
 go_enter Try.func86,Try.ntmps86
 go_wp2
 refine bodyPost_ret (v:=.agg #[.int .i64 a,.int .i64 b,.int .i64 c,.int .i64 d]) (by simp [results,Try.results86,go_sem]) rfl ⟨rfl,?_⟩
 exact (((Below.refl _ _).alloc (Nat.le_refl _) _).alloc (by simp) _).alloc (by simp;omega) _
theorem Try.infoIns:(Try.prog.info? 56).map (fun i=>(i.zero,i.size,i.bytes))=some (some (.agg #[.int .i64 0,.int .i64 0,.int .i64 0,.int .i64 0]),4,32):=by kernel_rfl
theorem Try.infoInsS:(Try.prog.info? 57).map (fun i=>(i.zero,i.size,i.bytes))=some (some (.slice none 0 0),1,24):=by kernel_rfl
theorem eqInstrS_any {lo hi lo' hi':Nat} {u v:Value} {xs ys:List Ins} {w:World} (hu:Sl Ins.cells 4 w lo hi u xs) (hv:Sl Ins.cells 4 w lo' hi' v ys) :
  Calls Try.prog 53 #[u,v] w fun e w'=>e = .returned (.bool (decide (xs=ys)))/\Below w.heap.size w w':=by
 obtain ⟨A,ca,rfl,hca,hma,hA⟩:=hu.inss
 obtain ⟨B,cb,rfl,hcb,hmb,hB⟩:=hv.inss
 by_cases hl:xs.length=ys.length
 ·have hl':((xs.length:Int) != (ys.length:Int))=false:=by simp [hl]
  have HL:=Lib.hid hl;clear hl
  go_enter Try.func53,Try.ntmps53
  go_wp2
  go_loopw [5] (fun i wr=>∃ k:Nat,k<=xs.length/\i = .int .i64 k/\Below w.heap.size w wr/\xs.take k=ys.take k) (fun i _=>xs.length-(intOf i).toNat)
  case atStart=>exact ⟨0,Nat.zero_le _,rfl,Below.refl _ _,rfl⟩
  case round=>
   obtain ⟨k,hk,rfl,hb,he⟩:=hrel
   have HE:=Lib.hid he;clear he
   by_cases hlt:k<xs.length
   ·obtain ⟨ba,oa,rfl,_,_,hba,hA⟩:=hA (by omega)
    have hlt2:k<ys.length:=HL.out ▸ hlt
    obtain ⟨bb,ob,rfl,_,_,hbb,hB⟩:=hB (by omega)
    have ca1:=(hA k hlt).below hb hba
    have cb1:=(hB k hlt2).below hb hbb
    clear hA hB
    have cda:InsAt wr.drew ba (oa+k*4) xs[k]:=ca1
    have cdb:InsAt wr.drew bb (ob+k*4) ys[k]:=cb1
    have hba':ba<wr.heap.size:=Nat.lt_of_lt_of_le hba hb.size
    have hbb':bb<wr.heap.size:=Nat.lt_of_lt_of_le hbb hb.size
    have i1:(0:Int)<=(k:Int):=by omega
    have i2:(k:Int)<(xs.length:Int):=by omega
    have i3:(k:Int)<(ys.length:Int):=by omega
    go_wp2_with fail
    go_region_held3 (fun w'=>w'.cell? ⟨ba,oa+k*4,none⟩=some (.int .i64 xs[k].op)/\w'.cell? ⟨ba,oa+k*4+1,none⟩=some (.int .i64 xs[k].loc)/\w'.cell? ⟨ba,oa+k*4+2,none⟩=some (.int .i64 xs[k].reg)/\w'.cell? ⟨ba,oa+k*4+3,none⟩=some (.int .i64 xs[k].val)/\w'.cell? ⟨bb,ob+k*4,none⟩=some (.int .i64 ys[k].op)/\w'.cell? ⟨bb,ob+k*4+1,none⟩=some (.int .i64 ys[k].loc)/\w'.cell? ⟨bb,ob+k*4+2,none⟩=some (.int .i64 ys[k].reg)/\w'.cell? ⟨bb,ob+k*4+3,none⟩=some (.int .i64 ys[k].val))
     (first | exact ⟨ca1.1,ca1.2.1,ca1.2.2.1,ca1.2.2.2,cb1⟩ | exact ⟨(cda.below hq1 hba').1,(cda.below hq1 hba').2.1,(cda.below hq1 hba').2.2.1,(cda.below hq1 hba').2.2.2,cdb.below hq1 hbb'⟩)
     ((go_at_call 101;refine (eqInstr_any xs[k] ys[k] _).mono ?_;rintro e w1 ⟨rfl,hq1⟩))
    have hbw:Below w.heap.size w w1:=hb.drew.trans (hq1.mono hb.size)
    go_wp2
    ·have h1:(!xs[k].eqB ys[k])=true:=by assumption
     have hne:xs≠ys:=fun e=>by subst e;simp [(Ins.eqB_iff xs[k] xs[k]).2 rfl] at h1
     go_ret
     exact ⟨ret_bool (by simp [hne]),hbw⟩
    ·have h1:(!xs[k].eqB ys[k])=false:=by assumption
     have heq:xs[k]=ys[k]:=(Ins.eqB_iff _ _).1 (by simpa using h1)
     go_roundw
     case rel=>exact ⟨k+1,by omega,by go_num,hbw,take_eq_step hlt hlt2 HE.out heq⟩
     case measure=>simp [intOf];omega
   ·have : k=xs.length:=by omega
    subst this
    have hfin:=take_all_eq HL.out HE.out
    have HF:=Lib.hid hfin;clear hfin
    go_wp2
    go_ret
    exact ⟨ret_bool (by simp [HF.out]),hb⟩
 ·have hl':((xs.length:Int) != (ys.length:Int))=true:=by simp;omega
  have hne:xs≠ys:=fun e=>hl (by rw [e])
  have HNE:=Lib.hid hne;clear hne hl
  go_enter Try.func53,Try.ntmps53
  go_wp2
  go_ret
  exact ⟨ret_bool (by simp [HNE.out]),Below.refl _ _⟩
theorem eqInstrSS_any {lo hi lo' hi':Nat} {u v:Value} {p q:List (List Ins)} {w:World} (hu:SlSl Ins.cells 4 w lo hi u p) (hv:SlSl Ins.cells 4 w lo' hi' v q) (hhi:hi<=w.heap.size) (hhi':hi'<=w.heap.size) :
  Calls Try.prog 17 #[u,v] w fun e w'=>e = .returned (.bool (decide (p=q)))/\Below w.heap.size w w':=by
 obtain ⟨xs,hxs,hxl,hxr⟩:=hu
 obtain ⟨ys,hys,hyl,hyr⟩:=hv
 obtain ⟨A,ca,rfl,hca,hma,hA⟩:=hxs.vals
 obtain ⟨B,cb,rfl,hcb,hmb,hB⟩:=hys.vals
 clear hxs hys
 by_cases hl:xs.length=ys.length
 ·have hl':((xs.length:Int) != (ys.length:Int))=false:=by simp [hl]
  have HL:=Lib.hid hl;clear hl
  have HX:=Lib.hid hxl;clear hxl
  have HY:=Lib.hid hyl;clear hyl
  go_enter Try.func17,Try.ntmps17
  go_wp2
  go_loopw [5] (fun i wr=>∃ k:Nat,k<=xs.length/\i = .int .i64 k/\Below w.heap.size w wr/\p.take k=q.take k) (fun i _=>xs.length-(intOf i).toNat)
  case atStart=>exact ⟨0,Nat.zero_le _,rfl,Below.refl _ _,rfl⟩
  case round=>
   obtain ⟨k,hk,rfl,hb,he⟩:=hrel
   have HE:=Lib.hid he;clear he
   by_cases hlt:k<xs.length
   ·obtain ⟨ba,oa,rfl,_,_,hba,hA⟩:=hA (by omega)
    have hlt2:k<ys.length:=HL.out ▸ hlt
    have hp:k<p.length:=HX.out ▸ hlt
    have hq:k<q.length:=HY.out ▸ hlt2
    obtain ⟨bb,ob,rfl,_,_,hbb,hB⟩:=hB (by omega)
    have ca1:=(hb.cell (p:=⟨ba,oa+k,none⟩) hba).trans (hA k hlt)
    have cb1:=(hb.cell (p:=⟨bb,ob+k,none⟩) hbb).trans (hB k hlt2)
    have rx:=((hxr k hlt hp).below hb hhi)
    have ry:=((hyr k hlt2 hq).below hb hhi')
    clear hA hB
    have hba':ba<wr.heap.size:=Nat.lt_of_lt_of_le hba hb.size
    have hbb':bb<wr.heap.size:=Nat.lt_of_lt_of_le hbb hb.size
    have i1:(0:Int)<=(k:Int):=by omega
    have i2:(k:Int)<(xs.length:Int):=by omega
    have i3:(k:Int)<(ys.length:Int):=by omega
    have HRX:=Lib.hid rx;clear rx
    have HRY:=Lib.hid ry;clear ry
    have HXR:=Lib.hid hxr;clear hxr
    have HYR:=Lib.hid hyr;clear hyr
    go_wp2_with fail
    go_region_held3 (fun w'=>w'.cell? ⟨ba,oa+k,none⟩=some xs[k]/\w'.cell? ⟨bb,ob+k,none⟩=some ys[k])
     (first | exact ⟨ca1,cb1⟩ | exact ⟨(hq1.cell (p:=⟨ba,oa+k,none⟩) hba').trans ca1,(hq1.cell (p:=⟨bb,ob+k,none⟩) hbb').trans cb1⟩)
     ((go_at_call 53;refine (eqInstrS_any (w:=wr.drew) HRX.out HRY.out).mono ?_;rintro e w1 ⟨rfl,hq1⟩))
    have hbw:Below w.heap.size w w1:=hb.drew.trans (hq1.mono hb.size)
    go_wp2
    ·have h1:(!decide (p[k]=q[k]))=true:=by assumption
     have hne:p≠q:=fun e=>by subst e;simp at h1
     go_ret
     exact ⟨ret_bool (by simp [hne]),hbw⟩
    ·have h1:(!decide (p[k]=q[k]))=false:=by assumption
     have heq:p[k]=q[k]:=by simpa using h1
     go_roundw
     case rel=>exact ⟨k+1,by omega,by go_num,hbw,take_eq_step hp hq HE.out heq⟩
     case measure=>simp [intOf];omega
   ·have : k=xs.length:=by omega
    subst this
    have hfin:p=q:=take_all_eq (by rw [<- HX.out,<- HY.out,HL.out]) (by rw [<- HX.out];exact HE.out)
    have HF:=Lib.hid hfin;clear hfin
    go_wp2
    go_ret
    exact ⟨ret_bool (by simp [HF.out]),hb⟩
 ·have hl':((xs.length:Int) != (ys.length:Int))=true:=by simp;omega
  have hne:p≠q:=fun e=>hl (by rw [hxl,hyl,e])
  have HNE:=Lib.hid hne;clear hne hl hxl hyl
  go_enter Try.func17,Try.ntmps17
  go_wp2
  go_ret
  exact ⟨ret_bool (by simp [HNE.out]),Below.refl _ _⟩
end Go.Proofs.Ytlmjnhnpahicmaa
namespace Go.Proofs.Ytlmjnhnpahicmaa
open Go.ChangeShapes Go.WideShapes Go.ChangeAt Go.RowKit
set_option maxRecDepth 100000
theorem toInstrS_any {lo hi:Nat} {u:Value} {xs:List Ins} {w:World} (hu:Sl Ins.cells 4 w lo hi u xs) (hx:xs.length<=1048576) :
  Calls Try.prog 46 #[u] w fun e w'=>(∃ v,e = .returned v/\v = .slice (some ⟨w.heap.size,0,none⟩) xs.length xs.length/\Ow Ins.cells 4 56 w' w.heap.size (w.heap.size+1) v xs/\w.heap.size<w'.heap.size)/\Below w.heap.size w w':=by
 obtain ⟨A,ca,rfl,hca,hma,hA⟩:=hu.inss
 clear hma
 obtain ⟨i0,hi0,hz0,hz1,hz2⟩:=info_parts Try.infoIns
 have hmk:=fun W=>run_make_rowN (P:=Try.prog) 57 56 i0 _ Try.underlying57 hi0 hz0 .i64 .i64 xs.length xs.length (Nat.le_refl _) (by rw [hz2];omega) (by omega) W
 rw [hz1] at hmk
 go_enter Try.func46,Try.ntmps46
 go_wp2_with fail
 clear hmk
 go_loopw [4] (fun i wr=>∃ (k:Nat) (cs:Array Value),k<=xs.length/\i = .int .i64 k/\Below w.heap.size w wr/\Blk wr w.heap.size 56 cs/\cs.size=xs.length*4/\∀ j (h:j<xs.length),j<k->HasIns cs (j*4) xs[j]) (fun i _=>xs.length-(intOf i).toNat)
 case atStart=>
  exact ⟨0,_,Nat.zero_le _,rfl,(Below.refl _ _).alloc (Nat.le_refl _) _,Blk.new _ _ _,size_madeCells _ _,fun j _ h=>absurd h (by omega)⟩
 case round=>
  obtain ⟨k,cs,hk,rfl,hb,hB,hcs,hin⟩:=hrel
  have HI:=Lib.hid hin;clear hin
  have HB:=Lib.hid hB;have HCS:=Lib.hid hcs
  have hgl:=hB.lt
  clear hB hcs
  by_cases hlt:k<xs.length
  ·obtain ⟨ba,oa,rfl,_,_,hba,hA⟩:=hA (by omega)
   have ca1:=(hA k hlt).below hb hba
   clear hA
   have i1:(0:Int)<=(k:Int):=by omega
   have i2:(k:Int)<(xs.length:Int):=by omega
   obtain ⟨c1,c2,c3,c4⟩:=ca1
   go_wp2_with fail
   refine (toInstr_any xs[k] _).mono ?_
   rintro e w1 ⟨rfl,hq1⟩
   have B1:=HB.out.below hq1 hgl
   have hz:k*4+4<=cs.size:=by rw [HCS.out];omega
   have f0:=B1.frozen (k*4)
   have f1:=B1.frozen (k*4+1)
   have f2:=B1.frozen (k*4+2)
   have f3:=B1.frozen (k*4+3)
   have e0:=B1.cell (k*4)
   have e1:=B1.cell (k*4+1)
   have e2:=B1.cell (k*4+2)
   have e3:=B1.cell (k*4+3)
   rw [Array.getElem?_eq_getElem (by omega)] at e0 e1 e2 e3
   have HB1:=Lib.hid B1;clear B1
   unfold Ins.v
   go_wp2_with fail
   go_roundw
   case rel=>
    refine ⟨k+1,setIns cs (k*4) xs[k],by omega,by go_num,?_,?_,?_,?_⟩
    ·exact ((((hb.trans (hq1.mono hb.size)).setCell (by simp) _).setCell (by simp) _).setCell (by simp) _).setCell (by simp) _
    ·exact (((HB1.out.set_ _ _).set_ _ _).set_ _ _).set_ _ _
    ·rw [size_setIns];exact HCS.out
    ·intro j h hj
     by_cases e:j=k
     ·subst e;exact HasIns.same hz
     ·exact (HI.out j h (by omega)).far (by omega)
   case measure=>simp [intOf];omega
  ·go_wp2
   go_ret
   refine ⟨⟨_,rfl,rfl,⟨_,_,rfl,Nat.le_refl _,by omega,fun _=>⟨w.heap.size,cs,rfl,Nat.le_refl _,by omega,HB.out,HCS.out,fun j hj i u hu => ?_⟩⟩,hgl⟩,hb⟩
   exact (HI.out j hj (by omega)).cells i u hu
theorem szInstrS_any {u:Value} {n:Nat} {A:Option Addr} {c:Nat} {m:Int} {w:World} (hu:u = .slice A n c) (hn:n<=9223372036854775807) (hm0:0<=m) (hm1:m<=1048576) :
  Calls Try.prog 43 #[u,.int .i64 m] w fun e w'=>e = .returned (.int .i64 (if m<n then -1 else m-n))/\w=w':=by
 subst hu
 by_cases hl:m<n
 ·rw [if_pos hl]
  go_enter Try.func43,Try.ntmps43
  go_wp2
  go_ret
  exact ⟨rfl,rfl⟩
 ·rw [if_neg hl]
  go_enter Try.func43,Try.ntmps43
  go_wp2
  go_ret
  exact ⟨rfl,rfl⟩
def total {α:Type} (p:List (List α)):Nat:=(p.map List.length).sum
theorem total_take_succ {α:Type} (p:List (List α)) (k:Nat) (h:k<p.length):total (p.take (k+1))=total (p.take k)+p[k].length:=by
 unfold total
 rw [take_succ_get _ _ h,List.map_append,List.sum_append]
 simp
theorem total_take_le {α:Type} (p:List (List α)) (k:Nat):total (p.take k)<=total p:=by
 unfold total
 conv=>rhs;rw [<- List.take_append_drop k p,List.map_append,List.sum_append]
 omega
theorem row_le_total {α:Type} (p:List (List α)) (k:Nat) (h:k<p.length):p[k].length<=total p:=by
 have h1:=total_take_succ p k h
 have h2:=total_take_le p (k+1)
 omega
end Go.Proofs.Ytlmjnhnpahicmaa
namespace Go.Proofs.Ytlmjnhnpahicmaa
open Go.ChangeShapes Go.WideShapes Go.ChangeAt Go.RowKit
set_option maxRecDepth 100000
theorem OwOw.made {α:Type} {f:α->List Value} {s:Nat} {to ti:TypeId} {w:World} {lo hi g c:Nat} {cs:Array Value} {p:List (List α)} {G C:Nat->Nat}
  (hB:Blk w g to cs) (hg:lo<=g/\g<hi) (hc:cs.size=c) (hpc:p.length<=c) (hc63:c<=9223372036854775807)
  (hrow:∀ j (h:j<p.length),lo<=G j/\G j<hi/\cs[j]? = some (.slice (some ⟨G j,0,none⟩) p[j].length (C j))/\Ow f s ti w (G j) (G j+1) (.slice (some ⟨G j,0,none⟩) p[j].length (C j)) p[j])
  (hinj:∀ i j,i<p.length->j<p.length->i≠j->G i≠G j):OwOw f s to ti w lo hi (.slice (some ⟨g,0,none⟩) p.length c) p:=by
 have hcl:p.length<=cs.toList.length:=by simp;omega
 have hlen:(cs.toList.take p.length).length=p.length:=by simp;omega
 have hget:∀ j (h:j<(cs.toList.take p.length).length) (h':j<p.length),(cs.toList.take p.length)[j] = .slice (some ⟨G j,0,none⟩) p[j].length (C j):=by
  intro j h h'
  have h2:=(hrow j h').2.2.1
  rw [List.getElem_take]
  rw [Array.getElem?_eq_some_iff] at h2
  obtain ⟨_,h2⟩:=h2
  simpa using h2
 refine ⟨cs.toList.take p.length,⟨_,c,by rw [hlen],by rw [hlen];exact hpc,hc63,fun _=>⟨g,cs,rfl,hg.1,hg.2,hB,by omega,fun k h j u hu => ?_⟩⟩,hlen,fun k h h' => ?_,fun i j hi hj hi' hj' hne _ _ => ?_⟩
 ·match j,hu with
  | 0,hu=>
   simp only [val1,List.getElem?_cons_zero,Option.some.injEq] at hu
   rw [<- hu,Nat.mul_one,Nat.add_zero,hget k h (by omega)]
   exact (hrow k (by omega)).2.2.1
  | n+1,hu=>simp [val1] at hu
 ·rw [hget k h h']
  have := hrow k h'
  exact this.2.2.2.mono this.1 (by omega)
 ·rw [hget i hi hi',hget j hj hj']
  simp only [Value.ownBlock,ne_eq,Option.some.injEq]
  exact hinj i j hi' hj' hne
theorem only_setCell {a w:World} {g:Nat} (h:a.grownBy w (some g)) {p:Addr} (hp:p.block=g) (u:Value):a.grownBy (w.setCell p u) (some g):=
 ⟨h.os,h.tape,h.output,by simpa [World.setCell] using h.size,fun i hi hne=>(Below.heap_setCell w p u i (by
  rintro rfl
  exact hne (by rw [hp]))).trans (h.block i hi hne)⟩
section
variable {α:Type} {f:α->List Value} {s:Nat} {t:TypeId} {w w':World} {lo hi:Nat} {v:Value} {xs:List α} {row:Option Nat}
theorem Ow.grown (x:Ow f s t w lo hi v xs) (hg:w.grownBy w' row) (hne:0<xs.length->v.ownBlock≠row):Ow f s t w' lo hi v xs:=by
 obtain ⟨A,c,rfl,hc,hm,r⟩:=x
 refine ⟨A,c,rfl,hc,hm,fun hn => ?_⟩
 obtain ⟨g,cur,rfl,hb1,hb2,hb3,hx⟩:=r hn
 have hq:some g≠row:=by simpa [Value.ownBlock] using hne hn
 exact ⟨g,cur,rfl,hb1,hb2,(hg.block g hb3.lt hq).trans hb3,hx⟩
theorem Blk.grown {g:Nat} {cs:Array Value} (h:Blk w g t cs) (hb:w.grownBy w' row) (hg:some g≠row):Blk w' g t cs:=(hb.block g h.lt hg).trans h
theorem Ow.block (x:Ow f s t w lo hi v xs) (hn:0<xs.length):∃ g cur,v.ownBlock=some g/\lo<=g/\g<hi/\Blk w g t cur:=by
 obtain ⟨A,c,rfl,hc,hm,r⟩:=x
 obtain ⟨g,cur,rfl,hb1,hb2,hb3,hx⟩:=r hn
 exact ⟨g,cur,rfl,hb1,hb2,hb3⟩
end
end Go.Proofs.Ytlmjnhnpahicmaa
namespace Go.Proofs.Ytlmjnhnpahicmaa
open Go.RowKit
section
variable {P:Program} (w:World)
end
theorem add_plain' (b o j:Nat):(⟨b,o,none⟩:Addr).add j=⟨b,o+j,none⟩:=by
 unfold Addr.add
 by_cases h:j=0 <;> simp [h]
section
variable {α:Type} {f:α->List Value} {s:Nat} {t:TypeId} {w w':World} {lo hi:Nat} {v:Value} {xs:List α}
theorem flat_get (hf:∀ x,(f x).length=s) (xs:List α) (k:Nat) (h:k<xs.length) (j:Nat) (hj:j<s):(xs.flatMap f)[k*s+j]? = (f xs[k])[j]? := by
 induction xs generalizing k with
 | nil=>simp at h
 | cons x r ih=>
  rw [List.flatMap_cons]
  match k,h with
  | 0,_=>
   rw [List.getElem?_append_left (by rw [hf];omega)]
   simp
  | k+1,h=>
   have h2:k<r.length:=by simpa using h
   rw [List.getElem?_append_right (by rw [hf,Nat.add_mul];omega)]
   have := ih k h2
   rw [hf,show (k+1)*s+j-s=k*s+j from by rw [Nat.add_mul];omega]
   simpa using this
theorem flat_len (hf:∀ x,(f x).length=s) (xs:List α):(xs.flatMap f).length=xs.length*s:=by
 induction xs with
 | nil=>simp
 | cons x r ih=>rw [List.flatMap_cons,List.length_append,hf,ih,List.length_cons,Nat.add_mul];omega
theorem flat_split (hs:0<s) {n q:Nat} (h:q<n*s):q / s<n/\q % s<s/\q=q / s*s+q % s:=
 ⟨(Nat.div_lt_iff_lt_mul hs).2 h,Nat.mod_lt _ hs,by rw [Nat.mul_comm];exact (Nat.div_add_mod q s).symm⟩
theorem Ow.row (hf:∀ x,(f x).length=s) (hs:0<s) (h:Ow f s t w lo hi v xs) (hn:0<xs.length):w.ownsRow lo t s v xs.length (xs.flatMap f):=by
 obtain ⟨A,c,rfl,hc,hm,r⟩:=h
 obtain ⟨g,cur,rfl,hg1,hg2,hB,hsz,hx⟩:=r hn
 refine ⟨flat_len hf xs,.inr ⟨g,c,cur,rfl,hg1,hB,hc,by simp only [maxLen];omega,hsz,?_⟩⟩
 have hle:xs.length*s<=c*s:=Nat.mul_le_mul_right s hc
 apply List.ext_getElem?
 intro q
 by_cases hq:q<xs.length*s
 ·obtain ⟨h1,h2,h3⟩:=flat_split hs hq
  rw [List.getElem?_take,if_pos hq]
  have hlt:q % s<(f xs[q / s]).length:=by rw [hf];exact h2
  have := hx _ h1 _ _ (List.getElem?_eq_getElem hlt)
  rw [<- h3] at this
  rw [Array.getElem?_toList,this,<- List.getElem?_eq_getElem hlt,<- flat_get hf xs _ h1 _ h2,<- h3]
 ·rw [List.getElem?_eq_none (Nat.le_trans (List.length_take_le _ _) (by omega)),List.getElem?_eq_none (by rw [flat_len hf];omega)]
end
end Go.Proofs.Ytlmjnhnpahicmaa
namespace Go.Proofs.Ytlmjnhnpahicmaa
open Go.ChangeShapes Go.WideShapes Go.ChangeAt Go.RowKit
set_option maxRecDepth 100000
theorem within_any (x lo hi:Int) (b:Bool) (hb:(decide (lo<=x)&&decide (x<=hi))=b) (w:World) :
  Calls Try.prog 89 #[.int .i64 x,.int .i64 lo,.int .i64 hi] w fun e w'=>e = .returned (.bool b)/\w=w':=by
 subst hb
 by_cases h1:lo<=x
 ·by_cases h2:x<=hi
  ·go_enter Try.func89,Try.ntmps89
   go_wp2
   all_goals (go_ret;exact ⟨ret_bool (by simp [h1,h2]),rfl⟩)
  ·go_enter Try.func89,Try.ntmps89
   go_wp2
   all_goals (go_ret;exact ⟨ret_bool (by simp;omega),rfl⟩)
 ·go_enter Try.func89,Try.ntmps89
  go_wp2
  all_goals (go_ret;exact ⟨ret_bool (by simp;omega),rfl⟩)
theorem OwOw.nil_ {α:Type} {f:α->List Value} {s:Nat} {to ti:TypeId} {w:World} {lo hi:Nat} (A:Option Addr) (c:Nat) (hc:c<=9223372036854775807):OwOw f s to ti w lo hi (.slice A 0 c) []:=
 ⟨[],⟨A,c,rfl,by simp,hc,fun h=>absurd h (by simp)⟩,rfl,fun k h=>absurd h (by simp),fun i j h=>absurd h (by simp)⟩
end Go.Proofs.Ytlmjnhnpahicmaa
