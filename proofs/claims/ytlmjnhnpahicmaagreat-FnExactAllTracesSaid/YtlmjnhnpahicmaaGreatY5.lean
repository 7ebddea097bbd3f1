/- Texts joined. No conditions. -/
import Derived.Below
import Derived.Laws.OwnMore
import Derived.Deep.Draws
import Derived.Laws.Rows
import Derived.Laws.MakeOwn
import Derived.Laws.Entries
import Derived.Lib.Hide
import Derived.Test.YtlmjnhnpahicmaaGreatRows
import Derived.WalkKit
import Derived.ProofKit
import Derived.Deep.RegionHeld3
import Derived.Deep.DrawnRows
import Derived.Maps.AppendAt
import Derived.Deep.AppendLies
import Derived.RegionTactic
import Derived.OwnWalk
import Derived.Outline
import Derived.Deep.RegionLaw
import Derived.Deep.RegionWith
import Derived.ChangeAlike
import Derived.Test.YtlmjnhnpahicmaaGreatY4
namespace Go.Proofs.YtlmjnhnpahicmaaGreat
noncomputable section
open Go.RowKit
def Jl (w:World) (g:Nat) (t:TypeId) (cs:Array Value):Prop:=w.heap[g]? = some (.cells cs t (0,0))
section
variable {w w':World} {g:Nat} {t:TypeId} {cs:Array Value}
theorem Jl.lt (h:Jl w g t cs):g<w.heap.size:=by
 rcases Nat.lt_or_ge g w.heap.size with hlt | hge
 ·exact hlt
 ·unfold Jl at h;rw [Array.getElem?_eq_none hge] at h;cases h
theorem Jl.cell (h:Jl w g t cs) (i:Nat):w.cell? ⟨g,i,none⟩=cs[i]? := cell_of_row w g i cs t (0,0) h
theorem Jl.frozen (h:Jl w g t cs) (i:Nat):w.frozen? ⟨g,i,none⟩=false:=by
 unfold Jl at h;simp [World.frozen?,h]
theorem Jl.new (w:World) (t:TypeId) (cs:Array Value):Jl (w.alloc (.cells cs t)) w.heap.size t cs:=heap_alloc_new w _
theorem Jl.at_ {n:Nat} (h:w.heap.size=n):Jl (w.alloc (.cells cs t)) n t cs:=h ▸ Jl.new _ _ _
theorem Jl.alloc (h:Jl w g t cs) (o:Obj):Jl (w.alloc o) g t cs:=(Below.heap_alloc w o g h.lt).trans h
theorem Jl.set_ (h:Jl w g t cs) (i:Nat) (u:Value):Jl (w.setCell ⟨g,i,none⟩ u) g t (cs.setIfInBounds i u):=by
 unfold Jl at h ⊢;simp [World.setCell,Array.getElem?_modify,h]
theorem Jl.below {B:Nat} (h:Jl w g t cs) (hb:Below B w w') (hg:g<B):Jl w' g t cs:=(hb.block g hg).trans h
theorem Jl.inj {t':TypeId} {cs':Array Value} (h:Jl w g t cs) (h':Jl w g t' cs'):t=t'/\cs=cs':=by
 unfold Jl at h h';rw [h] at h';injection h' with h';injection h' with h1 h2;exact ⟨h2,h1⟩
end
structure Fr (lo hi:Nat) (w w':World):Prop where
 os:w'.os=w.os
 tape:w'.tape=w.tape
 output:w'.output=w.output
 size:w.heap.size<=w'.heap.size
 block:∀ k,k<w.heap.size->(k<lo\/hi<=k)->w'.heap[k]? = w.heap[k]?
section
variable {a w w':World} {lo hi l h B:Nat}
theorem Fr.refl (lo hi:Nat) (w:World):Fr lo hi w w:=⟨rfl,rfl,rfl,Nat.le_refl _,fun _ _ _=>rfl⟩
theorem Fr.trans {b c:World} (h:Fr lo hi a b) (k:Fr lo hi b c):Fr lo hi a c:=
 ⟨k.os.trans h.os,k.tape.trans h.tape,k.output.trans h.output,Nat.le_trans h.size k.size,fun i hi hn=>(k.block i (Nat.lt_of_lt_of_le hi h.size) hn).trans (h.block i hi hn)⟩
theorem Fr.mono (f:Fr lo hi w w') (h1:l<=lo) (h2:hi<=h):Fr l h w w':=
 ⟨f.os,f.tape,f.output,f.size,fun k hk hn=>f.block k hk (by omega)⟩
theorem Fr.alloc (f:Fr lo hi a w) (o:Obj):Fr lo hi a (w.alloc o):=
 f.trans ⟨rfl,rfl,rfl,by simp,fun k hk _=>Below.heap_alloc _ _ _ hk⟩
theorem Fr.setCell (f:Fr lo hi a w) {p:Addr} (hp:(lo<=p.block/\p.block<hi)) (u:Value):Fr lo hi a (w.setCell p u):=
 f.trans ⟨rfl,rfl,rfl,by simp [World.setCell],fun k _ hn=>Below.heap_setCell _ _ _ _ (by omega)⟩
theorem Fr.below (f:Fr lo hi w w') (hB:B<=lo) (hs:B<=w.heap.size):Below B w w':=⟨f.os,f.tape,f.output,f.size,fun k hk=>f.block k (by omega) (by omega)⟩
theorem Jl.fr {g:Nat} {t:TypeId} {cs:Array Value} (b:Jl w g t cs) (f:Fr lo hi w w') (hg:g<lo\/hi<=g):Jl w' g t cs:=(f.block g b.lt hg).trans b
theorem Fr.cell (f:Fr lo hi w w') {p:Addr} (hp:p.block<w.heap.size) (hn:p.block<lo\/hi<=p.block):w'.cell? p=w.cell? p:=World.cell?_of_block (w:=w) (f.block p.block hp hn)
end
section
variable {α:Type} (f:α->List Value) (s:Nat)
def Sl (w:World) (lo hi:Nat) (v:Value) (xs:List α):Prop:=
 ∃ A c,v = .slice A xs.length c/\xs.length<=c/\c<=9223372036854775807/\(0<xs.length->∃ b o,A=some ⟨b,o,none⟩/\lo<=b/\b<hi/\b<w.heap.size /\
  ∀ (k:Nat) (h:k<xs.length) (j:Nat) (u:Value),(f xs[k])[j]? = some u->w.cell? ⟨b,o+k*s+j,none⟩=some u)
def Ow (t:TypeId) (w:World) (lo hi:Nat) (v:Value) (xs:List α):Prop:=
 ∃ A c,v = .slice A xs.length c/\xs.length<=c/\c<=9223372036854775807/\(0<xs.length->∃ g cur,A=some ⟨g,0,none⟩/\lo<=g/\g<hi/\Jl w g t cur/\cur.size=c*s /\
  ∀ (k:Nat) (h:k<xs.length) (j:Nat) (u:Value),(f xs[k])[j]? = some u->cur[k*s+j]? = some u)
end
section
variable {α:Type} {f:α->List Value} {s:Nat} {t:TypeId} {w w':World} {lo hi l h B:Nat} {v:Value} {xs:List α}
theorem Sl.nil_ (c:Nat) (A:Option Addr) (hc:c<=9223372036854775807):Sl f s w lo hi (.slice A 0 c) []:=⟨A,c,rfl,by simp,hc,fun h=>absurd h (by simp)⟩
theorem Ow.nil_ (c:Nat) (A:Option Addr) (hc:c<=9223372036854775807):Ow f s t w lo hi (.slice A 0 c) []:=⟨A,c,rfl,by simp,hc,fun h=>absurd h (by simp)⟩
theorem Sl.mono (x:Sl f s w lo hi v xs) (h1:l<=lo) (h2:hi<=h):Sl f s w l h v xs:=by
 obtain ⟨A,c,e,hc,hm,r⟩:=x;refine ⟨A,c,e,hc,hm,fun hn=>?_⟩;obtain ⟨b,o,e2,hb1,hb2,hb3,hx⟩:=r hn;exact ⟨b,o,e2,by omega,by omega,hb3,hx⟩
theorem Ow.mono (x:Ow f s t w lo hi v xs) (h1:l<=lo) (h2:hi<=h):Ow f s t w l h v xs:=by
 obtain ⟨A,c,e,hc,hm,r⟩:=x;refine ⟨A,c,e,hc,hm,fun hn=>?_⟩;obtain ⟨b,o,e2,hb1,hb2,hx⟩:=r hn;exact ⟨b,o,e2,by omega,by omega,hx⟩
theorem Sl.keep (x:Sl f s w lo hi v xs) (hs:w.heap.size<=w'.heap.size) (hk:∀ k,k<w.heap.size->lo<=k->k<hi->w'.heap[k]? = w.heap[k]?):Sl f s w' lo hi v xs:=by
 obtain ⟨A,c,e,hc,hm,r⟩:=x;refine ⟨A,c,e,hc,hm,fun hn=>?_⟩;obtain ⟨b,o,e2,hb1,hb2,hb3,hx⟩:=r hn;refine ⟨b,o,e2,hb1,hb2,by omega,fun k hk' j u hu=>?_⟩;rw [World.cell?_of_block (hk b hb3 hb1 hb2)];exact hx k hk' j u hu
theorem Ow.keep (x:Ow f s t w lo hi v xs) (hk:∀ k,k<w.heap.size->lo<=k->k<hi->w'.heap[k]? = w.heap[k]?):Ow f s t w' lo hi v xs:=by
 obtain ⟨A,c,e,hc,hm,r⟩:=x;refine ⟨A,c,e,hc,hm,fun hn=>?_⟩;obtain ⟨g,cur,e2,hb1,hb2,hb3,hx⟩:=r hn;exact ⟨g,cur,e2,hb1,hb2,(hk g hb3.lt hb1 hb2).trans hb3,hx⟩
theorem Sl.below (x:Sl f s w lo hi v xs) (b:Below B w w') (hB:hi<=B):Sl f s w' lo hi v xs:=x.keep b.size fun k _ _ h2=>b.block k (by omega)
theorem Ow.below (x:Ow f s t w lo hi v xs) (b:Below B w w') (hB:hi<=B):Ow f s t w' lo hi v xs:=x.keep fun k _ _ h2=>b.block k (by omega)
theorem Sl.fr (x:Sl f s w lo hi v xs) (b:Fr l h w w') (hB:hi<=l\/h<=lo):Sl f s w' lo hi v xs:=x.keep b.size fun k hk h1 h2=>b.block k hk (by omega)
theorem Ow.fr (x:Ow f s t w lo hi v xs) (b:Fr l h w w') (hB:hi<=l\/h<=lo):Ow f s t w' lo hi v xs:=x.keep fun k hk h1 h2=>b.block k hk (by omega)
theorem Ow.sl (x:Ow f s t w lo hi v xs):Sl f s w lo hi v xs:=by
 obtain ⟨A,c,e,hc,hm,r⟩:=x;refine ⟨A,c,e,hc,hm,fun hn=>?_⟩;obtain ⟨g,cur,e2,hb1,hb2,hb3,_,hx⟩:=r hn;refine ⟨g,0,e2,hb1,hb2,hb3.lt,fun k hk j u hu=>?_⟩;rw [Nat.zero_add,hb3.cell];exact hx k hk j u hu
end
def Bb (v:Value):List Value:=[v]
def lM (n:Int):List Value:=[.int .i64 n]
section
variable {α:Type} {g:α->Value} {f:α->List Value} {s:Nat} {w:World} {lo hi:Nat} {v:Value}
theorem Sl.one_ {xs:List α} (hf:∀ x,f x=[g x]) (x:Sl f 1 w lo hi v xs):∃ A c,v = .slice A xs.length c/\xs.length<=c/\c<=9223372036854775807/\(0<xs.length->∃ b o,A=some ⟨b,o,none⟩/\lo<=b/\b<hi/\b<w.heap.size /\
  ∀ (k:Nat) (h:k<xs.length),w.cell? ⟨b,o+k,none⟩=some (g xs[k])):=by
 obtain ⟨A,c,e,hc,hm,r⟩:=x;refine ⟨A,c,e,hc,hm,fun hn=>?_⟩;obtain ⟨b,o,e2,hb1,hb2,hb3,hx⟩:=r hn;refine ⟨b,o,e2,hb1,hb2,hb3,fun k hk=>?_⟩;have := hx k hk 0 (g xs[k]) (by rw [hf];rfl);simpa using this
theorem Sl.vals {xs:List Value} (x:Sl Bb 1 w lo hi v xs):∃ A c,v = .slice A xs.length c/\xs.length<=c/\c<=9223372036854775807/\(0<xs.length->∃ b o,A=some ⟨b,o,none⟩/\lo<=b/\b<hi/\b<w.heap.size /\
 ∀ (k:Nat) (h:k<xs.length),w.cell? ⟨b,o+k,none⟩=some xs[k]):=Sl.one_ (g:=fun v=>v) (fun _=>rfl) x
theorem Sl.ints {xs:LI} (x:Sl lM 1 w lo hi v xs):∃ A c,v = .slice A xs.length c/\xs.length<=c/\c<=9223372036854775807/\(0<xs.length->∃ b o,A=some ⟨b,o,none⟩/\lo<=b/\b<hi/\b<w.heap.size /\
 ∀ (k:Nat) (h:k<xs.length),w.cell? ⟨b,o+k,none⟩=some (.int .i64 xs[k])):=Sl.one_ (g:=fun v => .int .i64 v) (fun _=>rfl) x
end
structure Ins where
 op:Int
 loc:Int
 reg:Int
 val:Int
 deriving DecidableEq,Inhabited
def Ins.v (x:Ins):Value := .agg #[.int .i64 x.op,.int .i64 x.loc,.int .i64 x.reg,.int .i64 x.val]
def Ins.cells (x:Ins):List Value:=[.int .i64 x.op,.int .i64 x.loc,.int .i64 x.reg,.int .i64 x.val]
def Ins.eqB (x y:Ins):Bool:=x.op==y.op&&x.loc==y.loc&&x.reg==y.reg&&x.val==y.val
theorem Ins.eqB_iff (x y:Ins):x.eqB y=true↔x=y:=by
 obtain ⟨a,b,c,d⟩:=x;obtain ⟨a',b',c',d'⟩:=y;simp [Ins.eqB,and_assoc]
def vF (w:World) (b o:Nat) (x:Ins):Prop:=
 w.cell? ⟨b,o,none⟩=some (.int .i64 x.op)/\w.cell? ⟨b,o+1,none⟩=some (.int .i64 x.loc)/\w.cell? ⟨b,o+2,none⟩=some (.int .i64 x.reg)/\w.cell? ⟨b,o+3,none⟩=some (.int .i64 x.val)
def jR (cs:Array Value) (o:Nat) (x:Ins):Prop:=cs[o]? = some (.int .i64 x.op)/\cs[o+1]? = some (.int .i64 x.loc)/\cs[o+2]? = some (.int .i64 x.reg)/\cs[o+3]? = some (.int .i64 x.val)
def qB (cs:Array Value) (o:Nat) (x:Ins):Array Value:=(((cs.setIfInBounds o (.int .i64 x.op)).setIfInBounds (o+1) (.int .i64 x.loc)).setIfInBounds (o+2) (.int .i64 x.reg)).setIfInBounds (o+3) (.int .i64 x.val)
section
variable {w w':World} {b o p:Nat} {x y:Ins} {cs:Array Value} {t:TypeId} {g B lo hi:Nat} {v:Value} {xs:List Ins}
theorem vF.below (h:vF w b o x) (hb:Below B w w') (hlt:b<B):vF w' b o x:=by
 unfold vF at *;rw [hb.cell (by exact hlt),hb.cell (by exact hlt),hb.cell (by exact hlt),hb.cell (by exact hlt)];exact h
theorem Jl.ins (h:Jl w g t cs) (hi:jR cs o x):vF w g o x:=by
 unfold vF;rw [h.cell,h.cell,h.cell,h.cell];exact hi
theorem sj (cs:Array Value) (o:Nat) (x:Ins):(qB cs o x).size=cs.size:=by simp [qB]
theorem jR.same (h:o+4<=cs.size):jR (qB cs o x) o x:=by
 unfold jR qB;refine ⟨?_,?_,?_,?_⟩ <;> simp [Array.getElem?_setIfInBounds] <;> omega
theorem jR.far (h:jR cs o x) (hf:o+4<=p\/p+4<=o):jR (qB cs p y) o x:=by
 unfold jR qB at *;obtain ⟨h1,h2,h3,h4⟩:=h;refine ⟨?_,?_,?_,?_⟩
 ·rw [Array.getElem?_setIfInBounds_ne (by omega),Array.getElem?_setIfInBounds_ne (by omega),Array.getElem?_setIfInBounds_ne (by omega),Array.getElem?_setIfInBounds_ne (by omega)];exact h1
 ·rw [Array.getElem?_setIfInBounds_ne (by omega),Array.getElem?_setIfInBounds_ne (by omega),Array.getElem?_setIfInBounds_ne (by omega),Array.getElem?_setIfInBounds_ne (by omega)];exact h2
 ·rw [Array.getElem?_setIfInBounds_ne (by omega),Array.getElem?_setIfInBounds_ne (by omega),Array.getElem?_setIfInBounds_ne (by omega),Array.getElem?_setIfInBounds_ne (by omega)];exact h3
 ·rw [Array.getElem?_setIfInBounds_ne (by omega),Array.getElem?_setIfInBounds_ne (by omega),Array.getElem?_setIfInBounds_ne (by omega),Array.getElem?_setIfInBounds_ne (by omega)];exact h4
theorem jR.cells {k:Nat} (h:jR cs k x):∀ (j:Nat) (u:Value),x.cells[j]? = some u->cs[k+j]? = some u:=by
 intro j u hu
 match j,hu with
 | 0,hu=>simp [Ins.cells] at hu;subst hu;exact h.1
 | 1,hu=>simp [Ins.cells] at hu;subst hu;exact h.2.1
 | 2,hu=>simp [Ins.cells] at hu;subst hu;exact h.2.2.1
 | 3,hu=>simp [Ins.cells] at hu;subst hu;exact h.2.2.2
 | n+4,hu=>simp [Ins.cells] at hu
theorem Sl.inss (x:Sl Ins.cells 4 w lo hi v xs):∃ A c,v = .slice A xs.length c/\xs.length<=c/\c<=9223372036854775807/\(0<xs.length->∃ b o,A=some ⟨b,o,none⟩/\lo<=b/\b<hi/\b<w.heap.size /\
  ∀ (k:Nat) (h:k<xs.length),vF w b (o+k*4) xs[k]):=by
 obtain ⟨A,c,e,hc,hm,r⟩:=x;refine ⟨A,c,e,hc,hm,fun hn=>?_⟩;obtain ⟨b,o,e2,hb1,hb2,hb3,hx⟩:=r hn;exact ⟨b,o,e2,hb1,hb2,hb3,fun k hk=>⟨hx k hk 0 _ rfl,hx k hk 1 _ rfl,hx k hk 2 _ rfl,hx k hk 3 _ rfl⟩⟩
end
section
variable {α:Type} (f:α->List Value) (s:Nat)
def iO (w:World) (lo hi:Nat) (v:Value) (p:List (List α)):Prop:=
 ∃ vs:List Value,Sl Bb 1 w lo hi v vs/\vs.length=p.length/\∀ (k:Nat) (h:k<vs.length) (h':k<p.length),Sl f s w lo hi vs[k] p[k]
def su (to ti:TypeId) (w:World) (lo hi:Nat) (v:Value) (p:List (List α)):Prop:=
 ∃ vs:List Value,Ow Bb 1 to w lo hi v vs/\vs.length=p.length/\(∀ (k:Nat) (h:k<vs.length) (h':k<p.length),Ow f s ti w lo hi vs[k] p[k]) /\
  ∀ (i j:Nat) (hi:i<vs.length) (hj:j<vs.length) (hi':i<p.length) (hj':j<p.length),i≠j->0<p[i].length->0<p[j].length->vs[i].ownBlock≠vs[j].ownBlock
end
section
variable {α:Type} {f:α->List Value} {s:Nat} {to ti:TypeId} {w w':World} {lo hi l h B:Nat} {v:Value} {p:List (List α)}
theorem iO.keep (x:iO f s w lo hi v p) (hs:w.heap.size<=w'.heap.size) (hk:∀ k,k<w.heap.size->lo<=k->k<hi->w'.heap[k]? = w.heap[k]?):iO f s w' lo hi v p:=by
 obtain ⟨vs,h1,h2,h3⟩:=x;exact ⟨vs,h1.keep hs hk,h2,fun k a b=>(h3 k a b).keep hs hk⟩
theorem su.keep (x:su f s to ti w lo hi v p) (hk:∀ k,k<w.heap.size->lo<=k->k<hi->w'.heap[k]? = w.heap[k]?):su f s to ti w' lo hi v p:=by
 obtain ⟨vs,h1,h2,h3,h4⟩:=x;exact ⟨vs,h1.keep hk,h2,fun k a b=>(h3 k a b).keep hk,h4⟩
theorem iO.mono (x:iO f s w lo hi v p) (h1:l<=lo) (h2:hi<=h):iO f s w l h v p:=by
 obtain ⟨vs,g1,g2,g3⟩:=x;exact ⟨vs,g1.mono h1 h2,g2,fun k a b=>(g3 k a b).mono h1 h2⟩
theorem su.mono (x:su f s to ti w lo hi v p) (h1:l<=lo) (h2:hi<=h):su f s to ti w l h v p:=by
 obtain ⟨vs,g1,g2,g3,g4⟩:=x;exact ⟨vs,g1.mono h1 h2,g2,fun k a b=>(g3 k a b).mono h1 h2,g4⟩
theorem iO.below (x:iO f s w lo hi v p) (b:Below B w w') (hB:hi<=B):iO f s w' lo hi v p:=x.keep b.size fun k _ _ h2=>b.block k (by omega)
theorem su.below (x:su f s to ti w lo hi v p) (b:Below B w w') (hB:hi<=B):su f s to ti w' lo hi v p:=x.keep fun k _ _ h2=>b.block k (by omega)
theorem iO.fr (x:iO f s w lo hi v p) (b:Fr l h w w') (hB:hi<=l\/h<=lo):iO f s w' lo hi v p:=x.keep b.size fun k hk h1 h2=>b.block k hk (by omega)
theorem su.fr (x:su f s to ti w lo hi v p) (b:Fr l h w w') (hB:hi<=l\/h<=lo):su f s to ti w' lo hi v p:=x.keep fun k hk h1 h2=>b.block k hk (by omega)
theorem su.sl (x:su f s to ti w lo hi v p):iO f s w lo hi v p:=by
 obtain ⟨vs,h1,h2,h3,_⟩:=x;exact ⟨vs,h1.sl,h2,fun k a b=>(h3 k a b).sl⟩
end
theorem om {P:Program} (t e:TypeId) (i:TypeInfo) (z:Value) (ht:P.underlying t=some (.slice e)) (hi:P.info? e=some i) (hz:i.zero=some z)
  (kl kc:IntKind) (n c:Nat) (hnc:n<=c) (hbytes:i.bytes*c<=281474976710656) (h63:c<=9223372036854775807) (w:World) :
  (Instr.makeSlice t (.int kl (n:Int)) (.int kc (c:Int))).run P w = .ok (.slice (some ⟨w.heap.size,0,none⟩) n c) (w.alloc (.cells (madeCells z.cells (c*i.size)) e)):=by
 have hb:(i.bytes:Int)*(c:Int)<=281474976710656:=by
  have h:((i.bytes*c:Nat):Int)<=281474976710656:=by omega
  rwa [Int.natCast_mul] at h
 have hr:=run_make (P:=P) w t e i z ht hi hz kl kc n c (by omega) (by omega) hb (by omega);simp only [tnn] at hr;exact hr
theorem gq {α:Type} (xs:List α) (k:Nat) (h:k<xs.length):xs.take (k+1)=xs.take k++[xs[k]]:=by
 rw [List.take_succ_eq_append_getElem h]
theorem qC {α:Type} {xs ys:List α} {k:Nat} (h:k<xs.length) (h':k<ys.length) (e:xs.take k=ys.take k) (e2:xs[k]=ys[k]):xs.take (k+1)=ys.take (k+1):=by
 rw [gq _ _ h,gq _ _ h',e,e2]
theorem sx {α:Type} {xs ys:List α} (hl:xs.length=ys.length) (e:xs.take xs.length=ys.take xs.length):xs=ys:=by
 rw [List.take_length,hl,List.take_length] at e;exact e
def upd {α:Type} (G:Nat->α) (k:Nat) (v:α):Nat->α:=fun j=>if j=k then v else G j
theorem upd_same {α:Type} (G:Nat->α) (k:Nat) (v:α):upd G k v k=v:=if_pos rfl
theorem upd_ne {α:Type} (G:Nat->α) {k j:Nat} (v:α) (h:j≠k):upd G k v j=G j:=if_neg h
theorem qD {cs:Array Value} {i:Nat} {u:Value} (h:i<cs.size):(cs.setIfInBounds i u)[i]? = some u:=by simp [h]
theorem uF {cs:Array Value} {i j:Nat} {u:Value} (h:i≠j):(cs.setIfInBounds i u)[j]? = cs[j]? := by rw [Array.getElem?_setIfInBounds_ne h]
theorem ay {a b:Bool} (h:a=b):Ending.returned (.bool a)=Ending.returned (.bool b):=by rw [h]
theorem ik {k:IntKind} {a b:Int} (h:a=b):Ending.returned (.int k a) = .returned (.int k b):=by rw [h]
open Go.ChangeShapes Go.WideShapes Go.ChangeAt Go.RowKit
set_option maxRecDepth 100000
theorem yF (x y:Ins) (w:World) :
  Calls Tryz.prog 75 #[x.v,y.v] w fun e w'=>e = .returned (.bool (x.eqB y))/\Below w.heap.size w w':=by
 obtain ⟨a,b,c,d⟩:=x;obtain ⟨a',b',c',d'⟩:=y;unfold Ins.v Ins.eqB
 go_enter Tryz.func75,Tryz.ntmps75
 go_wp2
 all_goals
  go_ret
  refine ⟨?_,((Below.refl _ _).alloc (Nat.le_refl _) _).alloc (by simp) _⟩
  simp_all
theorem yG (x:Ins) (w:World) :
  Calls Tryz.prog 59 #[x.v] w fun e w'=>e = .returned x.v/\Below w.heap.size w w':=by
 obtain ⟨a,b,c,d⟩:=x;unfold Ins.v
 go_enter Tryz.func59,Tryz.ntmps59
 go_wp2
 refine bodyPost_ret (v:=.agg #[.int .i64 a,.int .i64 b,.int .i64 c,.int .i64 d]) (by simp [results,Tryz.results59,go_sem]) rfl ⟨rfl,?_⟩;exact (((Below.refl _ _).alloc (Nat.le_refl _) _).alloc (by simp) _).alloc (by simp;omega) _
theorem Tryz.infoIns:(Tryz.prog.info? 70).map (fun i=>(i.zero,i.size,i.bytes))=some (some (.agg #[.int .i64 0,.int .i64 0,.int .i64 0,.int .i64 0]),4,32):=by kernel_rfl
theorem Tryz.infoInsS:(Tryz.prog.info? 50).map (fun i=>(i.zero,i.size,i.bytes))=some (some (.slice none 0 0),1,24):=by kernel_rfl
theorem xa {lo hi lo' hi':Nat} {u v:Value} {xs ys:List Ins} {w:World} (hu:Sl Ins.cells 4 w lo hi u xs) (hv:Sl Ins.cells 4 w lo' hi' v ys) :
  Calls Tryz.prog 35 #[u,v] w fun e w'=>e = .returned (.bool (decide (xs=ys)))/\Below w.heap.size w w':=by
 obtain ⟨A,ca,rfl,hca,hma,hA⟩:=hu.inss;obtain ⟨B,cb,rfl,hcb,hmb,hB⟩:=hv.inss
 by_cases hl:xs.length=ys.length
 ·have hl':((xs.length:Int) != (ys.length:Int))=false:=by simp [hl]
  have HL:=Lib.hid hl;clear hl
  go_enter Tryz.func35,Tryz.ntmps35
  go_wp2
  go_loopw [5] (fun i wr=>∃ k:Nat,k<=xs.length/\i = .int .i64 k/\Below w.heap.size w wr/\xs.take k=ys.take k) (fun i _=>xs.length-(intOf i).toNat)
  case atStart=>exact ⟨0,Nat.zero_le _,rfl,Below.refl _ _,rfl⟩
  case round=>
   obtain ⟨k,hk,rfl,hb,he⟩:=hrel;have HE:=Lib.hid he;clear he
   by_cases hlt:k<xs.length
   ·obtain ⟨ba,oa,rfl,_,_,hba,hA⟩:=hA (by omega);have hlt2:k<ys.length:=HL.out ▸ hlt;obtain ⟨bb,ob,rfl,_,_,hbb,hB⟩:=hB (by omega);have ca1:=(hA k hlt).below hb hba;have cb1:=(hB k hlt2).below hb hbb;clear hA hB;have cda:vF wr.drew ba (oa+k*4) xs[k]:=ca1;have cdb:vF wr.drew bb (ob+k*4) ys[k]:=cb1;have hba':ba<wr.heap.size:=Nat.lt_of_lt_of_le hba hb.size;have hbb':bb<wr.heap.size:=Nat.lt_of_lt_of_le hbb hb.size;have i1:(0:Int)<=(k:Int):=by omega
    have i2:(k:Int)<(xs.length:Int):=by omega
    have i3:(k:Int)<(ys.length:Int):=by omega
    go_wp2_with fail
    go_region_held3 (fun w'=>w'.cell? ⟨ba,oa+k*4,none⟩=some (.int .i64 xs[k].op)/\w'.cell? ⟨ba,oa+k*4+1,none⟩=some (.int .i64 xs[k].loc)/\w'.cell? ⟨ba,oa+k*4+2,none⟩=some (.int .i64 xs[k].reg)/\w'.cell? ⟨ba,oa+k*4+3,none⟩=some (.int .i64 xs[k].val)/\w'.cell? ⟨bb,ob+k*4,none⟩=some (.int .i64 ys[k].op)/\w'.cell? ⟨bb,ob+k*4+1,none⟩=some (.int .i64 ys[k].loc)/\w'.cell? ⟨bb,ob+k*4+2,none⟩=some (.int .i64 ys[k].reg)/\w'.cell? ⟨bb,ob+k*4+3,none⟩=some (.int .i64 ys[k].val))
     (first | exact ⟨ca1.1,ca1.2.1,ca1.2.2.1,ca1.2.2.2,cb1⟩ | exact ⟨(cda.below hq1 hba').1,(cda.below hq1 hba').2.1,(cda.below hq1 hba').2.2.1,(cda.below hq1 hba').2.2.2,cdb.below hq1 hbb'⟩)
     ((go_at_call 75;refine (yF xs[k] ys[k] _).mono ?_;rintro e w1 ⟨rfl,hq1⟩))
    have hbw:Below w.heap.size w w1:=hb.drew.trans (hq1.mono hb.size)
    go_wp2
    ·have h1:(!xs[k].eqB ys[k])=true:=by assumption
     have hne:xs≠ys:=fun e=>by subst e;simp [(Ins.eqB_iff xs[k] xs[k]).2 rfl] at h1
     go_ret
     exact ⟨ay (by simp [hne]),hbw⟩
    ·have h1:(!xs[k].eqB ys[k])=false:=by assumption
     have heq:xs[k]=ys[k]:=(Ins.eqB_iff _ _).1 (by simpa using h1)
     go_roundw
     case rel=>exact ⟨k+1,by omega,by go_num,hbw,qC hlt hlt2 HE.out heq⟩
     case measure=>simp [intOf];omega
   ·have : k=xs.length:=by omega
    subst this;have hfin:=sx HL.out HE.out;have HF:=Lib.hid hfin;clear hfin
    go_wp2
    go_ret
    exact ⟨ay (by simp [HF.out]),hb⟩
 ·have hl':((xs.length:Int) != (ys.length:Int))=true:=by simp;omega
  have hne:xs≠ys:=fun e=>hl (by rw [e]);have HNE:=Lib.hid hne;clear hne hl
  go_enter Tryz.func35,Tryz.ntmps35
  go_wp2
  go_ret
  exact ⟨ay (by simp [HNE.out]),Below.refl _ _⟩
theorem vG {lo hi lo' hi':Nat} {u v:Value} {p q:List (List Ins)} {w:World} (hu:iO Ins.cells 4 w lo hi u p) (hv:iO Ins.cells 4 w lo' hi' v q) (hhi:hi<=w.heap.size) (hhi':hi'<=w.heap.size) :
  Calls Tryz.prog 11 #[u,v] w fun e w'=>e = .returned (.bool (decide (p=q)))/\Below w.heap.size w w':=by
 obtain ⟨xs,hxs,hxl,hxr⟩:=hu;obtain ⟨ys,hys,hyl,hyr⟩:=hv;obtain ⟨A,ca,rfl,hca,hma,hA⟩:=hxs.vals;obtain ⟨B,cb,rfl,hcb,hmb,hB⟩:=hys.vals;clear hxs hys
 by_cases hl:xs.length=ys.length
 ·have hl':((xs.length:Int) != (ys.length:Int))=false:=by simp [hl]
  have HL:=Lib.hid hl;clear hl;have HX:=Lib.hid hxl;clear hxl;have HY:=Lib.hid hyl;clear hyl
  go_enter Tryz.func11,Tryz.ntmps11
  go_wp2
  go_loopw [5] (fun i wr=>∃ k:Nat,k<=xs.length/\i = .int .i64 k/\Below w.heap.size w wr/\p.take k=q.take k) (fun i _=>xs.length-(intOf i).toNat)
  case atStart=>exact ⟨0,Nat.zero_le _,rfl,Below.refl _ _,rfl⟩
  case round=>
   obtain ⟨k,hk,rfl,hb,he⟩:=hrel;have HE:=Lib.hid he;clear he
   by_cases hlt:k<xs.length
   ·obtain ⟨ba,oa,rfl,_,_,hba,hA⟩:=hA (by omega);have hlt2:k<ys.length:=HL.out ▸ hlt;have hp:k<p.length:=HX.out ▸ hlt;have hq:k<q.length:=HY.out ▸ hlt2;obtain ⟨bb,ob,rfl,_,_,hbb,hB⟩:=hB (by omega);have ca1:=(hb.cell (p:=⟨ba,oa+k,none⟩) hba).trans (hA k hlt);have cb1:=(hb.cell (p:=⟨bb,ob+k,none⟩) hbb).trans (hB k hlt2);have rx:=((hxr k hlt hp).below hb hhi);have ry:=((hyr k hlt2 hq).below hb hhi');clear hA hB;have hba':ba<wr.heap.size:=Nat.lt_of_lt_of_le hba hb.size;have hbb':bb<wr.heap.size:=Nat.lt_of_lt_of_le hbb hb.size;have i1:(0:Int)<=(k:Int):=by omega
    have i2:(k:Int)<(xs.length:Int):=by omega
    have i3:(k:Int)<(ys.length:Int):=by omega
    have HRX:=Lib.hid rx;clear rx;have HRY:=Lib.hid ry;clear ry;have HXR:=Lib.hid hxr;clear hxr;have HYR:=Lib.hid hyr;clear hyr
    go_wp2_with fail
    go_region_held3 (fun w'=>w'.cell? ⟨ba,oa+k,none⟩=some xs[k]/\w'.cell? ⟨bb,ob+k,none⟩=some ys[k])
     (first | exact ⟨ca1,cb1⟩ | exact ⟨(hq1.cell (p:=⟨ba,oa+k,none⟩) hba').trans ca1,(hq1.cell (p:=⟨bb,ob+k,none⟩) hbb').trans cb1⟩)
     ((go_at_call 35;refine (xa (w:=wr.drew) HRX.out HRY.out).mono ?_;rintro e w1 ⟨rfl,hq1⟩))
    have hbw:Below w.heap.size w w1:=hb.drew.trans (hq1.mono hb.size)
    go_wp2
    ·have h1:(!decide (p[k]=q[k]))=true:=by assumption
     have hne:p≠q:=fun e=>by subst e;simp at h1
     go_ret
     exact ⟨ay (by simp [hne]),hbw⟩
    ·have h1:(!decide (p[k]=q[k]))=false:=by assumption
     have heq:p[k]=q[k]:=by simpa using h1
     go_roundw
     case rel=>exact ⟨k+1,by omega,by go_num,hbw,qC hp hq HE.out heq⟩
     case measure=>simp [intOf];omega
   ·have : k=xs.length:=by omega
    subst this;have hfin:p=q:=sx (by rw [<- HX.out,<- HY.out,HL.out]) (by rw [<- HX.out];exact HE.out);have HF:=Lib.hid hfin;clear hfin
    go_wp2
    go_ret
    exact ⟨ay (by simp [HF.out]),hb⟩
 ·have hl':((xs.length:Int) != (ys.length:Int))=true:=by simp;omega
  have hne:p≠q:=fun e=>hl (by rw [hxl,hyl,e]);have HNE:=Lib.hid hne;clear hne hl hxl hyl
  go_enter Tryz.func11,Tryz.ntmps11
  go_wp2
  go_ret
  exact ⟨ay (by simp [HNE.out]),Below.refl _ _⟩
theorem xb {lo hi:Nat} {u:Value} {xs:List Ins} {w:World} (hu:Sl Ins.cells 4 w lo hi u xs) (hx:xs.length<=1048576) :
  Calls Tryz.prog 30 #[u] w fun e w'=>(∃ v,e = .returned v/\v = .slice (some ⟨w.heap.size,0,none⟩) xs.length xs.length/\Ow Ins.cells 4 70 w' w.heap.size (w.heap.size+1) v xs/\w.heap.size<w'.heap.size)/\Below w.heap.size w w':=by
 obtain ⟨A,ca,rfl,hca,hma,hA⟩:=hu.inss;clear hma;obtain ⟨i0,hi0,hz0,hz1,hz2⟩:=info_parts Tryz.infoIns;have hmk:=fun W=>om (P:=Tryz.prog) 50 70 i0 _ Tryz.underlying50 hi0 hz0 .i64 .i64 xs.length xs.length (Nat.le_refl _) (by rw [hz2];omega) (by omega) W;rw [hz1] at hmk
 go_enter Tryz.func30,Tryz.ntmps30
 go_wp2_with fail
 clear hmk
 go_loopw [4] (fun i wr=>∃ (k:Nat) (cs:Array Value),k<=xs.length/\i = .int .i64 k/\Below w.heap.size w wr/\Jl wr w.heap.size 70 cs/\cs.size=xs.length*4/\∀ j (h:j<xs.length),j<k->jR cs (j*4) xs[j]) (fun i _=>xs.length-(intOf i).toNat)
 case atStart=>
  exact ⟨0,_,Nat.zero_le _,rfl,(Below.refl _ _).alloc (Nat.le_refl _) _,Jl.new _ _ _,size_madeCells _ _,fun j _ h=>absurd h (by omega)⟩
 case round=>
  obtain ⟨k,cs,hk,rfl,hb,hB,hcs,hin⟩:=hrel;have HI:=Lib.hid hin;clear hin;have HB:=Lib.hid hB;have HCS:=Lib.hid hcs;have hgl:=hB.lt;clear hB hcs
  by_cases hlt:k<xs.length
  ·obtain ⟨ba,oa,rfl,_,_,hba,hA⟩:=hA (by omega);have ca1:=(hA k hlt).below hb hba;clear hA;have i1:(0:Int)<=(k:Int):=by omega
   have i2:(k:Int)<(xs.length:Int):=by omega
   obtain ⟨c1,c2,c3,c4⟩:=ca1
   go_wp2_with fail
   refine (yG xs[k] _).mono ?_;rintro e w1 ⟨rfl,hq1⟩;have B1:=HB.out.below hq1 hgl;have hz:k*4+4<=cs.size:=by rw [HCS.out];omega
   have f0:=B1.frozen (k*4);have f1:=B1.frozen (k*4+1);have f2:=B1.frozen (k*4+2);have f3:=B1.frozen (k*4+3);have e0:=B1.cell (k*4);have e1:=B1.cell (k*4+1);have e2:=B1.cell (k*4+2);have e3:=B1.cell (k*4+3);rw [Array.getElem?_eq_getElem (by omega)] at e0 e1 e2 e3;have HB1:=Lib.hid B1;clear B1;unfold Ins.v
   go_wp2_with fail
   go_roundw
   case rel=>
    refine ⟨k+1,qB cs (k*4) xs[k],by omega,by go_num,?_,?_,?_,?_⟩
    ·exact ((((hb.trans (hq1.mono hb.size)).setCell (by simp) _).setCell (by simp) _).setCell (by simp) _).setCell (by simp) _
    ·exact (((HB1.out.set_ _ _).set_ _ _).set_ _ _).set_ _ _
    ·rw [sj];exact HCS.out
    ·intro j h hj
     by_cases e:j=k
     ·subst e;exact jR.same hz
     ·exact (HI.out j h (by omega)).far (by omega)
   case measure=>simp [intOf];omega
  ·go_wp2
   go_ret
   refine ⟨⟨_,rfl,rfl,⟨_,_,rfl,Nat.le_refl _,by omega,fun _=>⟨w.heap.size,cs,rfl,Nat.le_refl _,by omega,HB.out,HCS.out,fun j hj i u hu=>?_⟩⟩,hgl⟩,hb⟩;exact (HI.out j hj (by omega)).cells i u hu
theorem xc {u:Value} {n:Nat} {A:Option Addr} {c:Nat} {m:Int} {w:World} (hu:u = .slice A n c) (hn:n<=9223372036854775807) (hm0:0<=m) (hm1:m<=1048576) :
  Calls Tryz.prog 25 #[u,.int .i64 m] w fun e w'=>e = .returned (.int .i64 (if m<n then -1 else m-n))/\w=w':=by
 subst hu
 by_cases hl:m<n
 ·rw [if_pos hl]
  go_enter Tryz.func25,Tryz.ntmps25
  go_wp2
  go_ret
  exact ⟨rfl,rfl⟩
 ·rw [if_neg hl]
  go_enter Tryz.func25,Tryz.ntmps25
  go_wp2
  go_ret
  exact ⟨rfl,rfl⟩
def total {α:Type} (p:List (List α)):Nat:=(p.map List.length).sum
theorem cW {α:Type} (p:List (List α)) (k:Nat) (h:k<p.length):total (p.take (k+1))=total (p.take k)+p[k].length:=by
 unfold total;rw [gq _ _ h,List.map_append,List.sum_append];simp
theorem gu {α:Type} (p:List (List α)) (k:Nat):total (p.take k)<=total p:=by
 unfold total
 conv=>rhs;rw [<- List.take_append_drop k p,List.map_append,List.sum_append]
 omega
theorem xd {α:Type} (p:List (List α)) (k:Nat) (h:k<p.length):p[k].length<=total p:=by
 have h1:=cW p k h;have h2:=gu p (k+1);omega
theorem vH {lo hi:Nat} {u:Value} {p:List (List Ins)} {w:World} (hu:iO Ins.cells 4 w lo hi u p) :
  Calls Tryz.prog 6 #[u,.int .i64 1048576] w fun e w'=>(∃ r:Int,e = .returned (.int .i64 r)/\(r<0\/(0<=r/\p.length+total p<=1048576)))/\Below w.heap.size w w':=by
 obtain ⟨xs,hxs,hxl,hxr⟩:=hu;obtain ⟨A,ca,rfl,hca,hma,hA⟩:=hxs.vals;clear hxs
 by_cases hl:(1048576:Int)<(xs.length:Int)
 ·go_enter Tryz.func6,Tryz.ntmps6
  go_wp2
  go_ret
  exact ⟨⟨-1,rfl,.inl (by omega)⟩,Below.refl _ _⟩
 ·have HX:=Lib.hid hxl;clear hxl;have HXR:=Lib.hid hxr;clear hxr
  go_enter Tryz.func6,Tryz.ntmps6
  go_wp2
  go_loopw [5,1] (fun i m wr=>∃ k:Nat,k<=xs.length/\i = .int .i64 k/\m = .int .i64 (1048576-(xs.length:Int)-(total (p.take k):Int))/\0<=(1048576-(xs.length:Int)-(total (p.take k):Int))/\Below w.heap.size w wr) (fun i _ _=>xs.length-(intOf i).toNat)
  case atStart=>exact ⟨0,Nat.zero_le _,rfl,by simp [total],by simp [total];omega,Below.refl _ _⟩
  case round=>
   obtain ⟨k,hk,rfl,rfl,hm,hb⟩:=hrel
   by_cases hlt:k<xs.length
   ·obtain ⟨ba,oa,rfl,_,_,hba,hA⟩:=hA (by omega);have hp:k<p.length:=HX.out ▸ hlt;have ca1:=(hb.cell (p:=⟨ba,oa+k,none⟩) hba).trans (hA k hlt);have rx:=(HXR.out k hlt hp);obtain ⟨Ak,ck,hk1,hk2,hk3,_⟩:=rx;have HT:=Lib.hid (cW p k hp);have HK1:=Lib.hid hk1;clear hk1;clear hA;have i1:(0:Int)<=(k:Int):=by omega
    have i2:(k:Int)<(xs.length:Int):=by omega
    have m1:(1048576-(xs.length:Int)-(total (p.take k):Int))<=1048576:=by omega
    go_wp2_with (go_at_call 25;refine (xc HK1.out (by omega) hm m1).mono ?_;rintro e w1 ⟨rfl,rfl⟩)
    ·have h2:=HT.out
     by_cases hq:(1048576-(xs.length:Int)-(total (p.take k):Int))<p[k].length
     ·rename_i hh
      go_ret
      exact ⟨⟨_,rfl,.inl (by omega)⟩,hb⟩
     ·rename_i hh;simp only [hq,if_false] at hh;omega
    ·have h2:=HT.out;have hq : ¬ (1048576-(xs.length:Int)-(total (p.take k):Int))<p[k].length:=by
      intro hq;rename_i hh;simp [hq] at hh
     go_roundw
     case rel=>exact ⟨k+1,by omega,by go_num,by rw [if_neg hq,h2];congr 1;omega,by omega,hb⟩
     case measure=>simp [intOf];omega
   ·have : k=xs.length:=by omega
    have hh:total (p.take k)=total p:=by rw [this,HX.out,List.take_length]
    have HH:=Lib.hid hh;clear hh this
    go_wp2
    go_ret
    have := HH.out;have := HX.out;exact ⟨⟨_,rfl,.inr ⟨by omega,by omega⟩⟩,hb⟩
theorem su.made {α:Type} {f:α->List Value} {s:Nat} {to ti:TypeId} {w:World} {lo hi g c:Nat} {cs:Array Value} {p:List (List α)} {G C:Nat->Nat}
  (hB:Jl w g to cs) (hg:lo<=g/\g<hi) (hc:cs.size=c) (hpc:p.length<=c) (hc63:c<=9223372036854775807)
  (hrow:∀ j (h:j<p.length),lo<=G j/\G j<hi/\cs[j]? = some (.slice (some ⟨G j,0,none⟩) p[j].length (C j))/\Ow f s ti w (G j) (G j+1) (.slice (some ⟨G j,0,none⟩) p[j].length (C j)) p[j])
  (hinj:∀ i j,i<p.length->j<p.length->i≠j->G i≠G j):su f s to ti w lo hi (.slice (some ⟨g,0,none⟩) p.length c) p:=by
 have hcl:p.length<=cs.toList.length:=by simp;omega
 have hlen:(cs.toList.take p.length).length=p.length:=by simp;omega
 have hget:∀ j (h:j<(cs.toList.take p.length).length) (h':j<p.length),(cs.toList.take p.length)[j] = .slice (some ⟨G j,0,none⟩) p[j].length (C j):=by
  intro j h h';have h2:=(hrow j h').2.2.1;rw [List.getElem_take];rw [Array.getElem?_eq_some_iff] at h2;obtain ⟨_,h2⟩:=h2;simpa using h2
 refine ⟨cs.toList.take p.length,⟨_,c,by rw [hlen],by rw [hlen];exact hpc,hc63,fun _=>⟨g,cs,rfl,hg.1,hg.2,hB,by omega,fun k h j u hu=>?_⟩⟩,hlen,fun k h h' => ?_,fun i j hi hj hi' hj' hne _ _=>?_⟩
 ·match j,hu with
  | 0,hu=>
   simp only [Bb,List.getElem?_cons_zero,sie] at hu;rw [<- hu,Nat.mul_one,Nat.add_zero,hget k h (by omega)];exact (hrow k (by omega)).2.2.1
  | n+1,hu=>simp [Bb] at hu
 ·rw [hget k h h'];have := hrow k h';exact this.2.2.2.mono this.1 (by omega)
 ·rw [hget i hi hi',hget j hj hj'];simp only [Value.ownBlock,ne_eq,sie];exact hinj i j hi' hj' hne
theorem jS {a w:World} {g:Nat} (h:a.grownBy w (some g)) {p:Addr} (hp:p.block=g) (u:Value):a.grownBy (w.setCell p u) (some g):=
 ⟨h.os,h.tape,h.output,by simpa [World.setCell] using h.size,fun i hi hne=>(Below.heap_setCell w p u i (by
  rintro rfl;exact hne (by rw [hp]))).trans (h.block i hi hne)⟩
section
variable {α:Type} {f:α->List Value} {s:Nat} {t:TypeId} {w w':World} {lo hi:Nat} {v:Value} {xs:List α} {row:Option Nat}
theorem Ow.grown (x:Ow f s t w lo hi v xs) (hg:w.grownBy w' row) (hne:0<xs.length->v.ownBlock≠row):Ow f s t w' lo hi v xs:=by
 obtain ⟨A,c,rfl,hc,hm,r⟩:=x;refine ⟨A,c,rfl,hc,hm,fun hn=>?_⟩;obtain ⟨g,cur,rfl,hb1,hb2,hb3,hx⟩:=r hn;have hq:some g≠row:=by simpa [Value.ownBlock] using hne hn
 exact ⟨g,cur,rfl,hb1,hb2,(hg.block g hb3.lt hq).trans hb3,hx⟩
theorem Jl.grown {g:Nat} {cs:Array Value} (h:Jl w g t cs) (hb:w.grownBy w' row) (hg:some g≠row):Jl w' g t cs:=(hb.block g h.lt hg).trans h
theorem Ow.block (x:Ow f s t w lo hi v xs) (hn:0<xs.length):∃ g cur,v.ownBlock=some g/\lo<=g/\g<hi/\Jl w g t cur:=by
 obtain ⟨A,c,rfl,hc,hm,r⟩:=x;obtain ⟨g,cur,rfl,hb1,hb2,hb3,hx⟩:=r hn;exact ⟨g,cur,rfl,hb1,hb2,hb3⟩
end
section
variable {P:Program} (w:World)
def Src (w:World) (A:Option Addr) (m:Nat) (news:List Value):Prop:=0<m->∃ ad,A=some ad/\∀ j u,news[j]? = some u->w.cell? (ad.add j)=some u
theorem pR (base:Nat) (t ty e:TypeId) (i:TypeInfo) (size:Nat) (ht:P.underlying t=some (.slice e)) (hi:P.info? e=some i)
  (v:Value) (n:Nat) (xs:List Value) (hown:w.ownsRow base e size v n xs) (c:Nat):(Builtin.append_ #[t,t] ty #[v,.slice none 0 c]).run P w = .ok v w:=by
 rcases hown.2 with ⟨rfl,rfl⟩ | ⟨g,cap,cur,rfl,_,_,hnc,_⟩
 ·simp [Builtin.append_,run_underlying ht,sizeOf,typeInfo,hi,Builtin.lenOf,Builtin.firstCells]
 ·simp [Builtin.append_,run_underlying ht,sizeOf,typeInfo,hi,Builtin.lenOf,Builtin.firstCells,hnc,storeCells]
theorem uf (base:Nat) (t ty e:TypeId) (i:TypeInfo) (z:Value) (size bytes:Nat) (ht:P.underlying t=some (.slice e)) (hi:P.info? e=some i) (hz:i.zero=some z)
  (hsize:i.size=size) (hby:i.bytes=bytes) (hzs:z.cells.size=size) (hsz:0<size)
  (v:Value) (n:Nat) (xs:List Value) (hown:w.ownsRow base e size v n xs)
  (A:Option Addr) (m c:Nat) (news:List Value) (hl:news.length=m*size) (hr:Src w A m news) (h1:∀ u∈news,u.oneCell'=true)
  (h63:n+m<=maxLen) (hbytes:(n+m)*bytes<=140737488355328) (hbase:base<=w.heap.size) :
  ∃ v' w',(Builtin.append_ #[t,t] ty #[v,.slice A m c]).run P w = .ok v' w'/\w'.ownsRow base e size v' (n+m) (xs++news)/\w.grownBy w' v.ownBlock /\
   (v'.ownBlock=v.ownBlock\/v'.ownBlock=some w.heap.size):=by
 rcases A with _ | ad
 ·have hm:m=0:=by
   rcases Nat.eq_zero_or_pos m with h0 | h0
   ·exact h0
   ·obtain ⟨ad,h,_⟩:=hr h0
    cases h
  subst hm;have hn:news=[]:=List.eq_nil_of_length_eq_zero (by simpa using hl);subst hn;exact ⟨v,w,pR w base t ty e i size ht hi v n xs hown c,by simpa using hown,World.grownBy.refl w _,.inl rfl⟩
 ·have hcells:∀ j u,news[j]? = some u->w.cell? (ad.add j)=some u:=by
   intro j u hu;rcases Nat.eq_zero_or_pos m with h0 | h0
   ·subst h0;have hn:news=[]:=List.eq_nil_of_length_eq_zero (by simpa using hl);subst hn;simp at hu
   ·obtain ⟨ad',h,hc⟩:=hr h0;injection h with h;subst h;exact hc j u hu
  obtain ⟨v',w',hrun,h2,h3,_,h5⟩:=run_append_own_at (P:=P) w base t ty e i z size bytes ht hi hz hsize hby hzs hsz v n xs hown ad m c news hl hcells h1 h63 hbytes hbase;exact ⟨v',w',hrun,h2,h3,h5⟩
theorem vI {o:Oper} {a:Act} {K:Act->World->Prop} {Q:Exit->Act->World->Prop} (s x:Operand) (t:TypeId)
  (ho:o.op = .call { callee := .builtin .append,args := #[s,x],argTypes := #[t,t] })
  (base:Nat) (e:TypeId) (i:TypeInfo) (z:Value) (size bytes:Nat) (ht:P.underlying t=some (.slice e)) (hi:P.info? e=some i) (hz:i.zero=some z)
  (hsize:i.size=size) (hby:i.bytes=bytes) (hzs:z.cells.size=size) (hsz:0<size)
  (v:Value) (n:Nat) (xs:List Value) (hs:a.eval s=v) (hown:w.ownsRow base e size v n xs)
  (A:Option Addr) (m c:Nat) (news:List Value) (hx:a.eval x = .slice A m c) (hl:news.length=m*size) (hr:Src w A m news) (h1:∀ u∈news,u.oneCell'=true)
  (h63:n+m<=maxLen) (hbytes:(n+m)*bytes<=140737488355328) (hbase:base<=w.heap.size)
  (h:∀ v' w',w'.ownsRow base e size v' (n+m) (xs++news)->w.grownBy w' v.ownBlock->(v'.ownBlock=v.ownBlock\/v'.ownBlock=some w.heap.size)->K (a.put o.dst v') w'):o.wp P a w K Q:=by
 obtain ⟨v',w',hrun,h2,h3,h4⟩:=uf (P:=P) w base t o.type e i z size bytes ht hi hz hsize hby hzs hsz v n xs hown A m c news hl hr h1 h63 hbytes hbase;unfold Oper.wp execOp;simp only [ho,resolve,invoke,builtin,Sem.run_bind,Sem.run_pure,Result.andThen_ok,List.map_toArray,List.map_cons,List.map_nil,hs,hx,hrun];exact h v' w' h2 h3 h4
theorem pU {ops:Array Oper} {rest:List Oper} {o:Oper} {a:Act} {Q:Exit->Act->World->Prop} (hgd:o.guard=none) (s x:Operand) (t:TypeId)
  (ho:o.op = .call { callee := .builtin .append,args := #[s,x],argTypes := #[t,t] })
  (base:Nat) (e:TypeId) (i:TypeInfo) (z:Value) (size bytes:Nat) (ht:P.underlying t=some (.slice e)) (hi:P.info? e=some i) (hz:i.zero=some z)
  (hsize:i.size=size) (hby:i.bytes=bytes) (hzs:z.cells.size=size) (hsz:0<size)
  (v:Value) (n:Nat) (xs:List Value) (hs:a.eval s=v) (hown:w.ownsRow base e size v n xs)
  (A:Option Addr) (m c:Nat) (news:List Value) (hx:a.eval x = .slice A m c) (hl:news.length=m*size) (hr:Src w A m news) (h1:∀ u∈news,u.oneCell'=true)
  (h63:n+m<=maxLen) (hbytes:(n+m)*bytes<=140737488355328) (hbase:base<=w.heap.size)
  (h:∀ v' w',w'.ownsRow base e size v' (n+m) (xs++news)->w.grownBy w' v.ownBlock->(v'.ownBlock=v.ownBlock\/v'.ownBlock=some w.heap.size)->wpList P ops Q rest (a.put o.dst v') w'):wpList P ops Q (o::rest) a w:=
 wpList_plain hgd fun _ hK=>vI w s x t ho base e i z size bytes ht hi hz hsize hby hzs hsz v n xs hs hown A m c news hx hl hr h1 h63 hbytes hbase fun v' w' h2 h3 h4=>hK _ _ (h v' w' h2 h3 h4)
end
theorem pV (b o j:Nat):(⟨b,o,none⟩:Addr).add j=⟨b,o+j,none⟩:=by
 unfold Addr.add
 by_cases h:j=0 <;> simp [h]
section
variable {α:Type} {f:α->List Value} {s:Nat} {t:TypeId} {w w':World} {lo hi:Nat} {v:Value} {xs:List α}
theorem flat_get (hf:∀ x,(f x).length=s) (xs:List α) (k:Nat) (h:k<xs.length) (j:Nat) (hj:j<s):(xs.flatMap f)[k*s+j]? = (f xs[k])[j]? := by
 induction xs generalizing k with
 | nil=>simp at h
 | cons x r ih=>
  rw [List.flatMap_cons]
  match k,h with
  | 0,_=>
   rw [gal (by rw [hf];omega)];simp
  | k+1,h=>
   have h2:k<r.length:=by simpa using h
   rw [gar (by rw [hf,Nat.add_mul];omega)];have := ih k h2;rw [hf,show (k+1)*s+j-s=k*s+j from by rw [Nat.add_mul];omega];simpa using this
theorem zD (hf:∀ x,(f x).length=s) (xs:List α):(xs.flatMap f).length=xs.length*s:=by
 induction xs with
 | nil=>simp
 | cons x r ih=>rw [List.flatMap_cons,lla,hf,ih,llc,Nat.add_mul];omega
theorem Az (hs:0<s) {n q:Nat} (h:q<n*s):q / s<n/\q % s<s/\q=q / s*s+q % s:=
 ⟨(Nat.div_lt_iff_lt_mul hs).2 h,Nat.mod_lt _ hs,by rw [Nat.mul_comm];exact (Nat.div_add_mod q s).symm⟩
theorem Ow.row (hf:∀ x,(f x).length=s) (hs:0<s) (h:Ow f s t w lo hi v xs) (hn:0<xs.length):w.ownsRow lo t s v xs.length (xs.flatMap f):=by
 obtain ⟨A,c,rfl,hc,hm,r⟩:=h;obtain ⟨g,cur,rfl,hg1,hg2,hB,hsz,hx⟩:=r hn;refine ⟨zD hf xs,.inr ⟨g,c,cur,rfl,hg1,hB,hc,by simp only [maxLen];omega,hsz,?_⟩⟩;have hle:xs.length*s<=c*s:=Nat.mul_le_mul_right s hc;apply List.ext_getElem?;intro q
 by_cases hq:q<xs.length*s
 ·obtain ⟨h1,h2,h3⟩:=Az hs hq;rw [List.getElem?_take,if_pos hq];have hlt:q % s<(f xs[q / s]).length:=by rw [hf];exact h2
  have := hx _ h1 _ _ (geq hlt);rw [<- h3] at this;rw [Array.getElem?_toList,this,<- geq hlt,<- flat_get hf xs _ h1 _ h2,<- h3]
 ·rw [gen (Nat.le_trans (List.length_take_le _ _) (by omega)),gen (by rw [zD hf];omega)]
end
theorem bT (x lo hi:Int) (b:Bool) (hb:(decide (lo<=x)&&decide (x<=hi))=b) (w:World) :
  Calls Tryz.prog 46 #[.int .i64 x,.int .i64 lo,.int .i64 hi] w fun e w'=>e = .returned (.bool b)/\w=w':=by
 subst hb
 by_cases h1:lo<=x
 ·by_cases h2:x<=hi
  ·go_enter Tryz.func46,Tryz.ntmps46
   go_wp2
   all_goals (go_ret;exact ⟨ay (by simp [h1,h2]),rfl⟩)
  ·go_enter Tryz.func46,Tryz.ntmps46
   go_wp2
   all_goals (go_ret;exact ⟨ay (by simp;omega),rfl⟩)
 ·go_enter Tryz.func46,Tryz.ntmps46
  go_wp2
  all_goals (go_ret;exact ⟨ay (by simp;omega),rfl⟩)
theorem su.nil_ {α:Type} {f:α->List Value} {s:Nat} {to ti:TypeId} {w:World} {lo hi:Nat} (A:Option Addr) (c:Nat) (hc:c<=9223372036854775807):su f s to ti w lo hi (.slice A 0 c) []:=
 ⟨[],⟨A,c,rfl,by simp,hc,fun h=>absurd h (by simp)⟩,rfl,fun k h=>absurd h (by simp),fun i j h=>absurd h (by simp)⟩
def gy (x:Jh):Ins:=⟨x.Op,x.Loc,x.Reg,x.Val⟩
theorem sD {α β:Type} (e:α->β) (p:List (List α)):total (p.map fun r=>r.map e)=total p:=by
 unfold total;rw [List.map_map]
 congr 1
 exact List.map_congr_left fun r _=>llm _
theorem kV (x hi:Int) (b:Bool) (hb:(decide (0<=x)&&decide (x<=hi))=b) (w:World) :
  Calls Tryz.prog 132 #[.int .i64 x,.int .i64 hi] w fun e w'=>e = .returned (.bool b)/\w=w':=by
 subst hb
 by_cases h1:0<=x
 ·by_cases h2:x<=hi
  ·go_enter Tryz.func132,Tryz.ntmps132
   go_wp2
   all_goals (go_ret;exact ⟨ay (by simp [h1,h2]),rfl⟩)
  ·go_enter Tryz.func132,Tryz.ntmps132
   go_wp2
   all_goals (go_ret;exact ⟨ay (by simp;omega),rfl⟩)
 ·go_enter Tryz.func132,Tryz.ntmps132
  go_wp2
  all_goals (go_ret;exact ⟨ay (by simp;omega),rfl⟩)
def inB (x hi:Int):Bool:=decide (0<=x)&&decide (x<=hi)
def gz (x:Ins):Bool:=
 if x.op=1\/x.op=3 then inB x.loc 2&&inB x.reg 2&&x.val==0
 else if x.op=2 then inB x.loc 2&&x.reg==0&&inB x.val 3
 else if x.op=4 then x.loc==0&&x.reg==0&&x.val==0
 else if x.op=5 then inB x.loc 2&&inB x.reg 2&&inB x.val 3
 else false
theorem nB (x:Ins) (w:World) :
  Calls Tryz.prog 112 #[x.v] w fun e w'=>e = .returned (.bool (gz x))/\Below w.heap.size w w':=by
 obtain ⟨op,a,b,c⟩:=x;have hop:(op=1\/op=3)\/op=2\/op=4\/op=5\/((op==1)=false/\(op==3)=false/\(op==2)=false/\(op==4)=false/\(op==5)=false):=by
  simp only [beq_eq_false_iff_ne,ne_eq];omega
 unfold Ins.v;rcases hop with hop | rfl | rfl | rfl | ⟨h1,h2,h3,h4,h5⟩
 ·have hr:gz ⟨op,a,b,c⟩=(inB a 2&&inB b 2&&c==0):=by unfold gz;rw [if_pos hop]
  generalize ha:inB a 2=pa at *;generalize hb:inB b 2=pb at *;have HR:=Lib.hid hr;clear hr;have HA:=Lib.hid ha;clear ha;have HB:=Lib.hid hb;clear hb;rcases hop with rfl | rfl
  all_goals
   go_enter Tryz.func112,Tryz.ntmps112
   go_wp2_with (first
    | (go_at_call_of 132 (Value.int .i64 a);refine (kV a 2 _ HA.out _).mono ?_;rintro e w1 ⟨rfl,rfl⟩)
    | (go_at_call_of 132 (Value.int .i64 b);refine (kV b 2 _ HB.out _).mono ?_;rintro e w1 ⟨rfl,rfl⟩))
   all_goals (go_ret;exact ⟨ay (by rw [HR.out];simp_all),(Below.refl _ _).alloc (Nat.le_refl _) _⟩)
 ·have hr:gz ⟨2,a,b,c⟩=(inB a 2&&b==0&&inB c 3):=rfl;generalize ha:inB a 2=pa at *;generalize hc:inB c 3=pc at *;have HR:=Lib.hid hr;clear hr;have HA:=Lib.hid ha;clear ha;have HC:=Lib.hid hc;clear hc
  go_enter Tryz.func112,Tryz.ntmps112
  go_wp2_with (first
   | (go_at_call_of 132 (Value.int .i64 a);refine (kV a 2 _ HA.out _).mono ?_;rintro e w1 ⟨rfl,rfl⟩)
   | (go_at_call_of 132 (Value.int .i64 c);refine (kV c 3 _ HC.out _).mono ?_;rintro e w1 ⟨rfl,rfl⟩))
  all_goals (go_ret;exact ⟨ay (by rw [HR.out];simp_all),(Below.refl _ _).alloc (Nat.le_refl _) _⟩)
 ·have hr:gz ⟨4,a,b,c⟩=(a==0&&b==0&&c==0):=rfl;have HR:=Lib.hid hr;clear hr
  go_enter Tryz.func112,Tryz.ntmps112
  go_wp2_with fail
  all_goals (go_ret;exact ⟨ay (by rw [HR.out];simp_all),(Below.refl _ _).alloc (Nat.le_refl _) _⟩)
 ·have hr:gz ⟨5,a,b,c⟩=(inB a 2&&inB b 2&&inB c 3):=rfl;generalize ha:inB a 2=pa at *;generalize hb:inB b 2=pb at *;generalize hc:inB c 3=pc at *;have HR:=Lib.hid hr;clear hr;have HA:=Lib.hid ha;clear ha;have HB:=Lib.hid hb;clear hb;have HC:=Lib.hid hc;clear hc
  go_enter Tryz.func112,Tryz.ntmps112
  go_wp2_with (first
   | (go_at_call_of 132 (Value.int .i64 a);refine (kV a 2 _ HA.out _).mono ?_;rintro e w1 ⟨rfl,rfl⟩)
   | (go_at_call_of 132 (Value.int .i64 b);refine (kV b 2 _ HB.out _).mono ?_;rintro e w1 ⟨rfl,rfl⟩)
   | (go_at_call_of 132 (Value.int .i64 c);refine (kV c 3 _ HC.out _).mono ?_;rintro e w1 ⟨rfl,rfl⟩))
  all_goals (go_ret;exact ⟨ay (by rw [HR.out];simp_all),(Below.refl _ _).alloc (Nat.le_refl _) _⟩)
 ·have hr:gz ⟨op,a,b,c⟩=false:=by
   simp only [beq_eq_false_iff_ne,ne_eq] at h1 h2 h3 h4 h5;simp [gz,h1,h2,h3,h4,h5]
  have HR:=Lib.hid hr;clear hr
  go_enter Tryz.func112,Tryz.ntmps112
  go_wp2_with fail
  all_goals (go_ret;exact ⟨ay (by rw [HR.out]),(Below.refl _ _).alloc (Nat.le_refl _) _⟩)
theorem nC (x:Ins) (w:World) :
  Calls Tryz.prog 47 #[x.v] w fun e w'=>e = .returned (.bool (gz x))/\Below w.heap.size w w':=by
 obtain ⟨op,a,b,c⟩:=x;have hop:(op=1\/op=3)\/op=2\/op=4\/op=5\/((op==1)=false/\(op==3)=false/\(op==2)=false/\(op==4)=false/\(op==5)=false):=by
  simp only [beq_eq_false_iff_ne,ne_eq];omega
 unfold Ins.v;rcases hop with hop | rfl | rfl | rfl | ⟨h1,h2,h3,h4,h5⟩
 ·have hr:gz ⟨op,a,b,c⟩=(inB a 2&&inB b 2&&c==0):=by unfold gz;rw [if_pos hop]
  generalize ha:inB a 2=pa at *;generalize hb:inB b 2=pb at *;have HR:=Lib.hid hr;clear hr;have HA:=Lib.hid ha;clear ha;have HB:=Lib.hid hb;clear hb;rcases hop with rfl | rfl
  all_goals
   go_enter Tryz.func47,Tryz.ntmps47
   go_wp2_with fail
   go_region
   go_wp2_with (first
    | (go_at_call_of 46 (Value.int .i64 a);refine (bT a 0 2 _ HA.out _).mono ?_;rintro e w1 ⟨rfl,rfl⟩)
    | (go_at_call_of 46 (Value.int .i64 b);refine (bT b 0 2 _ HB.out _).mono ?_;rintro e w1 ⟨rfl,rfl⟩)
    | (go_at_call 46;refine (bT _ _ _ true (by decide) _).mono ?_;rintro e w1 ⟨rfl,rfl⟩))
   all_goals (first | (go_ret;exact ⟨ay (by rw [HR.out];simp_all),(((Below.refl _ _).alloc (Nat.le_refl _) _).alloc (by simp) _).drew⟩) | (go_ret;exact ⟨ay (by rw [HR.out];simp_all),(((Below.refl _ _).alloc (Nat.le_refl _) _).alloc (by simp) _)⟩))
 ·have hr:gz ⟨2,a,b,c⟩=(inB a 2&&b==0&&inB c 3):=rfl;generalize ha:inB a 2=pa at *;generalize hc:inB c 3=pc at *;have HR:=Lib.hid hr;clear hr;have HA:=Lib.hid ha;clear ha;have HC:=Lib.hid hc;clear hc
  go_enter Tryz.func47,Tryz.ntmps47
  go_wp2_with fail
  go_region
  go_wp2_with (first
   | (go_at_call_of 46 (Value.int .i64 a);refine (bT a 0 2 _ HA.out _).mono ?_;rintro e w1 ⟨rfl,rfl⟩)
   | (go_at_call_of 46 (Value.int .i64 c);refine (bT c 0 3 _ HC.out _).mono ?_;rintro e w1 ⟨rfl,rfl⟩)
   | (go_at_call 46;refine (bT _ _ _ true (by decide) _).mono ?_;rintro e w1 ⟨rfl,rfl⟩))
  all_goals (first | (go_ret;exact ⟨ay (by rw [HR.out];simp_all),(((Below.refl _ _).alloc (Nat.le_refl _) _).alloc (by simp) _).drew⟩) | (go_ret;exact ⟨ay (by rw [HR.out];simp_all),(((Below.refl _ _).alloc (Nat.le_refl _) _).alloc (by simp) _)⟩))
 ·have hr:gz ⟨4,a,b,c⟩=(a==0&&b==0&&c==0):=rfl;have HR:=Lib.hid hr;clear hr
  go_enter Tryz.func47,Tryz.ntmps47
  go_wp2_with (first
   | (go_at_call 46;refine (bT _ _ _ true (by decide) _).mono ?_;rintro e w1 ⟨rfl,rfl⟩))
  all_goals (first | (go_ret;exact ⟨ay (by rw [HR.out];simp_all),(((Below.refl _ _).alloc (Nat.le_refl _) _).alloc (by simp) _).drew⟩) | (go_ret;exact ⟨ay (by rw [HR.out];simp_all),(((Below.refl _ _).alloc (Nat.le_refl _) _).alloc (by simp) _)⟩))
 ·have hr:gz ⟨5,a,b,c⟩=(inB a 2&&inB b 2&&inB c 3):=rfl;generalize ha:inB a 2=pa at *;generalize hb:inB b 2=pb at *;generalize hc:inB c 3=pc at *;have HR:=Lib.hid hr;clear hr;have HA:=Lib.hid ha;clear ha;have HB:=Lib.hid hb;clear hb;have HC:=Lib.hid hc;clear hc
  go_enter Tryz.func47,Tryz.ntmps47
  go_wp2_with (first
   | (go_at_call_of 46 (Value.int .i64 a);refine (bT a 0 2 _ HA.out _).mono ?_;rintro e w1 ⟨rfl,rfl⟩)
   | (go_at_call_of 46 (Value.int .i64 b);refine (bT b 0 2 _ HB.out _).mono ?_;rintro e w1 ⟨rfl,rfl⟩)
   | (go_at_call_of 46 (Value.int .i64 c);refine (bT c 0 3 _ HC.out _).mono ?_;rintro e w1 ⟨rfl,rfl⟩))
  all_goals (first | (go_ret;exact ⟨ay (by rw [HR.out];simp_all),(((Below.refl _ _).alloc (Nat.le_refl _) _).alloc (by simp) _).drew⟩) | (go_ret;exact ⟨ay (by rw [HR.out];simp_all),(((Below.refl _ _).alloc (Nat.le_refl _) _).alloc (by simp) _)⟩))
 ·have hr:gz ⟨op,a,b,c⟩=false:=by
   simp only [beq_eq_false_iff_ne,ne_eq] at h1 h2 h3 h4 h5;simp [gz,h1,h2,h3,h4,h5]
  have HR:=Lib.hid hr;clear hr
  go_enter Tryz.func47,Tryz.ntmps47
  go_wp2_with fail
  all_goals (go_ret;exact ⟨ay (by rw [HR.out]),(((Below.refl _ _).alloc (Nat.le_refl _) _).alloc (by simp) _)⟩)
def rdO (o:Int):Bool:=o==1||o==5
def wrO (o:Int):Bool:=o==2||o==3||o==5
def rdB (x:Ins):Bool:=rdO x.op
def wrB (x:Ins):Bool:=wrO x.op
theorem Cb (op a b c:Int) (w:World):Calls Tryz.prog 84 #[.agg #[.int .i64 op,.int .i64 a,.int .i64 b,.int .i64 c]] w fun e w'=>e = .returned (.bool (rdO op))/\Below w.heap.size w w':=by
 unfold rdO
 go_enter Tryz.func84,Tryz.ntmps84
 go_wp2_with fail
 all_goals (go_ret;exact ⟨ay (by simp_all),(Below.refl _ _).alloc (Nat.le_refl _) _⟩)
theorem yH (op a b c:Int) (w:World):Calls Tryz.prog 92 #[.agg #[.int .i64 op,.int .i64 a,.int .i64 b,.int .i64 c]] w fun e w'=>e = .returned (.bool (rdO op))/\Below w.heap.size w w':=by
 unfold rdO
 go_enter Tryz.func92,Tryz.ntmps92
 go_wp2_with fail
 all_goals (go_ret;exact ⟨ay (by simp_all),(Below.refl _ _).alloc (Nat.le_refl _) _⟩)
theorem AA (op a b c:Int) (w:World):Calls Tryz.prog 85 #[.agg #[.int .i64 op,.int .i64 a,.int .i64 b,.int .i64 c]] w fun e w'=>e = .returned (.bool (wrO op))/\Below w.heap.size w w':=by
 unfold wrO
 go_enter Tryz.func85,Tryz.ntmps85
 go_wp2_with fail
 all_goals (go_ret;exact ⟨ay (by simp_all),(Below.refl _ _).alloc (Nat.le_refl _) _⟩)
theorem xe (op a b c:Int) (w:World):Calls Tryz.prog 93 #[.agg #[.int .i64 op,.int .i64 a,.int .i64 b,.int .i64 c]] w fun e w'=>e = .returned (.bool (wrO op))/\Below w.heap.size w w':=by
 unfold wrO
 go_enter Tryz.func93,Tryz.ntmps93
 go_wp2_with fail
 all_goals (go_ret;exact ⟨ay (by simp_all),(Below.refl _ _).alloc (Nat.le_refl _) _⟩)
def kW (f:Ins->Bool) (p:List (List Ins)):Nat:=(p.map (List.countP f)).sum
theorem cG (f:Ins->Bool) (p:List (List Ins)) (k:Nat) (h:k<p.length):kW f (p.take (k+1))=kW f (p.take k)+p[k].countP f:=by
 unfold kW;rw [gq _ _ h,List.map_append,List.sum_append];simp
theorem bU (f:Ins->Bool) (l:List Ins) (k:Nat) (h:k<l.length):(l.take (k+1)).countP f=(l.take k).countP f+if f l[k] then 1 else 0:=by
 rw [gq _ _ h,List.countP_append];simp [List.countP_cons]
theorem sF (f:Ins->Bool) (p:List (List Ins)):kW f p<=total p:=by
 unfold kW total
 induction p with
 | nil=>simp
 | cons r p ih=>
  simp only [List.map_cons,List.sum_cons];have := List.countP_le_length (p:=f) (l:=r);omega
theorem fQ (f:Ins->Bool) (p:List (List Ins)) (k j:Nat) (h:k<p.length):kW f (p.take k)+(p[k].take j).countP f<=total p:=by
 have h1:=sF f (p.take k);have h2:=List.countP_le_length (p:=f) (l:=p[k].take j);have h3:=List.length_take_le' j p[k];have h4:=cW p k h;have h5:=gu p (k+1);omega
def aV (loc:Int) (f:Ins->Bool) (x:Ins):Bool:=x.loc==loc&&f x
theorem Cc {lo hi:Nat} {u:Value} {p:List (List Ins)} {w:World} {loc:Int} (hu:iO Ins.cells 4 w lo hi u p) (ht:total p<=1048576) :
  Calls Tryz.prog 107 #[u,.int .i64 loc,.bool true] w fun e w'=>e = .returned (.int .i64 (kW (aV loc wrB) p))/\Below w.heap.size w w':=by
 obtain ⟨xs,hxs,hxl,hxr⟩:=hu;obtain ⟨A,ca,rfl,hca,hma,hA⟩:=hxs.vals;clear hxs;have HX:=Lib.hid hxl;clear hxl;have HXR:=Lib.hid hxr;clear hxr;have HAA:=Lib.hid hA;clear hA
 go_enter Tryz.func107,Tryz.ntmps107
 go_wp2_with fail
 go_loopw [7,8] (fun n i wr=>∃ k:Nat,k<=xs.length/\i = .int .i64 k/\n = .int .i64 (kW (aV loc wrB) (p.take k))/\Below w.heap.size w wr) (fun _ i _=>xs.length-(intOf i).toNat)
 case atStart=>exact ⟨0,Nat.zero_le _,rfl,rfl,Below.refl _ _⟩
 case round=>
  obtain ⟨k,hk,rfl,rfl,hb⟩:=hrel
  by_cases hlt:k<xs.length
  ·obtain ⟨ba,oa,rfl,_,_,hba,hA⟩:=HAA.out (by omega);have hp:k<p.length:=HX.out ▸ hlt;obtain ⟨Ak,ck,hk1,hk2,hk3,hrow⟩:=(HXR.out k hlt hp).inss;have HROW:=Lib.hid hrow;clear hrow;have ca0:=hA k hlt;rw [hk1] at ca0;have CA:=Lib.hid ca0;clear hA hk1 ca0;have i1:(0:Int)<=(k:Int):=by omega
   have i2:(k:Int)<(xs.length:Int):=by omega
   have HT:=Lib.hid (cG (aV loc wrB) p k hp);have HPL:=Lib.hid (fun j=>fQ (aV loc wrB) p k j hp);obtain ⟨wo,rfl⟩:∃ wo:World,wo=wr:=⟨_,rfl⟩
   go_wp2_with fail
   go_loopw [7,9] (fun n i w2=>∃ j:Nat,j<=p[k].length/\i = .int .i64 j/\n = .int .i64 (kW (aV loc wrB) (p.take k)+(p[k].take j).countP (aV loc wrB):Nat)/\Below w.heap.size w w2) (fun _ i _=>p[k].length-(intOf i).toNat)
   case atStart=>exact ⟨0,Nat.zero_le _,rfl,by simp,hb⟩
   case round=>
    obtain ⟨j,hj,rfl,rfl,hb2⟩:=hrel;have c0:=(hb2.cell (p:=⟨ba,oa+k,none⟩) hba).trans CA.out;have hsm:kW (aV loc wrB) (p.take k)+(p[k].take j).countP (aV loc wrB)<=1048576:=Nat.le_trans (HPL.out j) ht
    by_cases hlj:j<p[k].length
    ·obtain ⟨bb,ob,rfl,_,_,hbb,hB⟩:=HROW.out (by omega);obtain ⟨d1,d2,d3,d4⟩:=(hB j hlj).below hb2 hbb;have HS:=Lib.hid (bU (aV loc wrB) p[k] j hlj);have j1:(0:Int)<=(j:Int):=by omega
     have j2:(j:Int)<(p[k].length:Int):=by omega
     clear hB
     go_wp2_with (go_at_call 93;refine (xe _ _ _ _ _).mono ?_;rintro e w3 ⟨rfl,hq⟩)
     ·have ef:aV loc wrB p[k][j]=true:=by simp [aV,wrB, *]
      go_roundw
      case rel=>
       have h:=HS.out;rw [if_pos ef] at h;exact ⟨j+1,by omega,by go_num,congrArg (Value.int .i64) (by omega),(hb2.alloc hb2.size _).trans (hq.mono (by simp;have := hb2.size;omega))⟩
      case measure=>simp [intOf];omega
     ·have ef : ¬ aV loc wrB p[k][j]=true:=by simp [aV,wrB, *]
      go_roundw
      case rel=>
       have h:=HS.out;rw [if_neg ef] at h;exact ⟨j+1,by omega,by go_num,congrArg (Value.int .i64) (by omega),(hb2.alloc hb2.size _).trans (hq.mono (by simp;have := hb2.size;omega))⟩
      case measure=>simp [intOf];omega
     ·have ef : ¬ aV loc wrB p[k][j]=true:=by simp [aV, *]
      go_roundw
      case rel=>
       have h:=HS.out;rw [if_neg ef] at h;exact ⟨j+1,by omega,by go_num,congrArg (Value.int .i64) (by omega),hb2.alloc hb2.size _⟩
      case measure=>simp [intOf];omega
    ·have hjx:p[k].take j=p[k]:=List.take_of_length_le (by omega);have HJ:=Lib.hid hjx;clear hjx
     go_wp2_with fail
     go_roundw
     case rel=>exact ⟨k+1,by omega,by go_num,congrArg (Value.int .i64) (by rw [HJ.out,HT.out]),hb2⟩
     case measure=>simp [intOf];omega
  ·have hkx:p.take k=p:=List.take_of_length_le (by rw [<- HX.out];omega);have HK:=Lib.hid hkx;clear hkx
   go_wp2_with fail
   go_ret
   exact ⟨ik (by rw [HK.out]),hb⟩
theorem Ce {lo hi:Nat} {u:Value} {p:List (List Ins)} {w:World} {loc:Int} (hu:iO Ins.cells 4 w lo hi u p) (ht:total p<=1048576) :
  Calls Tryz.prog 107 #[u,.int .i64 loc,.bool false] w fun e w'=>e = .returned (.int .i64 (kW (aV loc rdB) p))/\Below w.heap.size w w':=by
 obtain ⟨xs,hxs,hxl,hxr⟩:=hu;obtain ⟨A,ca,rfl,hca,hma,hA⟩:=hxs.vals;clear hxs;have HX:=Lib.hid hxl;clear hxl;have HXR:=Lib.hid hxr;clear hxr;have HAA:=Lib.hid hA;clear hA
 go_enter Tryz.func107,Tryz.ntmps107
 go_wp2_with fail
 go_loopw [7,8] (fun n i wr=>∃ k:Nat,k<=xs.length/\i = .int .i64 k/\n = .int .i64 (kW (aV loc rdB) (p.take k))/\Below w.heap.size w wr) (fun _ i _=>xs.length-(intOf i).toNat)
 case atStart=>exact ⟨0,Nat.zero_le _,rfl,rfl,Below.refl _ _⟩
 case round=>
  obtain ⟨k,hk,rfl,rfl,hb⟩:=hrel
  by_cases hlt:k<xs.length
  ·obtain ⟨ba,oa,rfl,_,_,hba,hA⟩:=HAA.out (by omega);have hp:k<p.length:=HX.out ▸ hlt;obtain ⟨Ak,ck,hk1,hk2,hk3,hrow⟩:=(HXR.out k hlt hp).inss;have HROW:=Lib.hid hrow;clear hrow;have ca0:=hA k hlt;rw [hk1] at ca0;have CA:=Lib.hid ca0;clear hA hk1 ca0;have i1:(0:Int)<=(k:Int):=by omega
   have i2:(k:Int)<(xs.length:Int):=by omega
   have HT:=Lib.hid (cG (aV loc rdB) p k hp);have HPL:=Lib.hid (fun j=>fQ (aV loc rdB) p k j hp);obtain ⟨wo,rfl⟩:∃ wo:World,wo=wr:=⟨_,rfl⟩
   go_wp2_with fail
   go_loopw [7,9] (fun n i w2=>∃ j:Nat,j<=p[k].length/\i = .int .i64 j/\n = .int .i64 (kW (aV loc rdB) (p.take k)+(p[k].take j).countP (aV loc rdB):Nat)/\Below w.heap.size w w2) (fun _ i _=>p[k].length-(intOf i).toNat)
   case atStart=>exact ⟨0,Nat.zero_le _,rfl,by simp,hb⟩
   case round=>
    obtain ⟨j,hj,rfl,rfl,hb2⟩:=hrel;have c0:=(hb2.cell (p:=⟨ba,oa+k,none⟩) hba).trans CA.out;have hsm:kW (aV loc rdB) (p.take k)+(p[k].take j).countP (aV loc rdB)<=1048576:=Nat.le_trans (HPL.out j) ht
    by_cases hlj:j<p[k].length
    ·obtain ⟨bb,ob,rfl,_,_,hbb,hB⟩:=HROW.out (by omega);obtain ⟨d1,d2,d3,d4⟩:=(hB j hlj).below hb2 hbb;have HS:=Lib.hid (bU (aV loc rdB) p[k] j hlj);have j1:(0:Int)<=(j:Int):=by omega
     have j2:(j:Int)<(p[k].length:Int):=by omega
     clear hB
     go_wp2_with (go_at_call 92;refine (yH _ _ _ _ _).mono ?_;rintro e w3 ⟨rfl,hq⟩)
     ·have ef:aV loc rdB p[k][j]=true:=by simp [aV,rdB, *]
      go_roundw
      case rel=>
       have h:=HS.out;rw [if_pos ef] at h;exact ⟨j+1,by omega,by go_num,congrArg (Value.int .i64) (by omega),(hb2.alloc hb2.size _).trans (hq.mono (by simp;have := hb2.size;omega))⟩
      case measure=>simp [intOf];omega
     ·have ef : ¬ aV loc rdB p[k][j]=true:=by simp [aV,rdB, *]
      go_roundw
      case rel=>
       have h:=HS.out;rw [if_neg ef] at h;exact ⟨j+1,by omega,by go_num,congrArg (Value.int .i64) (by omega),(hb2.alloc hb2.size _).trans (hq.mono (by simp;have := hb2.size;omega))⟩
      case measure=>simp [intOf];omega
     ·have ef : ¬ aV loc rdB p[k][j]=true:=by simp [aV, *]
      go_roundw
      case rel=>
       have h:=HS.out;rw [if_neg ef] at h;exact ⟨j+1,by omega,by go_num,congrArg (Value.int .i64) (by omega),hb2.alloc hb2.size _⟩
      case measure=>simp [intOf];omega
    ·have hjx:p[k].take j=p[k]:=List.take_of_length_le (by omega);have HJ:=Lib.hid hjx;clear hjx
     go_wp2_with fail
     go_roundw
     case rel=>exact ⟨k+1,by omega,by go_num,congrArg (Value.int .i64) (by rw [HJ.out,HT.out]),hb2⟩
     case measure=>simp [intOf];omega
  ·have hkx:p.take k=p:=List.take_of_length_le (by rw [<- HX.out];omega);have HK:=Lib.hid hkx;clear hkx
   go_wp2_with fail
   go_ret
   exact ⟨ik (by rw [HK.out]),hb⟩
def iP (n:Nat):Nat:=min n 3001
def Jm:Nat->Nat
 | 0=>1
 | n+1=>Jm n*(n+1)
theorem pW (n:Nat):1<=Jm n:=by
 induction n with
 | zero=>exact Nat.le_refl _
 | succ n ih=>exact Nat.mul_pos ih (by omega)
def cw (p:List (List Ins)) (l:Int):Nat:=kW (aV l wrB) p
def cr (p:List (List Ins)) (l:Int):Nat:=kW (aV l rdB) p
def Hd (p:List (List Ins)) (l:Nat):Nat:=(cw p l+1) ^ (cr p l)*Jm (cw p l)
def pT (p:List (List Ins)):Nat->Nat
 | 0=>1
 | l+1=>pT p l*Hd p l
def l5 (p:List (List Ins)):Nat:=pT p 3
theorem vJ {a b:Nat} (n:Nat) (h:iP a=iP b) (hn:1<=n):iP (a*n)=iP (b*n):=by
 unfold iP at *
 by_cases ha:a<3001
 ·have : a=b:=by omega
  rw [this]
 ·have h1:a<=a*n:=Nat.le_mul_of_pos_right a hn;have h2:b<=b*n:=Nat.le_mul_of_pos_right b hn;omega
theorem zE {a b n:Nat} (h:iP a=iP b) (ha:3000<a) (hn:1<=n):iP a=iP (b*n):=by
 unfold iP at *;have h2:b<=b*n:=Nat.le_mul_of_pos_right b hn;omega
theorem Cf {a i r:Nat} (h:i<=r):a ^ r=a ^ i*a ^ (r-i):=by rw [<- Nat.pow_add];congr 1;omega
theorem xg (i:Nat):∀ d,∃ q,1<=q/\Jm (i+d)=Jm i*q
 | 0=>⟨1,Nat.le_refl _,by simp⟩
 | d+1=>by
  obtain ⟨q,hq,h⟩:=xg i d;exact ⟨q*(i+d+1),Nat.mul_pos hq (by omega),by rw [<- Nat.add_assoc,Jm,h,Nat.mul_assoc]⟩
theorem Cg {n a:Int} (h:n<=3000) (_:0<=n) (ha:a<=1048577) (ha0:0<=a):n*a<=3145731000:=by
 have : n*a<=3000*1048577:=Int.mul_le_mul h ha ha0 (by omega);omega
theorem Ci {n a:Nat} (h:n<=3000) (ha:a<=1048577):n*a<=4000000000:=by
 have : n*a<=3000*1048577:=Nat.mul_le_mul h ha;omega
set_option maxHeartbeats 1000000 in
theorem yI {lo hi:Nat} {u:Value} {p:List (List Ins)} {w:World} (hu:iO Ins.cells 4 w lo hi u p) (hhi:hi<=w.heap.size) (ht:total p<=1048576) :
  Calls Tryz.prog 80 #[u,.int .i64 3000] w fun e w'=>e = .returned (.int .i64 (iP (l5 p)))/\Below w.heap.size w w':=by
 have HU:=Lib.hid hu;clear hu
 go_enter Tryz.func80,Tryz.ntmps80
 go_wp2_with fail
 go_loopw [5,6] (fun sn sl wr=>∃ (l n:Nat),l<=3/\sl = .int .i64 l/\sn = .int .i64 n/\n<=4000000000/\1<=n/\iP n=iP (pT p l)/\Below w.heap.size w wr) (fun _ sl _=>3-(intOf sl).toNat)
 case atStart=>exact ⟨0,1,by omega,rfl,rfl,by omega,by omega,rfl,Below.refl _ _⟩
 case round=>
  obtain ⟨l,n,hl,rfl,rfl,hn,hn1,hcap,hb⟩:=hrel;have HC:=Lib.hid hcap;clear hcap
  by_cases hl3:l<3
  ·have hle:(l:Int)<=2:=by omega
   have HW:=Lib.hid (show pT p (l+1)=pT p l*((cw p l+1) ^ (cr p l)*Jm (cw p l)) from rfl);have hcw:=sF (aV (l:Int) wrB) p;have hcr:=sF (aV (l:Int) rdB) p;have CW:=Lib.hid (fun W hs=>Cc (loc:=(l:Int)) (w:=W) (hs:iO Ins.cells 4 W lo hi u p) ht);have CR:=Lib.hid (fun W hs=>Ce (loc:=(l:Int)) (w:=W) (hs:iO Ins.cells 4 W lo hi u p) ht);change cw p l<=total p at hcw;change cr p l<=total p at hcr;have CW2:Hid (∀ W,iO Ins.cells 4 W lo hi u p->Calls Tryz.prog 107 #[u,.int .i64 (l:Int),.bool true] W fun e w'=>e = .returned (.int .i64 (cw p l))/\Below W.heap.size W w'):=CW.out;have CR2:Hid (∀ W,iO Ins.cells 4 W lo hi u p->Calls Tryz.prog 107 #[u,.int .i64 (l:Int),.bool false] W fun e w'=>e = .returned (.int .i64 (cr p l))/\Below W.heap.size W w'):=CR.out;clear CW CR;generalize cw p l=a at *;generalize cr p l=r at *;obtain ⟨wo,rfl⟩:∃ wo:World,wo=wr:=⟨_,rfl⟩
   go_wp2_with fail
   refine (CW2.out _ (HU.out.below hb hhi)).mono ?_;rintro e w1 ⟨rfl,hq1⟩;have hb1:Below w.heap.size w w1:=hb.trans (hq1.mono hb.size);have ha1:(a:Int)<=1048576:=by omega
   go_wp2_with fail
   go_loopw [5,8] (fun sn si w2=>∃ (i n:Nat),i<=r/\si = .int .i64 i/\sn = .int .i64 n/\n<=4000000000/\1<=n/\iP n=iP (pT p l*(a+1) ^ i)/\Below w.heap.size w w2) (fun _ si _=>r-(intOf si).toNat)
   case atStart=>exact ⟨0,n,Nat.zero_le _,rfl,rfl,hn,hn1,by rw [HC.out];simp,hb1⟩
   case round=>
    obtain ⟨i,n,hi,rfl,rfl,hn,hn1,hcap,hb2⟩:=hrel;have HC1:=Lib.hid hcap;clear hcap
    by_cases hgo:i<r/\n<=3000
    ·obtain ⟨h1,h2⟩:=hgo;have h1':(i:Int)<(r:Int):=by omega
     have h2':(n:Int)<=3000:=by omega
     have hmul:n*(a+1)<=4000000000:=Ci h2 (by omega);have hmul1:1<=n*(a+1):=Nat.mul_pos hn1 (by omega);have hmulI:(n:Int)*((a:Int)+1)<=3145731000:=Cg h2' (by omega) (by omega) (by omega);have hmulI0:0<=(n:Int)*((a:Int)+1):=Int.mul_nonneg (by omega) (by omega);have HM:=Lib.hid hmul;clear hmul;have HM1:=Lib.hid hmul1;clear hmul1
     go_wp2_with (go_at_call 107;refine (CR2.out _ (HU.out.below hb2 hhi)).mono ?_;rintro e w3 ⟨rfl,hq3⟩)
     go_roundw
     case rel=>
      refine ⟨i+1,n*(a+1),by omega,by go_num,by push_cast;rfl,HM.out,HM1.out,?_,hb2.trans (hq3.mono hb2.size)⟩;rw [Nat.pow_succ,<- Nat.mul_assoc];exact vJ _ HC1.out (by omega)
     case measure=>simp [intOf];omega
    ·have hc2:iP n=iP (pT p l*(a+1) ^ r):=by
      by_cases h:i<r
      ·rw [Cf hi,<- Nat.mul_assoc];exact zE HC1.out (by omega) (Nat.pow_pos (by omega))
      ·have : i=r:=by omega
       rw [<- this];exact HC1.out
     have HC2:=Lib.hid hc2;clear hc2;have hor:((i:Int)<(r:Int) /\ ¬ (n:Int)<=3000) \/ ¬ (i:Int)<(r:Int):=by omega
     clear hgo;rcases hor with ⟨h1,h2⟩ | h1
     all_goals
      obtain ⟨wi,rfl⟩:∃ wi:World,wi=wr:=⟨_,rfl⟩
      go_wp2_with (go_at_call 107;refine (CR2.out _ (HU.out.below hb2 hhi)).mono ?_;rintro e w3 ⟨rfl,hq3⟩)
      have hb3:Below w.heap.size w w3:=hb2.trans (hq3.mono hb2.size)
      go_loopw [5,9] (fun sn si w4=>∃ (i n:Nat),2<=i/\i<=max 2 (a+1)/\si = .int .i64 i/\sn = .int .i64 n/\n<=4000000000/\1<=n/\iP n=iP (pT p l*(a+1) ^ r*Jm (i-1))/\Below w.heap.size w w4) (fun _ si _=>a+3-(intOf si).toNat)
      case atStart=>exact ⟨2,n,Nat.le_refl _,by omega,rfl,rfl,hn,hn1,by rw [HC2.out];simp [Jm],hb3⟩
      case round=>
       obtain ⟨i,n,hi2,hi,rfl,rfl,hn,hn1,hcap,hb4⟩:=hrel;have HC3:=Lib.hid hcap;clear hcap
       by_cases hgo:i<=a/\n<=3000
       ·obtain ⟨h1,h2⟩:=hgo;have h1':(i:Int)<=(a:Int):=by omega
        have h2':(n:Int)<=3000:=by omega
        have hmul:n*i<=4000000000:=Ci h2 (by omega);have hmul1:1<=n*i:=Nat.mul_pos hn1 (by omega);have hmulI:(n:Int)*(i:Int)<=3145731000:=Cg h2' (by omega) (by omega) (by omega);have hmulI0:0<=(n:Int)*(i:Int):=Int.mul_nonneg (by omega) (by omega);have HM:=Lib.hid hmul;clear hmul;have HM1:=Lib.hid hmul1;clear hmul1
        go_wp2_with fail
        go_roundw
        case rel=>
         refine ⟨i+1,n*i,by omega,by omega,by go_num,by push_cast;rfl,HM.out,HM1.out,?_,hb4⟩;have : Jm (i+1-1)=Jm (i-1)*i:=by
          obtain ⟨q,rfl⟩:∃ q,i=q+1:=⟨i-1,by omega⟩
          rfl
         rw [this,<- Nat.mul_assoc];exact vJ _ HC3.out (by omega)
        case measure=>simp [intOf];omega
       ·have hc4:iP n=iP (pT p (l+1)):=by
         rw [HW.out,<- Nat.mul_assoc]
         by_cases h:i<=a
         ·obtain ⟨q,hq,hf⟩:=xg (i-1) (a-(i-1));rw [show i-1+(a-(i-1))=a from by omega] at hf;rw [hf,<- Nat.mul_assoc];exact zE HC3.out (by omega) hq
         ·have : Jm (i-1)=Jm a:=by
           by_cases ha0:a=0
           ·have : i=2:=by omega
            subst this ha0
            rfl
           ·congr 1;omega
          rw [<- this];exact HC3.out
        have HC4:=Lib.hid hc4;clear hc4;have hor:((i:Int)<=(a:Int) /\ ¬ (n:Int)<=3000) \/ ¬ (i:Int)<=(a:Int):=by omega
        clear hgo;rcases hor with ⟨h1,h2⟩ | h1
        all_goals
         go_wp2_with fail
         go_roundw
         case rel=>exact ⟨l+1,n,by omega,by go_num,rfl,hn,hn1,HC4.out,hb4⟩
         case measure=>simp [intOf];omega
  ·have hl4:l=3:=by omega
   subst hl4
   by_cases hbig:n<=3000
   ·have hfin:n=iP (l5 p):=by
     have := HC.out;unfold l5 iP at *;omega
    have HF:=Lib.hid hfin;clear hfin;have hb' : ¬ (3000:Int)<(n:Int):=by omega
    go_wp2_with fail
    go_ret
    exact ⟨ik (by rw [<- HF.out]),hb⟩
   ·have hfin:3001=iP (l5 p):=by
     have := HC.out;unfold l5 iP at *;omega
    have HF:=Lib.hid hfin;clear hfin;have hb':(3000:Int)<(n:Int):=by omega
    go_wp2_with fail
    go_ret
    exact ⟨ik (by rw [<- HF.out];rfl),hb⟩
theorem uG (g a n:Nat) (t:TypeId) (w:World) (hB:Jl w g t #[.int .i64 a]) (ha:a<=3001) (hn:n<=1048577) :
  Calls Tryz.prog 83 #[.int .i64 n,.pointer (some ⟨g,0,none⟩)] w fun e w'=>e = .returned (.tuple #[])/\w.setCell ⟨g,0,none⟩ (.int .i64 (iP (a*n):Nat))=w':=by
 have h1:(a:Int)*(n:Int)<=4000000000:=by
  have : (a:Int)*n<=3001*1048577:=Int.mul_le_mul (by omega) (by omega) (by omega) (by omega);omega
 have h0:0<=(a:Int)*(n:Int):=Int.mul_nonneg (by omega) (by omega);have c:=hB.cell 0;have f:=hB.frozen 0;have hc:w.cell? ⟨g,0,none⟩=some (.int .i64 a):=c;clear c hB
 go_enter Tryz.func83,Tryz.ntmps83
 go_wp2_with fail
 ·have hv:((iP (a*n):Nat):Int)=3001:=by
   have : ((a*n:Nat):Int)=(a:Int)*(n:Int):=by push_cast;rfl
   unfold iP;omega
  go_end0
  exact ⟨rfl,by rw [hv]⟩
 ·have hv:((iP (a*n):Nat):Int)=(a:Int)*(n:Int):=by
   have : ((a*n:Nat):Int)=(a:Int)*(n:Int):=by push_cast;rfl
   unfold iP;omega
  go_end0
  exact ⟨rfl,by rw [hv]⟩
theorem Cj (n:Nat):iP n<=3001:=Nat.min_le_right _ _
theorem xj (a n:Nat) (hn:1<=n):iP (iP a*n)=iP (a*n):=vJ n (by unfold iP;omega) hn
set_option maxHeartbeats 2000000 in
theorem Cm {lo hi:Nat} {u:Value} {p:List (List Ins)} {w:World} (hu:iO Ins.cells 4 w lo hi u p) (ht:total p<=1048576) :
    Calls Tryz.prog 48 #[u] w fun e w'=>e = .returned (.int .i64 (iP (l5 p)))/\Below w.heap.size w w':=by
  obtain ⟨xs,hxs,hxl,hxr⟩:=hu;obtain ⟨A,ca,rfl,hca,hma,hA⟩:=hxs.vals;clear hxs;have HX:=Lib.hid hxl;clear hxl;have HXR:=Lib.hid hxr;clear hxr;have HAA:=Lib.hid hA;clear hA
  go_enter Tryz.func48,Tryz.ntmps48
  go_wp2_with fail
  go_loopw [14] (fun sl wr=>∃ (l:Nat),l<=3/\sl = .int .i64 l/\Jl wr w.heap.size 3 #[.int .i64 (iP (pT p l):Nat)]/\Below w.heap.size w wr) (fun sl _=>3-(intOf sl).toNat)
  case atStart=>exact ⟨0,by omega,rfl,Jl.new _ _ _,(Below.refl _ _).alloc (Nat.le_refl _) _⟩
  case round=>
    obtain ⟨l,hl,rfl,hB,hb⟩:=hrel;have HB:=Lib.hid hB;clear hB;have hgl:=HB.out.lt
    by_cases hl3:l<3
    · have HW:=Lib.hid (show pT p (l+1)=pT p l*((cw p l+1) ^ (cr p l)*Jm (cw p l)) from rfl);obtain ⟨wo,rfl⟩:∃ wo:World,wo=wr:=⟨_,rfl⟩;have hl3':(l:Int)<3:=by omega
      go_wp2_with fail
      go_loopw [6,7,19] (fun sr sw i w1=>∃ k:Nat,k<=xs.length/\i = .int .i64 k/\sr = .int .i64 (kW (aV l rdB) (p.take k))/\sw = .int .i64 (kW (aV l wrB) (p.take k))/\Below wo.heap.size wo w1) (fun _ _ i _=>xs.length-(intOf i).toNat)
      case atStart=>exact ⟨0,Nat.zero_le _,rfl,rfl,rfl,Below.refl _ _⟩
      case round=>
        obtain ⟨k,hk,rfl,rfl,rfl,hb1⟩:=hrel;have hbw:=hb.trans (hb1.mono hb.size)
        by_cases hlt:k<xs.length
        · obtain ⟨ba,oa,rfl,_,_,hba,hA⟩:=HAA.out (by omega);have hp:k<p.length:=HX.out ▸ hlt;obtain ⟨Ak,ck,hk1,hk2,hk3,hrow⟩:=(HXR.out k hlt hp).inss;have HROW:=Lib.hid hrow;clear hrow;have ca0:=(hbw.cell (p:=⟨ba,oa+k,none⟩) hba).trans (hA k hlt);rw [hk1] at ca0;clear hA hk1;have i1:(0:Int)<=(k:Int):=by omega
          have i2:(k:Int)<(xs.length:Int):=by omega
          have HTr:=Lib.hid (cG (aV l rdB) p k hp);have HTw:=Lib.hid (cG (aV l wrB) p k hp);have HPr:=Lib.hid (fun j=>fQ (aV l rdB) p k j hp);have HPw:=Lib.hid (fun j=>fQ (aV l wrB) p k j hp);obtain ⟨w1,rfl⟩:∃ w1:World,w1=wr:=⟨_,rfl⟩
          go_wp2_with fail
          go_loopw [6,7,25] (fun sr sw i w2=>∃ j:Nat,j<=p[k].length/\i = .int .i64 j/\sr = .int .i64 (kW (aV l rdB) (p.take k)+(p[k].take j).countP (aV l rdB):Nat)/\sw = .int .i64 (kW (aV l wrB) (p.take k)+(p[k].take j).countP (aV l wrB):Nat)/\Below w1.heap.size w1 w2) (fun _ _ i _=>p[k].length-(intOf i).toNat)
          case atStart=>exact ⟨0,Nat.zero_le _,rfl,by simp,by simp,Below.refl _ _⟩
          case round=>
            obtain ⟨j,hj,rfl,rfl,rfl,hb2⟩:=hrel;have hbw2:=hbw.trans (hb2.mono hbw.size);have hsm1:kW (aV l rdB) (p.take k)+(p[k].take j).countP (aV l rdB)<=1048576:=Nat.le_trans (HPr.out j) ht;have hsm2:kW (aV l wrB) (p.take k)+(p[k].take j).countP (aV l wrB)<=1048576:=Nat.le_trans (HPw.out j) ht
            by_cases hlj:j<p[k].length
            · obtain ⟨bb,ob,rfl,_,_,hbb,hBB⟩:=HROW.out (by omega);obtain ⟨d1,d2,d3,d4⟩:=(hBB j hlj).below hbw2 hbb;have HSr:=Lib.hid (bU (aV l rdB) p[k] j hlj);have HSw:=Lib.hid (bU (aV l wrB) p[k] j hlj);have j1:(0:Int)<=(j:Int):=by omega
              have j2:(j:Int)<(p[k].length:Int):=by omega
              clear hBB
              go_wp2_with (first
                | (go_at_call 84;refine (Cb _ _ _ _ _).mono ?_;rintro e w3 ⟨rfl,hq⟩;have z0:=hq.cell (p:=⟨wr.heap.size,0,none⟩) (by simp);have z1:=hq.cell (p:=⟨wr.heap.size,1,none⟩) (by simp);have z2:=hq.cell (p:=⟨wr.heap.size,2,none⟩) (by simp);have z3:=hq.cell (p:=⟨wr.heap.size,3,none⟩) (by simp))
                | (go_at_call 85;refine (AA _ _ _ _ _).mono ?_;rintro e w4 ⟨rfl,hq2⟩))
              all_goals
                have hr:=HSr.out;have hw:=HSw.out
                first
                  | (have ef:aV (l:Int) rdB p[k][j]=true:=by simp [aV,rdB, *]
                     rw [if_pos ef] at hr)
                  | (have ef : ¬ aV (l:Int) rdB p[k][j]=true:=by simp [aV,rdB, *]
                     rw [if_neg ef] at hr)
                first
                  | (have ef:aV (l:Int) wrB p[k][j]=true:=by simp [aV,wrB, *]
                     rw [if_pos ef] at hw)
                  | (have ef : ¬ aV (l:Int) wrB p[k][j]=true:=by simp [aV,wrB, *]
                     rw [if_neg ef] at hw)
                go_roundw
                case rel=>
                  have hsz:=hb2.size;refine ⟨j+1,by omega,by go_num,congrArg (Value.int .i64) (by omega),congrArg (Value.int .i64) (by omega),?_⟩
                  first
                    | exact hb2.alloc hb2.size _
                    | exact ((hb2.alloc hb2.size _).trans (hq.mono (by simp;omega))).trans (hq2.mono (by have := hq.size;simp at this;omega))
                case measure=>simp [intOf];omega
            · have hjx:p[k].take j=p[k]:=List.take_of_length_le (by omega);have HJ:=Lib.hid hjx;clear hjx
              go_wp2_with fail
              go_roundw
              case rel=>exact ⟨k+1,by omega,by go_num,congrArg (Value.int .i64) (by rw [HJ.out,HTr.out]),congrArg (Value.int .i64) (by rw [HJ.out,HTw.out]),hb1.trans (hb2.mono hb1.size)⟩
              case measure=>simp [intOf];omega
        · have hkx:p.take k=p:=List.take_of_length_le (by rw [<- HX.out];omega);have B1:=HB.out.below hb1 hgl;have hcw:=sF (aV (l:Int) wrB) p;have hcr:=sF (aV (l:Int) rdB) p;have er:kW (aV (l:Int) rdB) (p.take k)=cr p l:=by rw [hkx];rfl
          have ew:kW (aV (l:Int) wrB) (p.take k)=cw p l:=by rw [hkx];rfl
          rw [er,ew];change cw p l<=total p at hcw;change cr p l<=total p at hcr;clear er ew hkx;generalize cw p l=a at *;generalize cr p l=r at *;have BB1:=Lib.hid B1;clear B1;have ha1:(a:Int)<=1048576:=by omega
          have hr1:(r:Int)<=1048576:=by omega
          go_wp2_with fail
          go_loopw [52] (fun si w4=>∃ (i:Nat),i<=r/\si = .int .i64 i/\Jl w4 w.heap.size 3 #[.int .i64 (iP (pT p l*(a+1) ^ i):Nat)]/\Below w.heap.size w w4) (fun si _=>r-(intOf si).toNat)
          case atStart=>exact ⟨0,Nat.zero_le _,rfl,by simpa using BB1.out,hbw⟩
          case round=>
            obtain ⟨i,hi,rfl,hBi,hb4⟩:=hrel;have HBi:=Lib.hid hBi;clear hBi
            by_cases hir:i<r
            · have hir':(i:Int)<(r:Int):=by omega
              have hc3:iP (pT p l*(a+1) ^ i)<=3001:=Cj _;have hstep:iP (iP (pT p l*(a+1) ^ i)*(a+1))=iP (pT p l*(a+1) ^ (i+1)):=by rw [xj _ _ (by omega),Nat.pow_succ,Nat.mul_assoc]
              have HST:=Lib.hid hstep;clear hstep;have hcast:((a+1:Nat):Int)=(a:Int)+1:=by push_cast;rfl
              have EX:=uG w.heap.size (iP (pT p l*(a+1) ^ i)) (a+1) 3 wr HBi.out hc3 (by omega);rw [hcast] at EX;have HEX:=Lib.hid EX;clear EX hcast hc3
              go_wp2_with (go_at_call 83;refine HEX.out.mono ?_;rintro e w5 ⟨rfl,rfl⟩)
              go_roundw
              case rel=>exact ⟨i+1,by omega,by go_num,by rw [<- HST.out];exact HBi.out.set_ 0 _,hb4.setCell (by simp) _⟩
              case measure=>simp [intOf];omega
            · have hix:i=r:=by omega
              subst hix
              go_wp2_with fail
              go_loopw [60] (fun si w4=>∃ (j:Nat),j<=a/\si = .int .i64 j/\Jl w4 w.heap.size 3 #[.int .i64 (iP (pT p l*(a+1) ^ i*Jm j):Nat)]/\Below w.heap.size w w4) (fun si _=>a-(intOf si).toNat)
              case atStart=>exact ⟨0,Nat.zero_le _,rfl,by simpa [Jm] using HBi.out,hb4⟩
              case round=>
                obtain ⟨j,hj,rfl,hBj,hb5⟩:=hrel;have HBj:=Lib.hid hBj;clear hBj
                by_cases hja:j<a
                · have hja':(j:Int)<(a:Int):=by omega
                  have hc3:iP (pT p l*(a+1) ^ i*Jm j)<=3001:=Cj _;have hstep:iP (iP (pT p l*(a+1) ^ i*Jm j)*(j+1))=iP (pT p l*(a+1) ^ i*Jm (j+1)):=by rw [xj _ _ (by omega),Jm,<- Nat.mul_assoc]
                  have HST:=Lib.hid hstep;clear hstep;have hcast:((j+1:Nat):Int)=(j:Int)+1:=by push_cast;rfl
                  have EX:=uG w.heap.size (iP (pT p l*(a+1) ^ i*Jm j)) (j+1) 3 wr HBj.out hc3 (by omega);rw [hcast] at EX;have HEX:=Lib.hid EX;clear EX hcast hc3
                  go_wp2_with (go_at_call 83;refine HEX.out.mono ?_;rintro e w5 ⟨rfl,rfl⟩)
                  go_roundw
                  case rel=>exact ⟨j+1,by omega,by go_num,by rw [<- HST.out];exact HBj.out.set_ 0 _,hb5.setCell (by simp) _⟩
                  case measure=>simp [intOf];omega
                · have hjx:j=a:=by omega
                  subst hjx
                  go_wp2_with fail
                  go_roundw
                  case rel=>exact ⟨l+1,by omega,by go_num,by rw [HW.out,<- Nat.mul_assoc];exact HBj.out,hb5⟩
                  case measure=>simp [intOf];omega
    · have hl4:l=3:=by omega
      subst hl4;have c0:=HB.out.cell 0;have c1:wr.cell? ⟨w.heap.size,0,none⟩=some (.int .i64 (iP (pT p 3):Nat)):=c0;clear c0
      go_wp2_with fail
      go_ret
      exact ⟨ik rfl,hb⟩
def nP (x:Ins):Bool:=x.op != 4
def rowOk (r:List Ins):Bool:=decide (r.length<=7)&&r.all gz
def lC (p:List (List Ins)):Bool:=decide (p.length<=3)&&p.all rowOk&&decide (kW nP p<=12)
def aZ (p:List (List Ins)):Bool:=lC p&&decide (0<p.length)&&decide (l5 p<=3000)
theorem pX {p:List (List Ins)} (k:Nat) (h:k<p.length) (hb:rowOk p[k]=false):lC p=false:=by
 have : p.all rowOk=false:=by
  rw [List.all_eq_false];exact ⟨p[k],List.getElem_mem h,by rw [hb];simp⟩
 simp [lC,this]
theorem uH {r:List Ins} (h:7<r.length):rowOk r=false:=by
 simp [rowOk];omega
theorem xk {r:List Ins} (j:Nat) (h:j<r.length) (hb:gz r[j]=false):rowOk r=false:=by
 have : r.all gz=false:=by
  rw [List.all_eq_false];exact ⟨r[j],List.getElem_mem h,by rw [hb];simp⟩
 simp [rowOk,this]
theorem uI {r:List Ins} (h:r.length<=7) (hg:∀ j (h:j<r.length),gz r[j]=true):rowOk r=true:=by
 simp only [rowOk,bae,dte,List.all_eq_true];refine ⟨h,fun x hx=>?_⟩;obtain ⟨j,hj,rfl⟩:=List.getElem_of_mem hx;exact hg j hj
theorem sG {p:List (List Ins)} (h:p.length<=3) (hg:∀ j (h:j<p.length),rowOk p[j]=true):lC p=decide (kW nP p<=12):=by
 have : p.all rowOk=true:=by
  rw [List.all_eq_true];intro x hx;obtain ⟨j,hj,rfl⟩:=List.getElem_of_mem hx;exact hg j hj
 simp [lC,this,h]
set_option maxHeartbeats 1000000 in
theorem sH {lo hi:Nat} {u:Value} {p:List (List Ins)} {w:World} (hu:iO Ins.cells 4 w lo hi u p) (ht:total p<=1048576) :
    Calls Tryz.prog 88 #[u] w fun e w'=>e = .returned (.bool (lC p))/\Below w.heap.size w w':=by
  obtain ⟨xs,hxs,hxl,hxr⟩:=hu;obtain ⟨A,ca,rfl,hca,hma,hA⟩:=hxs.vals;clear hxs;have HX:=Lib.hid hxl;clear hxl;have HXR:=Lib.hid hxr;clear hxr;have HAA:=Lib.hid hA;clear hA
  by_cases h3:xs.length<=3
  · have h3' : ¬ (3:Int)<(xs.length:Int):=by omega
    go_enter Tryz.func88,Tryz.ntmps88
    go_wp2_with fail
    go_loopw [3,4] (fun n i wr=>∃ k:Nat,k<=xs.length/\i = .int .i64 k/\n = .int .i64 (kW nP (p.take k))/\(∀ q (h:q<p.length),q<k->rowOk p[q]=true)/\Below w.heap.size w wr) (fun _ i _=>xs.length-(intOf i).toNat)
    case atStart=>exact ⟨0,Nat.zero_le _,rfl,rfl,fun q _ h=>absurd h (by omega),Below.refl _ _⟩
    case round=>
      obtain ⟨k,hk,rfl,rfl,hgood,hb⟩:=hrel;have HG:=Lib.hid hgood;clear hgood
      by_cases hlt:k<xs.length
      · obtain ⟨ba,oa,rfl,_,_,hba,hA⟩:=HAA.out (by omega);have hp:k<p.length:=HX.out ▸ hlt;obtain ⟨Ak,ck,hk1,hk2,hk3,hrow⟩:=(HXR.out k hlt hp).inss;have HROW:=Lib.hid hrow;clear hrow;have ca0:=hA k hlt;rw [hk1] at ca0;have CA:=Lib.hid ca0;have c00:=(hb.cell (p:=⟨ba,oa+k,none⟩) hba).trans ca0;clear hA hk1 ca0;have i1:(0:Int)<=(k:Int):=by omega
        have i2:(k:Int)<(xs.length:Int):=by omega
        have HT:=Lib.hid (cG nP p k hp);have HPL:=Lib.hid (fun j=>fQ nP p k j hp);obtain ⟨wo,rfl⟩:∃ wo:World,wo=wr:=⟨_,rfl⟩
        by_cases h7:p[k].length<=7
        · have h7' : ¬ (7:Int)<(p[k].length:Int):=by omega
          go_wp2_with fail
          go_loopw [3,5] (fun n i w2=>∃ j:Nat,j<=p[k].length/\i = .int .i64 j/\n = .int .i64 (kW nP (p.take k)+(p[k].take j).countP nP:Nat)/\(∀ q (h:q<p[k].length),q<j->gz p[k][q]=true)/\Below w.heap.size w w2) (fun _ i _=>p[k].length-(intOf i).toNat)
          case atStart=>exact ⟨0,Nat.zero_le _,rfl,by simp,fun q _ h=>absurd h (by omega),hb⟩
          case round=>
            obtain ⟨j,hj,rfl,rfl,hgj,hb2⟩:=hrel;have HGJ:=Lib.hid hgj;clear hgj;have c0:=(hb2.cell (p:=⟨ba,oa+k,none⟩) hba).trans CA.out;have hsm:kW nP (p.take k)+(p[k].take j).countP nP<=1048576:=Nat.le_trans (HPL.out j) ht
            by_cases hlj:j<p[k].length
            · obtain ⟨bb,ob,rfl,_,_,hbb,hB⟩:=HROW.out (by omega);obtain ⟨d1,d2,d3,d4⟩:=(hB j hlj).below hb2 hbb;have HS:=Lib.hid (bU nP p[k] j hlj);have j1:(0:Int)<=(j:Int):=by omega
              have j2:(j:Int)<(p[k].length:Int):=by omega
              clear hB c00
              go_wp2_with fail
              refine (nB p[k][j] _).mono ?_;rintro e w3 ⟨rfl,hq⟩;have e0:=(hq.cell (p:=⟨ba,oa+k,none⟩) (Nat.lt_of_lt_of_le hba hb2.size)).trans c0;have e1:=(hq.cell (p:=⟨bb,ob+j*4,none⟩) (Nat.lt_of_lt_of_le hbb hb2.size)).trans d1;have hb3:=hb2.trans (hq.mono hb2.size)
              by_cases hok:gz p[k][j]=true
              · go_wp2_with fail
                all_goals
                  have h:=HS.out
                  first
                    | (have ef:nP p[k][j]=true:=by simpa [nP] using ‹(p[k][j].op != 4)=true›
                       rw [if_pos ef] at h)
                    | (have ef : ¬ nP p[k][j]=true:=by simpa [nP] using ‹(p[k][j].op != 4)=false›
                       rw [if_neg ef] at h)
                  go_roundw
                  case rel=>
                    refine ⟨j+1,by omega,by go_num,congrArg (Value.int .i64) (by omega),fun q hq hqj=>?_,hb3⟩
                    by_cases e:q=j
                    · subst e;exact hok
                    · exact HGJ.out q hq (by omega)
                  case measure=>simp [intOf];omega
              · have hok':gz p[k][j]=false:=by simpa using hok
                have hbad:=pX k hp (xk j hlj hok');have HBAD:=Lib.hid hbad;clear hok hbad
                go_wp2_with fail
                go_ret
                exact ⟨ay (by rw [HBAD.out]),hb3⟩
            · have hjx:p[k].take j=p[k]:=List.take_of_length_le (by omega);have HJ:=Lib.hid hjx;clear hjx;have hrk:rowOk p[k]=true:=uI h7 (fun q hq=>HGJ.out q hq (by omega));have HRK:=Lib.hid hrk;clear hrk
              go_wp2_with fail
              go_roundw
              case rel=>
                refine ⟨k+1,by omega,by go_num,congrArg (Value.int .i64) (by rw [HJ.out,HT.out]),fun q hq hqk=>?_,hb2⟩
                by_cases e:q=k
                · subst e;exact HRK.out
                · exact HG.out q hq (by omega)
              case measure=>simp [intOf];omega
        · have h7':(7:Int)<(p[k].length:Int):=by omega
          have HBAD:=Lib.hid (pX k hp (uH (by omega)));clear h7
          go_wp2_with fail
          go_ret
          exact ⟨ay (by rw [HBAD.out]),hb⟩
      · have hkx:p.take k=p:=List.take_of_length_le (by rw [<- HX.out];omega);have hsh:=sG (p:=p) (by rw [<- HX.out];exact h3) (fun q hq=>HG.out q hq (by rw [<- HX.out] at hq;omega));have HK:=Lib.hid hkx;clear hkx;have HS:=Lib.hid hsh;clear hsh
        go_wp2_with fail
        go_ret
        exact ⟨ay (by rw [HS.out,HK.out];exact decide_eq_decide.2 (by omega)),hb⟩
  · have h3':(3:Int)<(xs.length:Int):=by omega
    have hsh:lC p=false:=by
      have := HX.out;simp [lC];omega
    have HS:=Lib.hid hsh;clear h3 hsh
    go_enter Tryz.func88,Tryz.ntmps88
    go_wp2_with fail
    go_ret
    exact ⟨ay (by rw [HS.out]),Below.refl _ _⟩
theorem sI (n:Nat):decide (((iP n:Nat):Int)<=3000)=decide (n<=3000):=by
 unfold iP;simp only [decide_eq_decide];omega
theorem l6 {lo hi:Nat} {u:Value} {p:List (List Ins)} {w:World} (hu:iO Ins.cells 4 w lo hi u p) (hhi:hi<=w.heap.size) (ht:total p<=1048576) :
  Calls Tryz.prog 50 #[u] w fun e w'=>e = .returned (.bool (aZ p))/\Below w.heap.size w w':=by
 have HU:=Lib.hid hu;obtain ⟨xs,hxs,hxl,hxr⟩:=hu;obtain ⟨A,ca,rfl,hca,hma,hA⟩:=hxs.vals;clear hxs hxr hA;have HX:=Lib.hid hxl;clear hxl;have hv:aZ p=(lC p&&decide (0<xs.length)&&decide (l5 p<=3000)):=by rw [HX.out];rfl
 have HV:=Lib.hid hv;clear hv;have hc:=sI (l5 p);have HCC:=Lib.hid hc;clear hc
 cases hs:lC p with
 | false=>
  have SH:=Lib.hid (sH (w:=w) HU.out ht);rw [hs] at SH;have HS:=Lib.hid hs;clear hs
  go_enter Tryz.func50,Tryz.ntmps50
  go_wp2_with (first | (go_at_call 88;refine SH.out.mono ?_;rintro e w1 ⟨rfl,hb⟩))
  go_ret
  exact ⟨ay (by rw [HV.out,HS.out];rfl),hb⟩
 | true=>
  have SH:=Lib.hid (sH (w:=w) HU.out ht);rw [hs] at SH;have HS:=Lib.hid hs;clear hs
  by_cases h0:(0:Int)<(xs.length:Int)
  ·go_enter Tryz.func50,Tryz.ntmps50
   go_wp2_with (first | (go_at_call 88;refine SH.out.mono ?_;rintro e w1 ⟨rfl,hb⟩) | (go_at_call 80;refine (yI (HU.out.below hb hhi) (Nat.le_trans hhi hb.size) ht).mono ?_;rintro e w2 ⟨rfl,hb2⟩))
   all_goals
    go_ret
    refine ⟨ay ?_,hb.trans (hb2.mono hb.size)⟩;rw [HV.out,HS.out];have := HCC.out
    simp_all
  ·go_enter Tryz.func50,Tryz.ntmps50
   go_wp2_with (first | (go_at_call 88;refine SH.out.mono ?_;rintro e w1 ⟨rfl,hb⟩))
   go_ret
   refine ⟨ay ?_,hb⟩;rw [HV.out,HS.out];simp;omega
theorem uJ {p:List (List Ins)} (k:Nat) (h:k<p.length) (hb:rowOk p[k]=false):aZ p=false:=by
 simp [aZ,pX k h hb]
set_option maxHeartbeats 1000000 in
theorem l7 {lo hi:Nat} {u:Value} {p:List (List Ins)} {w:World} (hu:iO Ins.cells 4 w lo hi u p) (hhi:hi<=w.heap.size) (ht:total p<=1048576) :
    Calls Tryz.prog 21 #[u] w fun e w'=>e = .returned (.bool (aZ p))/\Below w.heap.size w w':=by
  have HU:=Lib.hid hu;obtain ⟨xs,hxs,hxl,hxr⟩:=hu;obtain ⟨A,ca,rfl,hca,hma,hA⟩:=hxs.vals;clear hxs;have HX:=Lib.hid hxl;clear hxl;have HXR:=Lib.hid hxr;clear hxr;have HAA:=Lib.hid hA;clear hA
  by_cases h3:1<=xs.length/\xs.length<=3
  · obtain ⟨h1,h3⟩:=h3
    go_enter Tryz.func21,Tryz.ntmps21
    go_wp2_with (go_at_call 46;refine (bT _ _ _ true (by simp;omega) _).mono ?_;rintro e w1 ⟨rfl,rfl⟩)
    go_loopw [3,14] (fun n i wr=>∃ k:Nat,k<=xs.length/\i = .int .i64 k/\n = .int .i64 (kW nP (p.take k))/\(∀ q (h:q<p.length),q<k->rowOk p[q]=true)/\Below w.heap.size w wr) (fun _ i _=>xs.length-(intOf i).toNat)
    case atStart=>exact ⟨0,Nat.zero_le _,rfl,rfl,fun q _ h=>absurd h (by omega),Below.refl _ _⟩
    case round=>
      obtain ⟨k,hk,rfl,rfl,hgood,hb⟩:=hrel;have HG:=Lib.hid hgood;clear hgood
      by_cases hlt:k<xs.length
      · obtain ⟨ba,oa,rfl,_,_,hba,hA⟩:=HAA.out (by omega);have hp:k<p.length:=HX.out ▸ hlt;obtain ⟨Ak,ck,hk1,hk2,hk3,hrow⟩:=(HXR.out k hlt hp).inss;have HROW:=Lib.hid hrow;clear hrow;have ca0:=hA k hlt;rw [hk1] at ca0;have c00:=(hb.cell (p:=⟨ba,oa+k,none⟩) hba).trans ca0;clear hA hk1 ca0;have i1:(0:Int)<=(k:Int):=by omega
        have i2:(k:Int)<(xs.length:Int):=by omega
        have HT:=Lib.hid (cG nP p k hp);have HPL:=Lib.hid (fun j=>fQ nP p k j hp);obtain ⟨wo,rfl⟩:∃ wo:World,wo=wr:=⟨_,rfl⟩
        go_wp2_with fail
        clear c00
        go_loopw [3,20] (fun n i w2=>∃ j:Nat,j<=p[k].length/\i = .int .i64 j/\n = .int .i64 (kW nP (p.take k)+(p[k].take j).countP nP:Nat)/\(∀ q (h:q<p[k].length),q<j->gz p[k][q]=true)/\Below w.heap.size w w2) (fun _ i _=>p[k].length-(intOf i).toNat)
        case atStart=>exact ⟨0,Nat.zero_le _,rfl,by simp,fun q _ h=>absurd h (by omega),hb⟩
        case round=>
          obtain ⟨j,hj,rfl,rfl,hgj,hb2⟩:=hrel;have HGJ:=Lib.hid hgj;clear hgj;have hsm:kW nP (p.take k)+(p[k].take j).countP nP<=1048576:=Nat.le_trans (HPL.out j) ht
          by_cases hlj:j<p[k].length
          · obtain ⟨bb,ob,rfl,_,_,hbb,hB⟩:=HROW.out (by omega);obtain ⟨d1,d2,d3,d4⟩:=(hB j hlj).below hb2 hbb;have HS:=Lib.hid (bU nP p[k] j hlj);have j1:(0:Int)<=(j:Int):=by omega
            have j2:(j:Int)<(p[k].length:Int):=by omega
            clear hB
            go_wp2_with fail
            refine (nC p[k][j] _).mono ?_;rintro e w3 ⟨rfl,hq⟩;have z0:=hq.cell (p:=⟨wr.heap.size,0,none⟩) (by simp);have hb3:=(hb2.alloc hb2.size (.cells #[.int .i64 p[k][j].op,.int .i64 p[k][j].loc,.int .i64 p[k][j].reg,.int .i64 p[k][j].val] 70)).trans (hq.mono (by simp;have := hb2.size;omega))
            by_cases hok:gz p[k][j]=true
            · go_wp2_with fail
              all_goals
                have h:=HS.out
                first
                  | (have ef:nP p[k][j]=true:=by simpa [nP] using ‹(p[k][j].op != 4)=true›
                     rw [if_pos ef] at h)
                  | (have ef : ¬ nP p[k][j]=true:=by simpa [nP] using ‹(p[k][j].op != 4)=false›
                     rw [if_neg ef] at h)
                go_roundw
                case rel=>
                  refine ⟨j+1,by omega,by go_num,congrArg (Value.int .i64) (by omega),fun q hq hqj=>?_,hb3⟩
                  by_cases e:q=j
                  · subst e;exact hok
                  · exact HGJ.out q hq (by omega)
                case measure=>simp [intOf];omega
            · have hok':gz p[k][j]=false:=by simpa using hok
              have hbad:=uJ k hp (xk j hlj hok');have HBAD:=Lib.hid hbad;clear hok hbad
              go_wp2_with fail
              go_ret
              exact ⟨ay (by rw [HBAD.out]),hb3⟩
          · have hjx:p[k].take j=p[k]:=List.take_of_length_le (by omega);have HJ:=Lib.hid hjx;clear hjx
            by_cases h7:p[k].length<=7
            · have h7' : ¬ (7:Int)<(p[k].length:Int):=by omega
              have hrk:rowOk p[k]=true:=uI h7 (fun q hq=>HGJ.out q hq (by omega));have HRK:=Lib.hid hrk;clear hrk
              go_wp2_with fail
              go_roundw
              case rel=>
                refine ⟨k+1,by omega,by go_num,congrArg (Value.int .i64) (by rw [HJ.out,HT.out]),fun q hq hqk=>?_,hb2⟩
                by_cases e:q=k
                · subst e;exact HRK.out
                · exact HG.out q hq (by omega)
              case measure=>simp [intOf];omega
            · have h7':(7:Int)<(p[k].length:Int):=by omega
              have HBAD:=Lib.hid (uJ k hp (uH (by omega)));clear h7
              go_wp2_with fail
              go_ret
              exact ⟨ay (by rw [HBAD.out]),hb2⟩
      · have hkx:p.take k=p:=List.take_of_length_le (by rw [<- HX.out];omega);have hsh:=sG (p:=p) (by rw [<- HX.out];exact h3) (fun q hq=>HG.out q hq (by rw [<- HX.out] at hq;omega));have hv:aZ p=(decide (kW nP p<=12)&&decide (l5 p<=3000)):=by
          have : 0<p.length:=by rw [<- HX.out];omega
          simp [aZ,hsh,this]
        rw [hkx];have HV:=Lib.hid hv;clear hv hsh hkx;have HCC:=Lib.hid (sI (l5 p))
        by_cases h12:kW nP p<=12
        · have h12':(kW nP p:Int)<=12:=by omega
          go_wp2_with (go_at_call 48;refine (Cm (HU.out.below hb hhi) ht).mono ?_;rintro e w2 ⟨rfl,hb2⟩)
          go_ret
          exact ⟨ay (by rw [HV.out,decide_eq_true h12,Bool.true_and];exact HCC.out),hb.trans (hb2.mono hb.size)⟩
        · have h12' : ¬ (kW nP p:Int)<=12:=by omega
          have hf:aZ p=false:=by rw [HV.out];simp [h12]
          have HF:=Lib.hid hf;clear hf h12
          go_wp2_with fail
          go_ret
          exact ⟨ay (by rw [HF.out]),hb⟩
  · have hv:aZ p=false:=by
      have := HX.out
      by_cases h:p.length<=3
      · have : p.length=0:=by omega
        simp [aZ,this]
      · simp [aZ,lC,h]
    have HV:=Lib.hid hv;clear hv;have HN:=Lib.hid h3;clear h3
    go_enter Tryz.func21,Tryz.ntmps21
    go_wp2_with (go_at_call 46;refine (bT _ _ _ false (by have := HN.out;simp;omega) _).mono ?_;rintro e w1 ⟨rfl,rfl⟩)
    go_ret
    exact ⟨ay (by rw [HV.out]),Below.refl _ _⟩
def az (p:List (List Jh)):Option Bool:=gd (decide (p.length<=1048576/\total p<=1048576)) (some (aZ (p.map fun r=>r.map gy)))
def aR (p:List (List Jh)):Option Bool:=gd (decide (p.length<=1048576/\total p<=1048576)) (some (aZ (p.map fun r=>r.map gy)))
def ju (l:LI) (i j:Int):Option (LI):=gd (decide (0<=i/\i<=j/\j<=(l.length:Int)/\0<l.length)) (some (l.take i.toNat++l.drop j.toNat))
section
variable {P:Program} {H:AH} {s:Nat} {o:Oper} {ρ:Operand->AV}
theorem Cn {e:TypeId} {i:TypeInfo} {z:Value} (w:World) (hi:P.info? e=some i) (hz:i.zero=some z):(zeroValue e).run P w = .ok z w:=by simp [zeroValue,typeInfo,hi,hz]
theorem Co {cl:Call} {x:Operand} {t e:TypeId} {b ver off len:Nat} {k:ABlk} {z:Value} {zr:List AV} (ho:o.op = .call cl) (h1:cl.callee = .builtin .clear) (h2:cl.args.toList=[x]) (h3:cl.argTypes.toList=[t])
  (ht:P.underlying t=some (.slice e)) (hz:(P.info? e).bind (·.zero)=some z) (hz1:gY z.cells=true) (hzs:z.cells.size=s) (hzr:zr.length=s) (hzc:∀ (c:Cx) (j:Nat) (a:AV),zr[j]? = some a->∃ u,z.cells[j]? = some u/\c.rel a u)
  (hx:ρ x = .hs b ver s off len) (hb:H[b]? = some (some k)) (hv:k.ver=ver) (hs:k.s=s) (hoff:off+len<=k.rows.length) :
  Jb P o ρ H .top (H.set b (some { k with rows:=k.rows.take off++(List.replicate len zr).take len++k.rows.drop (off+len) })):=by
 intro c a K Q hH hr hxs hK;obtain ⟨callee,args,ts⟩:=cl;simp only at h1 h2 h3;obtain rfl:args = #[x]:=by cases args;simp_all
 obtain rfl:ts = #[t]:=by cases ts;simp_all
 subst h1;have hx1:=hx ▸ hxs x (by rw [ho];simp [Op.operands,Call.operands]);generalize hn:len=n at hK ⊢;generalize hnews:List.replicate n zr=news at hK ⊢;have hrl:∀ (i:Nat) (row:List AV),news[i]? = some row->row.length=s:=fun i row h=>by
  rw [<- hnews] at h;have := List.mem_of_getElem? h;rw [List.mem_replicate] at this;rw [this.2,hzr]
 have hnl0:news.length=n:=by rw [<- hnews,List.length_replicate]
 have hone:∀ v∈z.cells,v.oneCell'=true:=by
  rw [nR,Array.all_eq_true_iff_forall_mem] at hz1;exact hz1
 generalize hvs:(Builtin.zeroCells z.cells n).toList=vs;have hvl:vs.length=n*s:=by rw [<- hvs,Array.length_toList,f8,hzs]
 have hvget:∀ i j,i<n->j<s->vs[i*s+j]? = z.cells[j]? := fun i j hi hj=>by
  have hfit:i*s+j<n*s:=by
   have : (i+1)*s<=n*s:=Nat.mul_le_mul_right _ (by omega);rw [Nat.add_mul] at this;omega
  rw [<- hvs,Array.getElem?_toList];unfold Builtin.zeroCells;rw [hzs];have := qX z.cells (n*s) (i*s+j) hfit (by omega);rw [hzs] at this;rw [this,Nat.mul_comm i s,Nat.mul_add_mod,Nat.mod_eq_of_lt hj]
 have hv1:∀ v∈vs,v.oneCell'=true:=fun v hm=>by
  obtain ⟨q,hq⟩:=List.getElem?_of_mem hm;have hq':=(ges hq).1;rw [hvl] at hq';have hs0:0<s:=Nat.pos_of_ne_zero fun h=>by rw [h,Nat.mul_zero] at hq';omega
  have e1:q=q / s*s+q % s:=by rw [Nat.mul_comm];exact (Nat.div_add_mod q s).symm
  rw [e1,hvget (q / s) (q % s) (Nat.div_lt_of_lt_mul (by rw [Nat.mul_comm];exact hq')) (Nat.mod_lt _ hs0)] at hq;exact hone v (Array.mem_of_getElem? hq)
 have hvr:∀ (i:Nat) (row:List AV) (j:Nat) (a:AV),(news.take n)[i]? = some row->row[j]? = some a->∃ u,vs[i*s+j]? = some u/\u.oneCell'=true/\c.rel a u:=fun i row j a hi hj=>by
  have hin:i<n:=by
   have := (ges hi).1;rw [List.length_take] at this;omega
  rw [List.getElem?_take,if_pos hin,<- hnews] at hi;have := List.mem_of_getElem? hi;rw [List.mem_replicate] at this;rw [this.2] at hj;have hjs:j<s:=by rw [<- hzr];exact (ges hj).1
  obtain ⟨u,g1,g2⟩:=hzc c j a hj;exact ⟨u,by rw [hvget i j hin hjs];exact g1,hone u (Array.mem_of_getElem? g1),g2⟩
 have hl:c.live b k:=by unfold Cx.live;rw [hH];exact hb
 generalize hux:a.eval x=ux at hx1
 cases hx1 with
 | fr h=>cases h
 | @hs _ _ _ _ _ cap A hbn hcl hcm h0 hh=>
  obtain ⟨cur,fr,hB⟩:=hr.blk b k hl;obtain ⟨fr,rfl,hat,hd⟩:=hB.cells hl (fun x hx=>(hh x (hv ▸ hx)).1.trans hs.symm);rw [hv] at hd;obtain ⟨_,_,hA,hcf⟩:=hh _ hd;simp only at hA hcf;have hexec:∀ w',(n=0/\w'=c.w)\/(∃ ad,A=some ad/\0<n/\(storeCells ad vs).run P c.w = .ok () w')->(execOp a.eval o).run P c.w = .ok (.value (.tuple #[])) w':=fun w' hw=>by
   have e1:(Builtin.clear_ #[t] o.type #[.slice A len cap]).run P c.w = .ok (.tuple #[]) w':=by
    obtain ⟨inf,h5,h6⟩:=Option.bind_eq_some_iff.1 hz;rcases hw with ⟨h0',rfl⟩ | ⟨ad,rfl,hp,hst⟩
    ·rw [hn,h0']
     cases A <;> simp [Builtin.clear_,Sem.run_bind,ah ht]
    ·obtain ⟨q,rfl⟩:∃ q,n=q+1:=⟨n-1,by omega⟩;rw [hn];simp [Builtin.clear_,Sem.run_bind,ah ht,Cn c.w h5 h6,hvs,hst]
   simp [execOp,ho,resolve,invoke,builtin,hux,e1]
  unfold Oper.wp;rcases Nat.eq_zero_or_pos n with h00 | hpos
  ·-- nothing is copied
   have hv0:vs=[]:=List.eq_nil_of_length_eq_zero (by rw [hvl,h00,Nat.zero_mul]);have hk0:({ k with rows:=k.rows.take off++news.take n++k.rows.drop (off+n) }:ABlk)=k:=by
    rw [h00];simp
   rw [hexec c.w (.inl ⟨h00,rfl⟩)];refine hK _ c ?_ hr (Ext.refl c) .top;rw [hk0,vB H b _ hb,hH]
  ·have h0':0<cap:=by omega
   obtain rfl:=hA h0';have hfit:=hB.fits;have hsp:=hB.pos;have hle:(c.φ b).2+off*s+vs.length<=cur.toList.length:=by
    have h5:(off+len)*s<=k.rows.length*s:=Nat.mul_le_mul_right _ hoff;have h6:n*s<=len*s:=Nat.mul_le_mul_right _ (by omega);rw [Nat.add_mul] at h5;have hct:cur.toList.length=cur.size:=Array.length_toList;rw [hs] at hfit;rw [hvl,hct];omega
   have hst:=eO (P:=P) (c.φ b).1 ((c.φ b).2+off*s) k.ty fr vs 0 cur c.w hat (hB.free fr rfl) (by simpa using hle) hv1;rw [Nat.add_zero] at hst;have hg2:=fun q=>vw cur.toList _ _ hle q;have hs2:=vz cur.toList _ _ hle;generalize hcs2:(cur.toList.take ((c.φ b).2+off*s)++vs++cur.toList.drop ((c.φ b).2+off*s+vs.length))=ls at *;have hsz2:ls.toArray.size=cur.size:=by simpa using hs2
   have hget:∀ q,ls.toArray[q]? = if (c.φ b).2+off*s<=q/\q<(c.φ b).2+off*s+vs.length then vs[q-((c.φ b).2+off*s)]? else cur[q]? := fun q=>by
    rw [List.getElem?_toArray,hg2,Array.getElem?_toList (xs:=cur)]
   have hrl2:(k.rows.take off++news.take n++k.rows.drop (off+n)).length=k.rows.length:=by
    simp only [lla,List.length_take,List.length_drop];omega
   have hrow:∀ (i:Nat) (row:List AV),(k.rows.take off++news.take n++k.rows.drop (off+n))[i]? = some row->(off<=i/\i<off+n/\news[i-off]? = some row)\/((i<off\/off+n<=i)/\k.rows[i]? = some row):=fun i row h=>by
    have hnl:(news.take n).length=n:=by simp;omega
    have e:=vw k.rows off (news.take n) (by rw [hnl];omega) i;rw [hnl] at e;rw [e] at h
    split at h
    ·rename_i h2;refine .inl ⟨h2.1,h2.2,?_⟩;rw [List.getElem?_take,if_pos (by omega)] at h;exact h
    ·rename_i h2;exact .inr ⟨by omega,h⟩
   have hlen2:∀ (i:Nat) (row:List AV),(k.rows.take off++news.take n++k.rows.drop (off+n))[i]? = some row->row.length=k.s:=fun i row h=>by
    rcases hrow i row h with ⟨_,_,h2⟩ | ⟨_,h2⟩
    ·rw [hrl _ row h2,hs]
    ·exact hB.len i row h2
   have hext:=Cx.upd_ext (k:={ k with rows:=k.rows.take off++news.take n++k.rows.drop (off+n) }) (o:=(c.φ b).2) (cs:=ls.toArray) hr hl hB hsz2 (.inl ⟨rfl,rfl,hrl2,rfl⟩);have hrel:=Cx.upd_rel (k:={ k with rows:=k.rows.take off++news.take n++k.rows.drop (off+n) }) (o:=(c.φ b).2) (cs:=ls.toArray) hr hl hB hsz2 rfl hext hsp (by simp only;rw [hrl2,hsz2];exact hfit) hlen2 (fun i row j a' h h'=>by
    have hj:j<s:=by
     have := (ges h').1;rw [hlen2 i row h,hs] at this;exact this
    simp only;rw [hget,hs,hvl];rcases hrow i row h with ⟨g1,g2,g3⟩ | ⟨g1,g3⟩
    ·have hf:=mH (s:=s) (show i-off<n by omega) (j:=j+1) hj;have e:i*s=(i-off)*s+off*s:=by
      rw [<- Nat.add_mul]
      congr 1
      omega
     rw [if_pos (by omega)];obtain ⟨u',q1,q2,q3⟩:=hvr (i-off) row j a' (by rw [List.getElem?_take,if_pos (by omega)];exact g3) h';refine ⟨u',?_,q2,q3⟩;rw [<- q1]
     congr 1
     omega
    ·have hi':=(ges g3).1;rw [if_neg (fun hq=>?_)]
     ·have := hB.rel i row j a' g3 h';rw [hs] at this;exact this
     ·rcases g1 with g1 | g1
      ·have hf:=mH (s:=s) g1 (j:=j+1) hj;omega
      ·have hf:(off+n)*s<=i*s:=Nat.mul_le_mul_right _ g1;rw [Nat.add_mul] at hf;omega)
   rw [hexec _ (.inr ⟨_,rfl,hpos,hst⟩)];exact hK _ _ (by rw [<- hH];rfl) hrel hext .top
variable {α:Type} {c:α->List AV} {l:List α} {x y:Operand} {t e:TypeId} {ag:Bool} {w m b ver off len:Nat} {zs:List AV}
def ZrR (zs zr:List AV):Prop:=zr.length=zs.length/\∀ (cx:Cx) (j:Nat) (a a':AV) (v:Value),zs[j]? = some a->zr[j]? = some a'->cx.rel a v->cx.rel a' v
theorem zrE {zs:List AV}:ZrR zs zs:=⟨rfl,fun cx j a a' v h h' hr=>by rw [h] at h';obtain rfl:=osl h';exact hr⟩
theorem AB {β:Type} [Inhabited β] {f:β->List AV} {cx:Cx} {v:Value} (h:cx.rel .nil v):cx.rel (eL f ([]:List β)) v:=by
 obtain rfl:=bS h;exact .fr (.sl (s:=1) (g:=0) (o:=0) (fun _ _ => .bool false) (Nat.le_refl _) (by decide) (fun h=>absurd h (by simp)) (fun i h=>absurd h (by simp)) (fun i j a h=>absurd h (by simp)) (fun i j a h=>absurd h (by simp)) (fun i j a h=>absurd h (by simp)))
theorem zrN {β:Type} [Inhabited β] {f:β->List AV}:ZrR [.nil] [eL f ([]:List β)]:=⟨rfl,fun cx j a a' v h h' hr=>by
 match j with
 | 0=>
  obtain rfl:=osl h;obtain rfl:=osl h';exact AB hr
 | j+1=>simp at h⟩
theorem Je.ixP {k:IntKind} {i:Int} {n lo:Nat} (q:SlT P t e ag w zs m) (hx:ρ x = .hs b ver w lo n) (hy:ρ y = .v (.int k i)) (hi:0<=i/\i<(n:Int)):Je P ρ (.indexAddr t x y) (.hp b ver w (lo+i.toNat) 0):=Je.ixhs q.u q.ty hx hy hi
theorem Je.lenP {n lo:Nat} (q:SlT P t e ag w zs m) (hx:ρ x = .hs b ver w lo n):Je P ρ (.call ⟨.builtin .len,#[x],#[t]⟩) (I n):=Je.lenhs q.u hx
theorem EvA.clearO [Inhabited α] (q:SlT P t e ag w zs m) (hz:ZrR zs (c default)) (hx:ρ x = .hs b ver w off len) (hk:H[b]? = some (bE false ver w e (l.map c))) (ho:off+len<=l.length) :
  EvA P ρ (.call ⟨.builtin .clear,#[x],#[t]⟩) H .top (H.set b (bE false ver w e ((cpy l off (List.replicate len default) len).map c))):=fun o ho'=>by
 obtain ⟨z,hz0,hzz⟩:=Option.map_eq_some_iff.1 q.z.z;have hone:gY z.cells=true:=by
  have := q.z.one;rw [hz0] at this;exact osl this
 have hsz:z.cells.size=w:=by
  have := congrArg List.length hzz;rw [<- q.zl,<- this];simp [bF]
 have h:=Co (o:=o) (P:=P) (ρ:=ρ) (H:=H) (s:=w) (k:=⟨ver,w,e,l.map c⟩) (zr:=c default) ho' rfl rfl rfl q.u hz0 hone hsz (hz.1.trans q.zl) (fun cx j a ha=>by
  have hjl:j<zs.length:=by rw [<- hz.1];exact (ges ha).1
  have hzs:zs[j]? = some zs[j]:=geq hjl;have hju:j<z.cells.size:=by rw [hsz,<- q.zl];exact hjl
  refine ⟨z.cells[j],Array.getElem?_eq_getElem hju,hz.2 cx j _ a _ hzs ha ?_⟩;have hc:=kD cx hone;obtain ⟨u,g1,g2⟩:=hc.get (j:=j) (a:=zs[j]) (by rw [hzz];exact hzs);rw [Array.getElem?_eq_getElem hju] at g1;obtain rfl:=osl g1
  first | exact g2 | exact g2.2) hx hk rfl rfl (by simpa using ho)
 unfold cpy;rw [if_pos ho];simpa [bE,List.map_take,List.map_drop] using h
end
section
variable {P:Program} {H:AH}
theorem bg.wown {f:FuncId} {as0 Jy:List AV} {b:Nat} {g:Bool} {ver w w':Nat} {ty ty':TypeId} {rows0 rows:List (List AV)} {mk:AV->AV} {n:Nat} (h:bg P f as0 [bE g ver w ty rows0] (yB w' ty' mk n rows 0 [])) (hb:H[b]? = some (bE g ver w ty rows0))
  (has:RenL (fun c i=>[b][i]? = some c) Jy as0) (hk0:∀ r∈rows0,∀ a∈r,isF 9 a=true) (hk:∀ r∈rows,∀ a∈r,isF 9 a=true) (hmk:∀ (S:Nat->Nat->Prop) (a b:AV),Ren S a b->Ren S (mk a) (mk b)) :
  bg P f Jy H (fun r G=>∃ g' ver',(g'=true->n=0)/\r=mk (hS g' b ver' w' n)/\G=H.set b (bE g' ver' w' ty' rows)):=by
 have hlt:b<H.length:=(ges hb).1;refine h.frameN [b] (by simp) rfl (fun i c hi=>?_) has.spec.1 has.spec.2 fun r0 G0 ⟨g',ver',hg,hr0,hG0⟩ => ?_
 ·match i with
  | 0=>
   obtain rfl:b=c:=by simpa using hi
   cases g with
   | true=>exact .inl ⟨hb,rfl⟩
   | false=>exact .inr ⟨_,_,hb,rfl,.ofF hk0⟩
  | i+1=>simp at hi
 ·subst hr0 hG0;have key:∀ i c,sg [b] H.length i c->i<1->c=b:=fun i c hs hi=>by
   rcases hs with hs | ⟨hs,_⟩
   ·obtain rfl:i=0:=by omega
    simpa using hs.symm
   ·simp at hs;omega
  refine ⟨_,_,⟨by simp,by simp,fun i c hi hs hn=>?_,fun i c k0 hs hk0=>?_,fun c hc hne=>List.getElem?_set_ne (fun e=>hne (by simp [e]))⟩,hmk _ _ _ ?_,⟨g',ver',hg,rfl,rfl⟩⟩
  ·simp only [List.nil_append,List.length_singleton] at hi;obtain rfl:=key i c hs hi;obtain rfl:i=0:=by omega
   simp only [List.nil_append,List.getElem?_cons_zero,sie] at hn;rw [List.getElem?_set_self hlt,hn]
  ·have hi:i<1:=by
    have := (ges hk0).1;simpa using this
   obtain rfl:=key i c hs hi;obtain rfl:i=0:=by omega
   simp only [List.nil_append,List.getElem?_cons_zero,sie] at hk0;refine ⟨k0,by rw [List.getElem?_set_self hlt,hk0],.ofF fun r hr a ha=>?_⟩
   cases g' with
   | true=>cases hk0
   | false=>
    obtain rfl:=osl hk0;exact hk r hr a ha
  ·cases g' with
   | true=>exact .nil
   | false=>exact .hs (.inl rfl)
theorem jp.oneE {f:FuncId} {as0 Jy:List AV} {b:Nat} {g:Bool} {ver w:Nat} {ty:TypeId} {rows0 rows:List (List AV)} {r:AV} (h:jp P f as0 [bE g ver w ty rows0] r [bE g ver w ty rows]) (hb:H[b]? = some (bE g ver w ty rows0))
  (has:RenL (fun c i=>[b][i]? = some c) Jy as0) (hk0:∀ r∈rows0,∀ a∈r,isF 9 a=true) (hk:∀ r∈rows,∀ a∈r,isF 9 a=true) (hr:isF 9 r=true):jp P f Jy H r (H.set b (bE g ver w ty rows)):=by
 have hlt:b<H.length:=(ges hb).1;have h0:bg P f as0 [bE g ver w ty rows0] (fun r' G=>r'=r/\G=[bE g ver w ty rows]):=⟨h.1,fun c vs hH hr hall=>(h.2 c vs hH hr hall).mono fun e w' ⟨v,c',h1,h2,h3,h4,h5,h6⟩=>⟨v,c',r,h1,h2,⟨rfl,h3⟩,h4,h5,h6⟩⟩;refine bg.acall (h0.frameN [b] (by simp) rfl (fun i c hi=>?_) has.spec.1 has.spec.2 fun r0 G0 ⟨hr0,hG0⟩ => ?_)
 ·match i with
  | 0=>
   obtain rfl:b=c:=by simpa using hi
   cases g with
   | true=>exact .inl ⟨hb,rfl⟩
   | false=>exact .inr ⟨_,_,hb,rfl,.ofF hk0⟩
  | i+1=>simp at hi
 ·subst hr0 hG0;have key:∀ i c,sg [b] H.length i c->i<1->c=b:=fun i c hs hi=>by
   rcases hs with hs | ⟨hs,_⟩
   ·obtain rfl:i=0:=by omega
    simpa using hs.symm
   ·simp at hs;omega
  refine ⟨_,_,⟨by simp,by simp,fun i c hi hs hn=>?_,fun i c k0 hs hk0=>?_,fun c hc hne=>List.getElem?_set_ne (fun e=>hne (by simp [e]))⟩,ax 9 _ hr,rfl,rfl⟩
  ·simp only [List.length_singleton] at hi;obtain rfl:=key i c hs hi;obtain rfl:i=0:=by omega
   simp only [List.getElem?_cons_zero,sie] at hn;rw [List.getElem?_set_self hlt,hn]
  ·have hi:i<1:=by
    have := (ges hk0).1;simpa using this
   obtain rfl:=key i c hs hi;obtain rfl:i=0:=by omega
   simp only [List.getElem?_cons_zero,sie] at hk0;refine ⟨k0,by rw [List.getElem?_set_self hlt,hk0],.ofF fun r hr a ha=>?_⟩
   cases g with
   | true=>cases hk0
   | false=>
    obtain rfl:=osl hk0;exact hk r hr a ha
theorem Eh {S:Nat->Nat->Prop} {g:Bool} {i j v w n n':Nat} (h:S i j) (hn:n=n'):Ren S (hS g i v w n) (hS g j v w n'):=hn ▸ cF h
variable {nt b0:Nat} {Q:Exit->Env->AH->Prop} {en:List (Nat×AV)} {ops:Array Oper} {l:List Oper} {d:Tmp} {t:TypeId} {pos:String} {af:Array Edge}
theorem oGW {cl:Call} {f:Operand} {g:FuncId} {caps as0:List AV} {H:AH} {b w0 ver w:Nat} {g0:Bool} {ty0 ty:TypeId} {rows0 rows:List (List AV)} {mk:AV->AV} {n:Nat} (hc:cl.callee = .value f) (hf:rho (ae en) f = .fn (.func g) caps)
  (h:bg P g as0 [bE g0 ver w0 ty0 rows0] (yB w ty mk n rows 0 [])) (hb:H[b]? = some (bE g0 ver w0 ty0 rows0)) (has:RenL (fun c i=>[b][i]? = some c) (cl.args.toList.map (rho (ae en))++caps) as0) (hk0:∀ r∈rows0,∀ a∈r,isF 9 a=true) (hk:∀ r∈rows,∀ a∈r,isF 9 a=true)
  (hmk:∀ (S:Nat->Nat->Prop) (a b:AV),Ren S a b->Ren S (mk a) (mk b)) (k:∀ g' ver',(g'=true->n=0)->TO P nt b0 ops l Q (ae ((d,mk (hS g' b ver' w n))::en)) (H.set b (bE g' ver' w ty rows))):TO P nt b0 ops (⟨some d,.call cl,t,pos,af,none⟩::l) Q (ae en) H:=by
 exact TO.runG (.free rfl) (vC rfl hc hf (h.wown hb has hk0 hk hmk)) fun r' H' ⟨g',ver',hg,hr,hH⟩=>by
  subst hr hH;exact k g' ver' hg
end
section
variable {P:Program} {ρ:Operand->AV} {H:AH} {x y z:Operand} {t e keyT:TypeId} {ag:Bool} {w j b kn:Nat}
theorem Je.slA {α:Type} [Inhabited α] {c:α->List AV} (l:List α) {row:List AV} (hu:P.underlying t=some (.array 3 e)) (ty:TyF P e ag w) (hx:ρ x = .fp row j) (hl:l.length=3) (hr:Nat.ble (j+3*w) row.length=true)
  (h:[(row.drop (j+0*w)).take w,(row.drop (j+1*w)).take w,(row.drop (j+2*w)).take w]=[c (l.getD 0 default),c (l.getD 1 default),c (l.getD 2 default)]):Je P ρ (.slice t x none none none) (eL c l):=by
 injection h with h0 h;injection h with h1 h;injection h with h2 _;have key:Je P ρ (.slice t x none none none) (.sl 3 (fun i=>(row.drop (j+i*w)).take w)) := .mk fun K hK=>by
  show o9 P ρ (.slice t x none none none) K;simp only [o9,qx,hu,hx,Option.map_none];show (0<=(0:Int)/\(0:Int)<=((3:Nat):Int)/\((3:Nat):Int)<=((3:Nat):Int)/\j+3*P.cellsOf e<=row.length/\(P.info? e).isSome=true/\3<=9223372036854775807)/\_;rw [ty.cells];exact ⟨⟨by omega,by omega,by omega,nlb hr,ty.info,by omega⟩,hK⟩
 refine key.res fun C v hv=>?_;unfold Go.Proofs.YtlmjnhnpahicmaaGreat.eL;rw [hl];exact wY (fun i hi=>by
  match i,hi with
  | 0,_=>exact h0
  | 1,_=>exact h1
  | 2,_=>exact h2) hv
variable {K:Type} [DecidableEq K] {kc:K->List Value} {l:List (K×Bool)}
omit [DecidableEq K] in
end
def cmpL:LI->LI->Int
 | [],[]=>0
 | [],_::_ => -1
 | _::_,[]=>1
 | a::l,b::k=>if a<b then -1 else if b<a then 1 else cmpL l k
theorem jv:∀ l,cmpL l l=0
 | []=>rfl
 | a::l=>by rw [cmpL,if_neg (Int.lt_irrefl _),if_neg (Int.lt_irrefl _),jv l]
theorem mJ:∀ l k,cmpL k l = - cmpL l k
 | [],[]=>rfl
 | [],_::_=>rfl
 | _::_,[]=>rfl
 | a::l,b::k=>by
  rw [cmpL,cmpL]
  by_cases h:a<b
  ·rw [if_pos h,if_pos h,if_neg (by omega)]
   rfl
  ·rw [if_neg h,if_neg h]
   by_cases h2:b<a
   ·rw [if_pos h2,if_pos h2]
   ·rw [if_neg h2,if_neg h2,mJ l k]
theorem cmpL_eq:∀ {l k},cmpL l k=0->l=k
 | [],[],_=>rfl
 | [],_::_,h=>by cases h
 | _::_,[],h=>by cases h
 | a::l,b::k,h=>by
  rw [cmpL] at h
  split at h
  ·cases h
  ·split at h
   ·cases h
   ·rw [cmpL_eq h]
    congr 1
    omega
theorem jl:∀ {l k m},cmpL l k<0->cmpL k m<0->cmpL l m<0
 | [],[],_,h,_=>by cases h
 | [],_::_,[],_,h=>by simp [cmpL] at h
 | [],_::_,_::_,_,_=>by simp [cmpL]
 | _::_,[],_,h,_=>by simp [cmpL] at h
 | _::_,_::_,[],_,h=>by simp [cmpL] at h
 | a::l,b::k,c::m,h1,h2=>by
  rw [cmpL] at h1 h2 ⊢
  by_cases e1:a<b
  ·by_cases e2:c<b
   ·rw [if_neg (by omega),if_pos e2] at h2
    cases h2
   ·rw [if_pos (by omega)]
    decide
  ·rw [if_neg e1] at h1
   by_cases e2:b<a
   ·rw [if_pos e2] at h1
    cases h1
   ·rw [if_neg e2] at h1;obtain rfl:a=b:=by omega
    by_cases e3:a<c
    ·rw [if_pos e3]
     decide
    ·rw [if_neg e3] at h2 ⊢
     by_cases e4:c<a
     ·rw [if_pos e4] at h2
      cases h2
     ·rw [if_neg e4] at h2 ⊢;exact jl h1 h2
theorem kX (l k:LI):cmpL l k<0\/l=k\/cmpL k l<0:=by
 have := mJ l k;rcases Int.lt_trichotomy (cmpL l k) 0 with h | h | h
 ·exact .inl h
 ·exact .inr (.inl (cmpL_eq h))
 ·exact .inr (.inr (by omega))
def leL (x y:LI):Bool:=decide (¬ cmpL y x<0)
def xm (l:LL):LL:=l.mergeSort leL
theorem Cq (x y:LI):(leL x y||leL y x)=true:=by
 unfold leL;rw [Bool.or_eq_true,dte,dte];rcases kX x y with h | h | h
 ·left;have := mJ x y;omega
 ·left;rw [h,jv];decide
 ·right;have := mJ x y;omega
theorem Cr (x y z:LI) (h1:leL x y=true) (h2:leL y z=true):leL x z=true:=by
 unfold leL at *;rw [dte] at *;intro h;rcases kX x y with g | g | g
 ·rcases kX y z with g2 | g2 | g2
  ·exact h2 (jl h g)
  ·rw [g2] at h1;exact h1 h
  ·exact h2 g2
 ·rw [g] at h;exact h2 h
 ·exact h1 g
theorem zF (x y:LI) (h1:leL x y=true) (h2:leL y x=true):x=y:=by
 unfold leL at *;rw [dte] at *;rcases kX x y with h | h | h
 ·exact absurd h h2
 ·exact h
 ·exact absurd h h1
theorem jw (l:LL):(xm l).Perm l:=List.mergeSort_perm l leL
theorem sJ (l:LL):(xm l).Pairwise fun x y=>leL x y=true:=List.pairwise_mergeSort Cr Cq l
theorem kY:∀ {l k:LL},l.Perm k->l.Pairwise (fun x y=>leL x y=true)->k.Pairwise (fun x y=>leL x y=true)->l=k
 | [],k,h,_,_=>h.nil_eq
 | a::l,[],h,_,_=>absurd h.length_eq (by simp)
 | a::l,b::k,h,h1,h2=>by
  have hab:a=b:=by
   rcases List.mem_cons.1 (h.subset (List.mem_cons_self)) with e | e
   ·exact e
   ·rcases List.mem_cons.1 (h.symm.subset (List.mem_cons_self)) with e2 | e2
    ·exact e2.symm
    ·exact zF a b ((List.pairwise_cons.1 h1).1 b e2) ((List.pairwise_cons.1 h2).1 a e)
  subst hab;rw [kY (List.perm_cons a |>.1 h) (List.pairwise_cons.1 h1).2 (List.pairwise_cons.1 h2).2]
def cZ (l:LL):Option (LL):=gd (decide (l.length<4611686018427387904)) (some (xm l))
theorem l8 {l q:LL} (h:l=[]) (c:cZ l=some q):q=[]:=by
 subst h;obtain ⟨_,c⟩:=gdD c;rw [<- osl c];exact (jw []).eq_nil
theorem l9 {l q:LL} (c:cZ l=some q):q.length=l.length:=by
 obtain ⟨_,c⟩:=gdD c;rw [<- osl c];exact (jw l).length_eq
end
end Go.Proofs.YtlmjnhnpahicmaaGreat
