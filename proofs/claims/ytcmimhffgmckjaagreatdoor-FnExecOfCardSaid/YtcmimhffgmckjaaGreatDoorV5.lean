/- Texts joined. No conditions. -/
import Derived.Below
import Derived.Laws.OwnMore
import Derived.Deep.Draws
import Derived.Laws.Rows
import Derived.Laws.MakeOwn
import Derived.Laws.Entries
import Derived.Lib.Hide
import Derived.Test.YtcmimhffgmckjaaGreatDoorRows
import Derived.WalkKit
import Derived.ProofKit
import Derived.Deep.RegionHeld3
import Derived.Deep.DrawnRows
import Derived.Maps.AppendAt
import Derived.Deep.AppendLies
import Derived.RegionTactic
import Derived.OwnWalk
import Derived.Outline
import Derived.Deep.RegionLaw
import Derived.Deep.RegionWith
import Derived.ChangeAlike
import Derived.Test.YtcmimhffgmckjaaGreatDoorV4
namespace Go.Proofs.YtcmimhffgmckjaaGreatDoor
noncomputable section
open Go.RowKit
def Blk (w:World) (g:Nat) (t:TypeId) (cs:Array Value):Prop:=w.heap[g]? = some (.cells cs t (0,0))
section
variable {w w':World} {g:Nat} {t:TypeId} {cs:Array Value}
theorem Blk.lt (h:Blk w g t cs):g<w.heap.size:=by
 rcases Nat.lt_or_ge g w.heap.size with hlt | hge
 ·exact hlt
 ·unfold Blk at h;rw [Array.getElem?_eq_none hge] at h;cases h
theorem Blk.cell (h:Blk w g t cs) (i:Nat):w.cell? ⟨g,i,none⟩=cs[i]? := cell_of_row w g i cs t (0,0) h
theorem Blk.frozen (h:Blk w g t cs) (i:Nat):w.frozen? ⟨g,i,none⟩=false:=by
 unfold Blk at h;simp [World.frozen?,h]
theorem Blk.new (w:World) (t:TypeId) (cs:Array Value):Blk (w.alloc (.cells cs t)) w.heap.size t cs:=heap_alloc_new w _
theorem Blk.at_ {n:Nat} (h:w.heap.size=n):Blk (w.alloc (.cells cs t)) n t cs:=h ▸ Blk.new _ _ _
theorem Blk.alloc (h:Blk w g t cs) (o:Obj):Blk (w.alloc o) g t cs:=(Below.heap_alloc w o g h.lt).trans h
theorem Blk.set_ (h:Blk w g t cs) (i:Nat) (u:Value):Blk (w.setCell ⟨g,i,none⟩ u) g t (cs.setIfInBounds i u):=by
 unfold Blk at h ⊢;simp [World.setCell,Array.getElem?_modify,h]
theorem Blk.below {B:Nat} (h:Blk w g t cs) (hb:Below B w w') (hg:g<B):Blk w' g t cs:=(hb.block g hg).trans h
theorem Blk.inj {t':TypeId} {cs':Array Value} (h:Blk w g t cs) (h':Blk w g t' cs'):t=t'/\cs=cs':=by
 unfold Blk at h h';rw [h] at h';injection h' with h';injection h' with h1 h2;exact ⟨h2,h1⟩
end
structure Fr (lo hi:Nat) (w w':World):Prop where
 os:w'.os=w.os
 tape:w'.tape=w.tape
 output:w'.output=w.output
 size:w.heap.size<=w'.heap.size
 block:∀ k,k<w.heap.size->(k<lo\/hi<=k)->w'.heap[k]? = w.heap[k]?
section
variable {a w w':World} {lo hi l h B:Nat}
theorem Fr.refl (lo hi:Nat) (w:World):Fr lo hi w w:=⟨rfl,rfl,rfl,Nat.le_refl _,fun _ _ _=>rfl⟩
theorem Fr.trans {b c:World} (h:Fr lo hi a b) (k:Fr lo hi b c):Fr lo hi a c:=
 ⟨k.os.trans h.os,k.tape.trans h.tape,k.output.trans h.output,Nat.le_trans h.size k.size,fun i hi hn=>(k.block i (Nat.lt_of_lt_of_le hi h.size) hn).trans (h.block i hi hn)⟩
theorem Fr.alloc (f:Fr lo hi a w) (o:Obj):Fr lo hi a (w.alloc o):=
 f.trans ⟨rfl,rfl,rfl,by simp,fun k hk _=>Below.heap_alloc _ _ _ hk⟩
theorem Blk.fr {g:Nat} {t:TypeId} {cs:Array Value} (b:Blk w g t cs) (f:Fr lo hi w w') (hg:g<lo\/hi<=g):Blk w' g t cs:=(f.block g b.lt hg).trans b
end
section
variable {α:Type} (f:α->List Value) (s:Nat)
def Sl (w:World) (lo hi:Nat) (v:Value) (xs:List α):Prop:=
 ∃ A c,v = .slice A xs.length c/\xs.length<=c/\c<=9223372036854775807/\(0<xs.length->∃ b o,A=some ⟨b,o,none⟩/\lo<=b/\b<hi/\b<w.heap.size /\
  ∀ (k:Nat) (h:k<xs.length) (j:Nat) (u:Value),(f xs[k])[j]? = some u->w.cell? ⟨b,o+k*s+j,none⟩=some u)
def Ow (t:TypeId) (w:World) (lo hi:Nat) (v:Value) (xs:List α):Prop:=
 ∃ A c,v = .slice A xs.length c/\xs.length<=c/\c<=9223372036854775807/\(0<xs.length->∃ g cur,A=some ⟨g,0,none⟩/\lo<=g/\g<hi/\Blk w g t cur/\cur.size=c*s /\
  ∀ (k:Nat) (h:k<xs.length) (j:Nat) (u:Value),(f xs[k])[j]? = some u->cur[k*s+j]? = some u)
end
section
variable {α:Type} {f:α->List Value} {s:Nat} {t:TypeId} {w w':World} {lo hi l h B:Nat} {v:Value} {xs:List α}
theorem Sl.zY (c:Nat) (A:Option Addr) (hc:c<=9223372036854775807):Sl f s w lo hi (.slice A 0 c) []:=⟨A,c,rfl,by simp,hc,fun h=>absurd h (by simp)⟩
theorem Sl.keep (x:Sl f s w lo hi v xs) (hs:w.heap.size<=w'.heap.size) (hk:∀ k,k<w.heap.size->lo<=k->k<hi->w'.heap[k]? = w.heap[k]?):Sl f s w' lo hi v xs:=by
 obtain ⟨A,c,e,hc,hm,r⟩:=x;refine ⟨A,c,e,hc,hm,fun hn=>?_⟩;obtain ⟨b,o,e2,hb1,hb2,hb3,hx⟩:=r hn;refine ⟨b,o,e2,hb1,hb2,by omega,fun k hk' j u hu=>?_⟩;rw [World.cell?_of_block (hk b hb3 hb1 hb2)];exact hx k hk' j u hu
theorem Ow.keep (x:Ow f s t w lo hi v xs) (hk:∀ k,k<w.heap.size->lo<=k->k<hi->w'.heap[k]? = w.heap[k]?):Ow f s t w' lo hi v xs:=by
 obtain ⟨A,c,e,hc,hm,r⟩:=x;refine ⟨A,c,e,hc,hm,fun hn=>?_⟩;obtain ⟨g,cur,e2,hb1,hb2,hb3,hx⟩:=r hn;exact ⟨g,cur,e2,hb1,hb2,(hk g hb3.lt hb1 hb2).trans hb3,hx⟩
theorem Sl.fr (x:Sl f s w lo hi v xs) (b:Fr l h w w') (hB:hi<=l\/h<=lo):Sl f s w' lo hi v xs:=x.keep b.size fun k hk h1 h2=>b.block k hk (by omega)
theorem Ow.fr (x:Ow f s t w lo hi v xs) (b:Fr l h w w') (hB:hi<=l\/h<=lo):Ow f s t w' lo hi v xs:=x.keep fun k hk h1 h2=>b.block k hk (by omega)
end
def Ko (v:Value):List Value:=[v]
def Ez (n:Int):List Value:=[.int .u8 n]
section
variable {α:Type} {g:α->Value} {f:α->List Value} {s:Nat} {w:World} {lo hi:Nat} {v:Value}
theorem Sl.one_ {xs:List α} (hf:∀ x,f x=[g x]) (x:Sl f 1 w lo hi v xs):∃ A c,v = .slice A xs.length c/\xs.length<=c/\c<=9223372036854775807/\(0<xs.length->∃ b o,A=some ⟨b,o,none⟩/\lo<=b/\b<hi/\b<w.heap.size /\
  ∀ (k:Nat) (h:k<xs.length),w.cell? ⟨b,o+k,none⟩=some (g xs[k])):=by
 obtain ⟨A,c,e,hc,hm,r⟩:=x;refine ⟨A,c,e,hc,hm,fun hn=>?_⟩;obtain ⟨b,o,e2,hb1,hb2,hb3,hx⟩:=r hn;refine ⟨b,o,e2,hb1,hb2,hb3,fun k hk=>?_⟩;have := hx k hk 0 (g xs[k]) (by rw [hf];rfl);simpa using this
theorem Sl.vals {xs:List Value} (x:Sl Ko 1 w lo hi v xs):∃ A c,v = .slice A xs.length c/\xs.length<=c/\c<=9223372036854775807/\(0<xs.length->∃ b o,A=some ⟨b,o,none⟩/\lo<=b/\b<hi/\b<w.heap.size /\
 ∀ (k:Nat) (h:k<xs.length),w.cell? ⟨b,o+k,none⟩=some xs[k]):=Sl.one_ (g:=fun v=>v) (fun _=>rfl) x
end
structure Ins where
 op:Int
 loc:Int
 reg:Int
 val:Int
 deriving DecidableEq,Inhabited
def Ins.v (x:Ins):Value := .agg #[.int .i64 x.op,.int .i64 x.loc,.int .i64 x.reg,.int .i64 x.val]
def Ins.cells (x:Ins):List Value:=[.int .i64 x.op,.int .i64 x.loc,.int .i64 x.reg,.int .i64 x.val]
def FU (w:World) (b o:Nat) (x:Ins):Prop:=
 w.cell? ⟨b,o,none⟩=some (.int .i64 x.op)/\w.cell? ⟨b,o+1,none⟩=some (.int .i64 x.loc)/\w.cell? ⟨b,o+2,none⟩=some (.int .i64 x.reg)/\w.cell? ⟨b,o+3,none⟩=some (.int .i64 x.val)
def I4 (cs:Array Value) (o:Nat) (x:Ins):Prop:=cs[o]? = some (.int .i64 x.op)/\cs[o+1]? = some (.int .i64 x.loc)/\cs[o+2]? = some (.int .i64 x.reg)/\cs[o+3]? = some (.int .i64 x.val)
section
variable {w w':World} {b o p:Nat} {x y:Ins} {cs:Array Value} {t:TypeId} {g B lo hi:Nat} {v:Value} {xs:List Ins}
theorem FU.below (h:FU w b o x) (hb:Below B w w') (hlt:b<B):FU w' b o x:=by
 unfold FU at *;rw [hb.cell (by exact hlt),hb.cell (by exact hlt),hb.cell (by exact hlt),hb.cell (by exact hlt)];exact h
theorem I4.cells {k:Nat} (h:I4 cs k x):∀ (j:Nat) (u:Value),x.cells[j]? = some u->cs[k+j]? = some u:=by
 intro j u hu
 match j,hu with
 | 0,hu=>simp [Ins.cells] at hu;subst hu;exact h.1
 | 1,hu=>simp [Ins.cells] at hu;subst hu;exact h.2.1
 | 2,hu=>simp [Ins.cells] at hu;subst hu;exact h.2.2.1
 | 3,hu=>simp [Ins.cells] at hu;subst hu;exact h.2.2.2
 | n+4,hu=>simp [Ins.cells] at hu
theorem Sl.inss (x:Sl Ins.cells 4 w lo hi v xs):∃ A c,v = .slice A xs.length c/\xs.length<=c/\c<=9223372036854775807/\(0<xs.length->∃ b o,A=some ⟨b,o,none⟩/\lo<=b/\b<hi/\b<w.heap.size /\
  ∀ (k:Nat) (h:k<xs.length),FU w b (o+k*4) xs[k]):=by
 obtain ⟨A,c,e,hc,hm,r⟩:=x;refine ⟨A,c,e,hc,hm,fun hn=>?_⟩;obtain ⟨b,o,e2,hb1,hb2,hb3,hx⟩:=r hn;exact ⟨b,o,e2,hb1,hb2,hb3,fun k hk=>⟨hx k hk 0 _ rfl,hx k hk 1 _ rfl,hx k hk 2 _ rfl,hx k hk 3 _ rfl⟩⟩
end
section
variable {α:Type} (f:α->List Value) (s:Nat)
def Ad (w:World) (lo hi:Nat) (v:Value) (p:List (List α)):Prop:=
 ∃ vs:List Value,Sl Ko 1 w lo hi v vs/\vs.length=p.length/\∀ (k:Nat) (h:k<vs.length) (h':k<p.length),Sl f s w lo hi vs[k] p[k]
def J8 (to ti:TypeId) (w:World) (lo hi:Nat) (v:Value) (p:List (List α)):Prop:=
 ∃ vs:List Value,Ow Ko 1 to w lo hi v vs/\vs.length=p.length/\(∀ (k:Nat) (h:k<vs.length) (h':k<p.length),Ow f s ti w lo hi vs[k] p[k]) /\
  ∀ (i j:Nat) (hi:i<vs.length) (hj:j<vs.length) (hi':i<p.length) (hj':j<p.length),i≠j->0<p[i].length->0<p[j].length->vs[i].ownBlock≠vs[j].ownBlock
end
section
variable {α:Type} {f:α->List Value} {s:Nat} {to ti:TypeId} {w w':World} {lo hi l h B:Nat} {v:Value} {p:List (List α)}
theorem Ad.keep (x:Ad f s w lo hi v p) (hs:w.heap.size<=w'.heap.size) (hk:∀ k,k<w.heap.size->lo<=k->k<hi->w'.heap[k]? = w.heap[k]?):Ad f s w' lo hi v p:=by
 obtain ⟨vs,h1,h2,h3⟩:=x;exact ⟨vs,h1.keep hs hk,h2,fun k a b=>(h3 k a b).keep hs hk⟩
theorem J8.keep (x:J8 f s to ti w lo hi v p) (hk:∀ k,k<w.heap.size->lo<=k->k<hi->w'.heap[k]? = w.heap[k]?):J8 f s to ti w' lo hi v p:=by
 obtain ⟨vs,h1,h2,h3,h4⟩:=x;exact ⟨vs,h1.keep hk,h2,fun k a b=>(h3 k a b).keep hk,h4⟩
theorem Ad.below (x:Ad f s w lo hi v p) (b:Below B w w') (hB:hi<=B):Ad f s w' lo hi v p:=x.keep b.size fun k _ _ h2=>b.block k (by omega)
theorem Ad.fr (x:Ad f s w lo hi v p) (b:Fr l h w w') (hB:hi<=l\/h<=lo):Ad f s w' lo hi v p:=x.keep b.size fun k hk h1 h2=>b.block k hk (by omega)
theorem J8.fr (x:J8 f s to ti w lo hi v p) (b:Fr l h w w') (hB:hi<=l\/h<=lo):J8 f s to ti w' lo hi v p:=x.keep fun k hk h1 h2=>b.block k hk (by omega)
end
theorem rU {α:Type} (xs:List α) (k:Nat) (h:k<xs.length):xs.take (k+1)=xs.take k++[xs[k]]:=by
 rw [List.take_succ_eq_append_getElem h]
theorem aZ {a b:Bool} (h:a=b):Ending.returned (.bool a)=Ending.returned (.bool b):=by rw [h]
theorem zt {k:IntKind} {a b:Int} (h:a=b):Ending.returned (.int k a) = .returned (.int k b):=by rw [h]
open Go.ChangeShapes Go.WideShapes Go.ChangeAt Go.RowKit
set_option maxRecDepth 100000
set_option maxRecDepth 100000
def total {α:Type} (p:List (List α)):Nat:=(p.map List.length).sum
theorem zu {α:Type} (p:List (List α)) (k:Nat) (h:k<p.length):total (p.take (k+1))=total (p.take k)+p[k].length:=by
 unfold total;rw [rU _ _ h,List.map_append,List.sum_append];simp
theorem Bn {α:Type} (p:List (List α)) (k:Nat):total (p.take k)<=total p:=by
 unfold total
 conv=>rhs;rw [<- List.take_append_drop k p,List.map_append,List.sum_append]
 omega
section
variable {α:Type} {f:α->List Value} {s:Nat} {t:TypeId} {w w':World} {lo hi:Nat} {v:Value} {xs:List α} {row:Option Nat}
theorem Ow.block (x:Ow f s t w lo hi v xs) (hn:0<xs.length):∃ g cur,v.ownBlock=some g/\lo<=g/\g<hi/\Blk w g t cur:=by
 obtain ⟨A,c,rfl,hc,hm,r⟩:=x;obtain ⟨g,cur,rfl,hb1,hb2,hb3,hx⟩:=r hn;exact ⟨g,cur,rfl,hb1,hb2,hb3⟩
end
section
variable {P:Program} (w:World)
end
theorem xg (b o j:Nat):(⟨b,o,none⟩:Addr).add j=⟨b,o+j,none⟩:=by
 unfold Addr.add
 by_cases h:j=0 <;> simp [h]
section
variable {α:Type} {f:α->List Value} {s:Nat} {t:TypeId} {w w':World} {lo hi:Nat} {v:Value} {xs:List α}
theorem flat_get (hf:∀ x,(f x).length=s) (xs:List α) (k:Nat) (h:k<xs.length) (j:Nat) (hj:j<s):(xs.flatMap f)[k*s+j]? = (f xs[k])[j]? := by
 induction xs generalizing k with
 | nil=>simp at h
 | cons x r ih=>
  rw [List.flatMap_cons]
  match k,h with
  | 0,_=>
   rw [gal (by rw [hf];omega)];simp
  | k+1,h=>
   have h2:k<r.length:=by simpa using h
   rw [gar (by rw [hf,Nat.add_mul];omega)];have := ih k h2;rw [hf,show (k+1)*s+j-s=k*s+j from by rw [Nat.add_mul];omega];simpa using this
theorem DX (hf:∀ x,(f x).length=s) (xs:List α):(xs.flatMap f).length=xs.length*s:=by
 induction xs with
 | nil=>simp
 | cons x r ih=>rw [List.flatMap_cons,lla,hf,ih,llc,Nat.add_mul];omega
theorem EA (hs:0<s) {n q:Nat} (h:q<n*s):q / s<n/\q % s<s/\q=q / s*s+q % s:=
 ⟨(Nat.div_lt_iff_lt_mul hs).2 h,Nat.mod_lt _ hs,by rw [Nat.mul_comm];exact (Nat.div_add_mod q s).symm⟩
theorem Ow.row (hf:∀ x,(f x).length=s) (hs:0<s) (h:Ow f s t w lo hi v xs) (hn:0<xs.length):w.ownsRow lo t s v xs.length (xs.flatMap f):=by
 obtain ⟨A,c,rfl,hc,hm,r⟩:=h;obtain ⟨g,cur,rfl,hg1,hg2,hB,hsz,hx⟩:=r hn;refine ⟨DX hf xs,.inr ⟨g,c,cur,rfl,hg1,hB,hc,by simp only [maxLen];omega,hsz,?_⟩⟩;have hle:xs.length*s<=c*s:=Nat.mul_le_mul_right s hc;apply List.ext_getElem?;intro q
 by_cases hq:q<xs.length*s
 ·obtain ⟨h1,h2,h3⟩:=EA hs hq;rw [List.getElem?_take,if_pos hq];have hlt:q % s<(f xs[q / s]).length:=by rw [hf];exact h2
  have := hx _ h1 _ _ (geq hlt);rw [<- h3] at this;rw [Array.getElem?_toList,this,<- geq hlt,<- flat_get hf xs _ h1 _ h2,<- h3]
 ·rw [gen (Nat.le_trans (List.length_take_le _ _) (by omega)),gen (by rw [DX hf];omega)]
end
theorem fw (x lo hi:Int) (b:Bool) (hb:(decide (lo<=x)&&decide (x<=hi))=b) (w:World) :
  Calls Tryz.prog 92 #[.int .i64 x,.int .i64 lo,.int .i64 hi] w fun e w'=>e = .returned (.bool b)/\w=w':=by
 subst hb
 by_cases h1:lo<=x
 ·by_cases h2:x<=hi
  ·go_enter Tryz.func92,Tryz.ntmps92
   go_wp2
   all_goals (go_ret;exact ⟨aZ (by simp [h1,h2]),rfl⟩)
  ·go_enter Tryz.func92,Tryz.ntmps92
   go_wp2
   all_goals (go_ret;exact ⟨aZ (by simp;omega),rfl⟩)
 ·go_enter Tryz.func92,Tryz.ntmps92
  go_wp2
  all_goals (go_ret;exact ⟨aZ (by simp;omega),rfl⟩)
def m5 (x:Mh):Ins:=⟨x.Op,x.Loc,x.Reg,x.Val⟩
theorem Ch {α β:Type} (e:α->β) (p:List (List α)):total (p.map fun r=>r.map e)=total p:=by
 unfold total;rw [List.map_map]
 congr 1
 exact List.map_congr_left fun r _=>llm _
theorem rV (x hi:Int) (b:Bool) (hb:(decide (0<=x)&&decide (x<=hi))=b) (w:World) :
  Calls Tryz.prog 73 #[.int .i64 x,.int .i64 hi] w fun e w'=>e = .returned (.bool b)/\w=w':=by
 subst hb
 by_cases h1:0<=x
 ·by_cases h2:x<=hi
  ·go_enter Tryz.func73,Tryz.ntmps73
   go_wp2
   all_goals (go_ret;exact ⟨aZ (by simp [h1,h2]),rfl⟩)
  ·go_enter Tryz.func73,Tryz.ntmps73
   go_wp2
   all_goals (go_ret;exact ⟨aZ (by simp;omega),rfl⟩)
 ·go_enter Tryz.func73,Tryz.ntmps73
  go_wp2
  all_goals (go_ret;exact ⟨aZ (by simp;omega),rfl⟩)
def inB (x hi:Int):Bool:=decide (0<=x)&&decide (x<=hi)
def lK (x:Ins):Bool:=
 if x.op=1\/x.op=3 then inB x.loc 2&&inB x.reg 2&&x.val==0
 else if x.op=2 then inB x.loc 2&&x.reg==0&&inB x.val 3
 else if x.op=4 then x.loc==0&&x.reg==0&&x.val==0
 else if x.op=5 then inB x.loc 2&&inB x.reg 2&&inB x.val 3
 else false
theorem vp (x:Ins) (w:World) :
  Calls Tryz.prog 204 #[x.v] w fun e w'=>e = .returned (.bool (lK x))/\Below w.heap.size w w':=by
 obtain ⟨op,a,b,c⟩:=x;have hop:(op=1\/op=3)\/op=2\/op=4\/op=5\/((op==1)=false/\(op==3)=false/\(op==2)=false/\(op==4)=false/\(op==5)=false):=by
  simp only [beq_eq_false_iff_ne,ne_eq];omega
 unfold Ins.v;rcases hop with hop | rfl | rfl | rfl | ⟨h1,h2,h3,h4,h5⟩
 ·have hr:lK ⟨op,a,b,c⟩=(inB a 2&&inB b 2&&c==0):=by unfold lK;rw [if_pos hop]
  generalize ha:inB a 2=pa at *;generalize hb:inB b 2=pb at *;have HR:=Lib.hid hr;clear hr;have HA:=Lib.hid ha;clear ha;have HB:=Lib.hid hb;clear hb;rcases hop with rfl | rfl
  all_goals
   go_enter Tryz.func204,Tryz.ntmps204
   go_wp2_with (first
    | (go_at_call_of 73 (Value.int .i64 a);refine (rV a 2 _ HA.out _).mono ?_;rintro e w1 ⟨rfl,rfl⟩)
    | (go_at_call_of 73 (Value.int .i64 b);refine (rV b 2 _ HB.out _).mono ?_;rintro e w1 ⟨rfl,rfl⟩))
   all_goals (go_ret;exact ⟨aZ (by rw [HR.out];simp_all),(Below.refl _ _).alloc (Nat.le_refl _) _⟩)
 ·have hr:lK ⟨2,a,b,c⟩=(inB a 2&&b==0&&inB c 3):=rfl;generalize ha:inB a 2=pa at *;generalize hc:inB c 3=pc at *;have HR:=Lib.hid hr;clear hr;have HA:=Lib.hid ha;clear ha;have HC:=Lib.hid hc;clear hc
  go_enter Tryz.func204,Tryz.ntmps204
  go_wp2_with (first
   | (go_at_call_of 73 (Value.int .i64 a);refine (rV a 2 _ HA.out _).mono ?_;rintro e w1 ⟨rfl,rfl⟩)
   | (go_at_call_of 73 (Value.int .i64 c);refine (rV c 3 _ HC.out _).mono ?_;rintro e w1 ⟨rfl,rfl⟩))
  all_goals (go_ret;exact ⟨aZ (by rw [HR.out];simp_all),(Below.refl _ _).alloc (Nat.le_refl _) _⟩)
 ·have hr:lK ⟨4,a,b,c⟩=(a==0&&b==0&&c==0):=rfl;have HR:=Lib.hid hr;clear hr
  go_enter Tryz.func204,Tryz.ntmps204
  go_wp2_with fail
  all_goals (go_ret;exact ⟨aZ (by rw [HR.out];simp_all),(Below.refl _ _).alloc (Nat.le_refl _) _⟩)
 ·have hr:lK ⟨5,a,b,c⟩=(inB a 2&&inB b 2&&inB c 3):=rfl;generalize ha:inB a 2=pa at *;generalize hb:inB b 2=pb at *;generalize hc:inB c 3=pc at *;have HR:=Lib.hid hr;clear hr;have HA:=Lib.hid ha;clear ha;have HB:=Lib.hid hb;clear hb;have HC:=Lib.hid hc;clear hc
  go_enter Tryz.func204,Tryz.ntmps204
  go_wp2_with (first
   | (go_at_call_of 73 (Value.int .i64 a);refine (rV a 2 _ HA.out _).mono ?_;rintro e w1 ⟨rfl,rfl⟩)
   | (go_at_call_of 73 (Value.int .i64 b);refine (rV b 2 _ HB.out _).mono ?_;rintro e w1 ⟨rfl,rfl⟩)
   | (go_at_call_of 73 (Value.int .i64 c);refine (rV c 3 _ HC.out _).mono ?_;rintro e w1 ⟨rfl,rfl⟩))
  all_goals (go_ret;exact ⟨aZ (by rw [HR.out];simp_all),(Below.refl _ _).alloc (Nat.le_refl _) _⟩)
 ·have hr:lK ⟨op,a,b,c⟩=false:=by
   simp only [beq_eq_false_iff_ne,ne_eq] at h1 h2 h3 h4 h5;simp [lK,h1,h2,h3,h4,h5]
  have HR:=Lib.hid hr;clear hr
  go_enter Tryz.func204,Tryz.ntmps204
  go_wp2_with fail
  all_goals (go_ret;exact ⟨aZ (by rw [HR.out]),(Below.refl _ _).alloc (Nat.le_refl _) _⟩)
theorem vq (x:Ins) (w:World) :
  Calls Tryz.prog 93 #[x.v] w fun e w'=>e = .returned (.bool (lK x))/\Below w.heap.size w w':=by
 obtain ⟨op,a,b,c⟩:=x;have hop:(op=1\/op=3)\/op=2\/op=4\/op=5\/((op==1)=false/\(op==3)=false/\(op==2)=false/\(op==4)=false/\(op==5)=false):=by
  simp only [beq_eq_false_iff_ne,ne_eq];omega
 unfold Ins.v;rcases hop with hop | rfl | rfl | rfl | ⟨h1,h2,h3,h4,h5⟩
 ·have hr:lK ⟨op,a,b,c⟩=(inB a 2&&inB b 2&&c==0):=by unfold lK;rw [if_pos hop]
  generalize ha:inB a 2=pa at *;generalize hb:inB b 2=pb at *;have HR:=Lib.hid hr;clear hr;have HA:=Lib.hid ha;clear ha;have HB:=Lib.hid hb;clear hb;rcases hop with rfl | rfl
  all_goals
   go_enter Tryz.func93,Tryz.ntmps93
   go_wp2_with fail
   go_region
   go_wp2_with (first
    | (go_at_call_of 92 (Value.int .i64 a);refine (fw a 0 2 _ HA.out _).mono ?_;rintro e w1 ⟨rfl,rfl⟩)
    | (go_at_call_of 92 (Value.int .i64 b);refine (fw b 0 2 _ HB.out _).mono ?_;rintro e w1 ⟨rfl,rfl⟩)
    | (go_at_call 92;refine (fw _ _ _ true (by decide) _).mono ?_;rintro e w1 ⟨rfl,rfl⟩))
   all_goals (first | (go_ret;exact ⟨aZ (by rw [HR.out];simp_all),(((Below.refl _ _).alloc (Nat.le_refl _) _).alloc (by simp) _).drew⟩) | (go_ret;exact ⟨aZ (by rw [HR.out];simp_all),(((Below.refl _ _).alloc (Nat.le_refl _) _).alloc (by simp) _)⟩))
 ·have hr:lK ⟨2,a,b,c⟩=(inB a 2&&b==0&&inB c 3):=rfl;generalize ha:inB a 2=pa at *;generalize hc:inB c 3=pc at *;have HR:=Lib.hid hr;clear hr;have HA:=Lib.hid ha;clear ha;have HC:=Lib.hid hc;clear hc
  go_enter Tryz.func93,Tryz.ntmps93
  go_wp2_with fail
  go_region
  go_wp2_with (first
   | (go_at_call_of 92 (Value.int .i64 a);refine (fw a 0 2 _ HA.out _).mono ?_;rintro e w1 ⟨rfl,rfl⟩)
   | (go_at_call_of 92 (Value.int .i64 c);refine (fw c 0 3 _ HC.out _).mono ?_;rintro e w1 ⟨rfl,rfl⟩)
   | (go_at_call 92;refine (fw _ _ _ true (by decide) _).mono ?_;rintro e w1 ⟨rfl,rfl⟩))
  all_goals (first | (go_ret;exact ⟨aZ (by rw [HR.out];simp_all),(((Below.refl _ _).alloc (Nat.le_refl _) _).alloc (by simp) _).drew⟩) | (go_ret;exact ⟨aZ (by rw [HR.out];simp_all),(((Below.refl _ _).alloc (Nat.le_refl _) _).alloc (by simp) _)⟩))
 ·have hr:lK ⟨4,a,b,c⟩=(a==0&&b==0&&c==0):=rfl;have HR:=Lib.hid hr;clear hr
  go_enter Tryz.func93,Tryz.ntmps93
  go_wp2_with (first
   | (go_at_call 92;refine (fw _ _ _ true (by decide) _).mono ?_;rintro e w1 ⟨rfl,rfl⟩))
  all_goals (first | (go_ret;exact ⟨aZ (by rw [HR.out];simp_all),(((Below.refl _ _).alloc (Nat.le_refl _) _).alloc (by simp) _).drew⟩) | (go_ret;exact ⟨aZ (by rw [HR.out];simp_all),(((Below.refl _ _).alloc (Nat.le_refl _) _).alloc (by simp) _)⟩))
 ·have hr:lK ⟨5,a,b,c⟩=(inB a 2&&inB b 2&&inB c 3):=rfl;generalize ha:inB a 2=pa at *;generalize hb:inB b 2=pb at *;generalize hc:inB c 3=pc at *;have HR:=Lib.hid hr;clear hr;have HA:=Lib.hid ha;clear ha;have HB:=Lib.hid hb;clear hb;have HC:=Lib.hid hc;clear hc
  go_enter Tryz.func93,Tryz.ntmps93
  go_wp2_with (first
   | (go_at_call_of 92 (Value.int .i64 a);refine (fw a 0 2 _ HA.out _).mono ?_;rintro e w1 ⟨rfl,rfl⟩)
   | (go_at_call_of 92 (Value.int .i64 b);refine (fw b 0 2 _ HB.out _).mono ?_;rintro e w1 ⟨rfl,rfl⟩)
   | (go_at_call_of 92 (Value.int .i64 c);refine (fw c 0 3 _ HC.out _).mono ?_;rintro e w1 ⟨rfl,rfl⟩))
  all_goals (first | (go_ret;exact ⟨aZ (by rw [HR.out];simp_all),(((Below.refl _ _).alloc (Nat.le_refl _) _).alloc (by simp) _).drew⟩) | (go_ret;exact ⟨aZ (by rw [HR.out];simp_all),(((Below.refl _ _).alloc (Nat.le_refl _) _).alloc (by simp) _)⟩))
 ·have hr:lK ⟨op,a,b,c⟩=false:=by
   simp only [beq_eq_false_iff_ne,ne_eq] at h1 h2 h3 h4 h5;simp [lK,h1,h2,h3,h4,h5]
  have HR:=Lib.hid hr;clear hr
  go_enter Tryz.func93,Tryz.ntmps93
  go_wp2_with fail
  all_goals (go_ret;exact ⟨aZ (by rw [HR.out]),(((Below.refl _ _).alloc (Nat.le_refl _) _).alloc (by simp) _)⟩)
def rdO (o:Int):Bool:=o==1||o==5
def wrO (o:Int):Bool:=o==2||o==3||o==5
def rdB (x:Ins):Bool:=rdO x.op
def wrB (x:Ins):Bool:=wrO x.op
theorem FV (op a b c:Int) (w:World):Calls Tryz.prog 82 #[.agg #[.int .i64 op,.int .i64 a,.int .i64 b,.int .i64 c]] w fun e w'=>e = .returned (.bool (rdO op))/\Below w.heap.size w w':=by
 unfold rdO
 go_enter Tryz.func82,Tryz.ntmps82
 go_wp2_with fail
 all_goals (go_ret;exact ⟨aZ (by simp_all),(Below.refl _ _).alloc (Nat.le_refl _) _⟩)
theorem Di (op a b c:Int) (w:World):Calls Tryz.prog 148 #[.agg #[.int .i64 op,.int .i64 a,.int .i64 b,.int .i64 c]] w fun e w'=>e = .returned (.bool (rdO op))/\Below w.heap.size w w':=by
 unfold rdO
 go_enter Tryz.func148,Tryz.ntmps148
 go_wp2_with fail
 all_goals (go_ret;exact ⟨aZ (by simp_all),(Below.refl _ _).alloc (Nat.le_refl _) _⟩)
theorem EC (op a b c:Int) (w:World):Calls Tryz.prog 83 #[.agg #[.int .i64 op,.int .i64 a,.int .i64 b,.int .i64 c]] w fun e w'=>e = .returned (.bool (wrO op))/\Below w.heap.size w w':=by
 unfold wrO
 go_enter Tryz.func83,Tryz.ntmps83
 go_wp2_with fail
 all_goals (go_ret;exact ⟨aZ (by simp_all),(Below.refl _ _).alloc (Nat.le_refl _) _⟩)
theorem Ci (op a b c:Int) (w:World):Calls Tryz.prog 150 #[.agg #[.int .i64 op,.int .i64 a,.int .i64 b,.int .i64 c]] w fun e w'=>e = .returned (.bool (wrO op))/\Below w.heap.size w w':=by
 unfold wrO
 go_enter Tryz.func150,Tryz.ntmps150
 go_wp2_with fail
 all_goals (go_ret;exact ⟨aZ (by simp_all),(Below.refl _ _).alloc (Nat.le_refl _) _⟩)
def rW (f:Ins->Bool) (p:List (List Ins)):Nat:=(p.map (List.countP f)).sum
theorem fL (f:Ins->Bool) (p:List (List Ins)) (k:Nat) (h:k<p.length):rW f (p.take (k+1))=rW f (p.take k)+p[k].countP f:=by
 unfold rW;rw [rU _ _ h,List.map_append,List.sum_append];simp
theorem fA (f:Ins->Bool) (l:List Ins) (k:Nat) (h:k<l.length):(l.take (k+1)).countP f=(l.take k).countP f+if f l[k] then 1 else 0:=by
 rw [rU _ _ h,List.countP_append];simp [List.countP_cons]
theorem zw (f:Ins->Bool) (p:List (List Ins)):rW f p<=total p:=by
 unfold rW total
 induction p with
 | nil=>simp
 | cons r p ih=>
  simp only [List.map_cons,List.sum_cons];have := List.countP_le_length (p:=f) (l:=r);omega
theorem lq (f:Ins->Bool) (p:List (List Ins)) (k j:Nat) (h:k<p.length):rW f (p.take k)+(p[k].take j).countP f<=total p:=by
 have h1:=zw f (p.take k);have h2:=List.countP_le_length (p:=f) (l:=p[k].take j);have h3:=List.length_take_le' j p[k];have h4:=zu p k h;have h5:=Bn p (k+1);omega
def bX (loc:Int) (f:Ins->Bool) (x:Ins):Bool:=x.loc==loc&&f x
theorem FW {lo hi:Nat} {u:Value} {p:List (List Ins)} {w:World} {loc:Int} (hu:Ad Ins.cells 4 w lo hi u p) (ht:total p<=1048576) :
  Calls Tryz.prog 185 #[u,.int .i64 loc,.bool true] w fun e w'=>e = .returned (.int .i64 (rW (bX loc wrB) p))/\Below w.heap.size w w':=by
 obtain ⟨xs,hxs,hxl,hxr⟩:=hu;obtain ⟨A,ca,rfl,hca,hma,hA⟩:=hxs.vals;clear hxs;have HX:=Lib.hid hxl;clear hxl;have HXR:=Lib.hid hxr;clear hxr;have HAA:=Lib.hid hA;clear hA
 go_enter Tryz.func185,Tryz.ntmps185
 go_wp2_with fail
 go_loopw [7,8] (fun n i wr=>∃ k:Nat,k<=xs.length/\i = .int .i64 k/\n = .int .i64 (rW (bX loc wrB) (p.take k))/\Below w.heap.size w wr) (fun _ i _=>xs.length-(intOf i).toNat)
 case atStart=>exact ⟨0,Nat.zero_le _,rfl,rfl,Below.refl _ _⟩
 case round=>
  obtain ⟨k,hk,rfl,rfl,hb⟩:=hrel
  by_cases hlt:k<xs.length
  ·obtain ⟨ba,oa,rfl,_,_,hba,hA⟩:=HAA.out (by omega);have hp:k<p.length:=HX.out ▸ hlt;obtain ⟨Ak,ck,hk1,hk2,hk3,hrow⟩:=(HXR.out k hlt hp).inss;have HROW:=Lib.hid hrow;clear hrow;have ca0:=hA k hlt;rw [hk1] at ca0;have CA:=Lib.hid ca0;clear hA hk1 ca0;have i1:(0:Int)<=(k:Int):=by omega
   have i2:(k:Int)<(xs.length:Int):=by omega
   have HT:=Lib.hid (fL (bX loc wrB) p k hp);have HPL:=Lib.hid (fun j=>lq (bX loc wrB) p k j hp);obtain ⟨wo,rfl⟩:∃ wo:World,wo=wr:=⟨_,rfl⟩
   go_wp2_with fail
   go_loopw [7,9] (fun n i w2=>∃ j:Nat,j<=p[k].length/\i = .int .i64 j/\n = .int .i64 (rW (bX loc wrB) (p.take k)+(p[k].take j).countP (bX loc wrB):Nat)/\Below w.heap.size w w2) (fun _ i _=>p[k].length-(intOf i).toNat)
   case atStart=>exact ⟨0,Nat.zero_le _,rfl,by simp,hb⟩
   case round=>
    obtain ⟨j,hj,rfl,rfl,hb2⟩:=hrel;have c0:=(hb2.cell (p:=⟨ba,oa+k,none⟩) hba).trans CA.out;have hsm:rW (bX loc wrB) (p.take k)+(p[k].take j).countP (bX loc wrB)<=1048576:=Nat.le_trans (HPL.out j) ht
    by_cases hlj:j<p[k].length
    ·obtain ⟨bb,ob,rfl,_,_,hbb,hB⟩:=HROW.out (by omega);obtain ⟨d1,d2,d3,d4⟩:=(hB j hlj).below hb2 hbb;have HS:=Lib.hid (fA (bX loc wrB) p[k] j hlj);have j1:(0:Int)<=(j:Int):=by omega
     have j2:(j:Int)<(p[k].length:Int):=by omega
     clear hB
     go_wp2_with (go_at_call 150;refine (Ci _ _ _ _ _).mono ?_;rintro e w3 ⟨rfl,hq⟩)
     ·have ef:bX loc wrB p[k][j]=true:=by simp [bX,wrB, *]
      go_roundw
      case rel=>
       have h:=HS.out;rw [if_pos ef] at h;exact ⟨j+1,by omega,by go_num,congrArg (Value.int .i64) (by omega),(hb2.alloc hb2.size _).trans (hq.mono (by simp;have := hb2.size;omega))⟩
      case measure=>simp [intOf];omega
     ·have ef : ¬ bX loc wrB p[k][j]=true:=by simp [bX,wrB, *]
      go_roundw
      case rel=>
       have h:=HS.out;rw [if_neg ef] at h;exact ⟨j+1,by omega,by go_num,congrArg (Value.int .i64) (by omega),(hb2.alloc hb2.size _).trans (hq.mono (by simp;have := hb2.size;omega))⟩
      case measure=>simp [intOf];omega
     ·have ef : ¬ bX loc wrB p[k][j]=true:=by simp [bX, *]
      go_roundw
      case rel=>
       have h:=HS.out;rw [if_neg ef] at h;exact ⟨j+1,by omega,by go_num,congrArg (Value.int .i64) (by omega),hb2.alloc hb2.size _⟩
      case measure=>simp [intOf];omega
    ·have hjx:p[k].take j=p[k]:=List.take_of_length_le (by omega);have HJ:=Lib.hid hjx;clear hjx
     go_wp2_with fail
     go_roundw
     case rel=>exact ⟨k+1,by omega,by go_num,congrArg (Value.int .i64) (by rw [HJ.out,HT.out]),hb2⟩
     case measure=>simp [intOf];omega
  ·have hkx:p.take k=p:=List.take_of_length_le (by rw [<- HX.out];omega);have HK:=Lib.hid hkx;clear hkx
   go_wp2_with fail
   go_ret
   exact ⟨zt (by rw [HK.out]),hb⟩
theorem FX {lo hi:Nat} {u:Value} {p:List (List Ins)} {w:World} {loc:Int} (hu:Ad Ins.cells 4 w lo hi u p) (ht:total p<=1048576) :
  Calls Tryz.prog 185 #[u,.int .i64 loc,.bool false] w fun e w'=>e = .returned (.int .i64 (rW (bX loc rdB) p))/\Below w.heap.size w w':=by
 obtain ⟨xs,hxs,hxl,hxr⟩:=hu;obtain ⟨A,ca,rfl,hca,hma,hA⟩:=hxs.vals;clear hxs;have HX:=Lib.hid hxl;clear hxl;have HXR:=Lib.hid hxr;clear hxr;have HAA:=Lib.hid hA;clear hA
 go_enter Tryz.func185,Tryz.ntmps185
 go_wp2_with fail
 go_loopw [7,8] (fun n i wr=>∃ k:Nat,k<=xs.length/\i = .int .i64 k/\n = .int .i64 (rW (bX loc rdB) (p.take k))/\Below w.heap.size w wr) (fun _ i _=>xs.length-(intOf i).toNat)
 case atStart=>exact ⟨0,Nat.zero_le _,rfl,rfl,Below.refl _ _⟩
 case round=>
  obtain ⟨k,hk,rfl,rfl,hb⟩:=hrel
  by_cases hlt:k<xs.length
  ·obtain ⟨ba,oa,rfl,_,_,hba,hA⟩:=HAA.out (by omega);have hp:k<p.length:=HX.out ▸ hlt;obtain ⟨Ak,ck,hk1,hk2,hk3,hrow⟩:=(HXR.out k hlt hp).inss;have HROW:=Lib.hid hrow;clear hrow;have ca0:=hA k hlt;rw [hk1] at ca0;have CA:=Lib.hid ca0;clear hA hk1 ca0;have i1:(0:Int)<=(k:Int):=by omega
   have i2:(k:Int)<(xs.length:Int):=by omega
   have HT:=Lib.hid (fL (bX loc rdB) p k hp);have HPL:=Lib.hid (fun j=>lq (bX loc rdB) p k j hp);obtain ⟨wo,rfl⟩:∃ wo:World,wo=wr:=⟨_,rfl⟩
   go_wp2_with fail
   go_loopw [7,9] (fun n i w2=>∃ j:Nat,j<=p[k].length/\i = .int .i64 j/\n = .int .i64 (rW (bX loc rdB) (p.take k)+(p[k].take j).countP (bX loc rdB):Nat)/\Below w.heap.size w w2) (fun _ i _=>p[k].length-(intOf i).toNat)
   case atStart=>exact ⟨0,Nat.zero_le _,rfl,by simp,hb⟩
   case round=>
    obtain ⟨j,hj,rfl,rfl,hb2⟩:=hrel;have c0:=(hb2.cell (p:=⟨ba,oa+k,none⟩) hba).trans CA.out;have hsm:rW (bX loc rdB) (p.take k)+(p[k].take j).countP (bX loc rdB)<=1048576:=Nat.le_trans (HPL.out j) ht
    by_cases hlj:j<p[k].length
    ·obtain ⟨bb,ob,rfl,_,_,hbb,hB⟩:=HROW.out (by omega);obtain ⟨d1,d2,d3,d4⟩:=(hB j hlj).below hb2 hbb;have HS:=Lib.hid (fA (bX loc rdB) p[k] j hlj);have j1:(0:Int)<=(j:Int):=by omega
     have j2:(j:Int)<(p[k].length:Int):=by omega
     clear hB
     go_wp2_with (go_at_call 148;refine (Di _ _ _ _ _).mono ?_;rintro e w3 ⟨rfl,hq⟩)
     ·have ef:bX loc rdB p[k][j]=true:=by simp [bX,rdB, *]
      go_roundw
      case rel=>
       have h:=HS.out;rw [if_pos ef] at h;exact ⟨j+1,by omega,by go_num,congrArg (Value.int .i64) (by omega),(hb2.alloc hb2.size _).trans (hq.mono (by simp;have := hb2.size;omega))⟩
      case measure=>simp [intOf];omega
     ·have ef : ¬ bX loc rdB p[k][j]=true:=by simp [bX,rdB, *]
      go_roundw
      case rel=>
       have h:=HS.out;rw [if_neg ef] at h;exact ⟨j+1,by omega,by go_num,congrArg (Value.int .i64) (by omega),(hb2.alloc hb2.size _).trans (hq.mono (by simp;have := hb2.size;omega))⟩
      case measure=>simp [intOf];omega
     ·have ef : ¬ bX loc rdB p[k][j]=true:=by simp [bX, *]
      go_roundw
      case rel=>
       have h:=HS.out;rw [if_neg ef] at h;exact ⟨j+1,by omega,by go_num,congrArg (Value.int .i64) (by omega),hb2.alloc hb2.size _⟩
      case measure=>simp [intOf];omega
    ·have hjx:p[k].take j=p[k]:=List.take_of_length_le (by omega);have HJ:=Lib.hid hjx;clear hjx
     go_wp2_with fail
     go_roundw
     case rel=>exact ⟨k+1,by omega,by go_num,congrArg (Value.int .i64) (by rw [HJ.out,HT.out]),hb2⟩
     case measure=>simp [intOf];omega
  ·have hkx:p.take k=p:=List.take_of_length_le (by rw [<- HX.out];omega);have HK:=Lib.hid hkx;clear hkx
   go_wp2_with fail
   go_ret
   exact ⟨zt (by rw [HK.out]),hb⟩
def nV (n:Nat):Nat:=min n 3001
def fct:Nat->Nat
 | 0=>1
 | n+1=>fct n*(n+1)
def cw (p:List (List Ins)) (l:Int):Nat:=rW (bX l wrB) p
def cr (p:List (List Ins)) (l:Int):Nat:=rW (bX l rdB) p
def LS (p:List (List Ins)) (l:Nat):Nat:=(cw p l+1) ^ (cr p l)*fct (cw p l)
def pT (p:List (List Ins)):Nat->Nat
 | 0=>1
 | l+1=>pT p l*LS p l
def tT (p:List (List Ins)):Nat:=pT p 3
theorem Bp {a b:Nat} (n:Nat) (h:nV a=nV b) (hn:1<=n):nV (a*n)=nV (b*n):=by
 unfold nV at *
 by_cases ha:a<3001
 ·have : a=b:=by omega
  rw [this]
 ·have h1:a<=a*n:=Nat.le_mul_of_pos_right a hn;have h2:b<=b*n:=Nat.le_mul_of_pos_right b hn;omega
theorem DY {a b n:Nat} (h:nV a=nV b) (ha:3000<a) (hn:1<=n):nV a=nV (b*n):=by
 unfold nV at *;have h2:b<=b*n:=Nat.le_mul_of_pos_right b hn;omega
theorem FY {a i r:Nat} (h:i<=r):a ^ r=a ^ i*a ^ (r-i):=by rw [<- Nat.pow_add];congr 1;omega
theorem Cj (i:Nat):∀ d,∃ q,1<=q/\fct (i+d)=fct i*q
 | 0=>⟨1,Nat.le_refl _,by simp⟩
 | d+1=>by
  obtain ⟨q,hq,h⟩:=Cj i d;exact ⟨q*(i+d+1),Nat.mul_pos hq (by omega),by rw [<- Nat.add_assoc,fct,h,Nat.mul_assoc]⟩
theorem FZ {n a:Int} (h:n<=3000) (_:0<=n) (ha:a<=1048577) (ha0:0<=a):n*a<=3145731000:=by
 have : n*a<=3000*1048577:=Int.mul_le_mul h ha ha0 (by omega);omega
theorem F3 {n a:Nat} (h:n<=3000) (ha:a<=1048577):n*a<=4000000000:=by
 have : n*a<=3000*1048577:=Nat.mul_le_mul h ha;omega
set_option maxHeartbeats 1000000 in
theorem Dj {lo hi:Nat} {u:Value} {p:List (List Ins)} {w:World} (hu:Ad Ins.cells 4 w lo hi u p) (hhi:hi<=w.heap.size) (ht:total p<=1048576) :
  Calls Tryz.prog 123 #[u,.int .i64 3000] w fun e w'=>e = .returned (.int .i64 (nV (tT p)))/\Below w.heap.size w w':=by
 have HU:=Lib.hid hu;clear hu
 go_enter Tryz.func123,Tryz.ntmps123
 go_wp2_with fail
 go_loopw [5,6] (fun sn sl wr=>∃ (l n:Nat),l<=3/\sl = .int .i64 l/\sn = .int .i64 n/\n<=4000000000/\1<=n/\nV n=nV (pT p l)/\Below w.heap.size w wr) (fun _ sl _=>3-(intOf sl).toNat)
 case atStart=>exact ⟨0,1,by omega,rfl,rfl,by omega,by omega,rfl,Below.refl _ _⟩
 case round=>
  obtain ⟨l,n,hl,rfl,rfl,hn,hn1,hcap,hb⟩:=hrel;have HC:=Lib.hid hcap;clear hcap
  by_cases hl3:l<3
  ·have hle:(l:Int)<=2:=by omega
   have HW:=Lib.hid (show pT p (l+1)=pT p l*((cw p l+1) ^ (cr p l)*fct (cw p l)) from rfl);have hcw:=zw (bX (l:Int) wrB) p;have hcr:=zw (bX (l:Int) rdB) p;have CW:=Lib.hid (fun W hs=>FW (loc:=(l:Int)) (w:=W) (hs:Ad Ins.cells 4 W lo hi u p) ht);have CR:=Lib.hid (fun W hs=>FX (loc:=(l:Int)) (w:=W) (hs:Ad Ins.cells 4 W lo hi u p) ht);change cw p l<=total p at hcw;change cr p l<=total p at hcr;have CW2:Hid (∀ W,Ad Ins.cells 4 W lo hi u p->Calls Tryz.prog 185 #[u,.int .i64 (l:Int),.bool true] W fun e w'=>e = .returned (.int .i64 (cw p l))/\Below W.heap.size W w'):=CW.out;have CR2:Hid (∀ W,Ad Ins.cells 4 W lo hi u p->Calls Tryz.prog 185 #[u,.int .i64 (l:Int),.bool false] W fun e w'=>e = .returned (.int .i64 (cr p l))/\Below W.heap.size W w'):=CR.out;clear CW CR;generalize cw p l=a at *;generalize cr p l=r at *;obtain ⟨wo,rfl⟩:∃ wo:World,wo=wr:=⟨_,rfl⟩
   go_wp2_with fail
   refine (CW2.out _ (HU.out.below hb hhi)).mono ?_;rintro e w1 ⟨rfl,hq1⟩;have hb1:Below w.heap.size w w1:=hb.trans (hq1.mono hb.size);have ha1:(a:Int)<=1048576:=by omega
   go_wp2_with fail
   go_loopw [5,8] (fun sn si w2=>∃ (i n:Nat),i<=r/\si = .int .i64 i/\sn = .int .i64 n/\n<=4000000000/\1<=n/\nV n=nV (pT p l*(a+1) ^ i)/\Below w.heap.size w w2) (fun _ si _=>r-(intOf si).toNat)
   case atStart=>exact ⟨0,n,Nat.zero_le _,rfl,rfl,hn,hn1,by rw [HC.out];simp,hb1⟩
   case round=>
    obtain ⟨i,n,hi,rfl,rfl,hn,hn1,hcap,hb2⟩:=hrel;have HC1:=Lib.hid hcap;clear hcap
    by_cases hgo:i<r/\n<=3000
    ·obtain ⟨h1,h2⟩:=hgo;have h1':(i:Int)<(r:Int):=by omega
     have h2':(n:Int)<=3000:=by omega
     have hmul:n*(a+1)<=4000000000:=F3 h2 (by omega);have hmul1:1<=n*(a+1):=Nat.mul_pos hn1 (by omega);have hmulI:(n:Int)*((a:Int)+1)<=3145731000:=FZ h2' (by omega) (by omega) (by omega);have hmulI0:0<=(n:Int)*((a:Int)+1):=Int.mul_nonneg (by omega) (by omega);have HM:=Lib.hid hmul;clear hmul;have HM1:=Lib.hid hmul1;clear hmul1
     go_wp2_with (go_at_call 185;refine (CR2.out _ (HU.out.below hb2 hhi)).mono ?_;rintro e w3 ⟨rfl,hq3⟩)
     go_roundw
     case rel=>
      refine ⟨i+1,n*(a+1),by omega,by go_num,by push_cast;rfl,HM.out,HM1.out,?_,hb2.trans (hq3.mono hb2.size)⟩;rw [Nat.pow_succ,<- Nat.mul_assoc];exact Bp _ HC1.out (by omega)
     case measure=>simp [intOf];omega
    ·have hc2:nV n=nV (pT p l*(a+1) ^ r):=by
      by_cases h:i<r
      ·rw [FY hi,<- Nat.mul_assoc];exact DY HC1.out (by omega) (Nat.pow_pos (by omega))
      ·have : i=r:=by omega
       rw [<- this];exact HC1.out
     have HC2:=Lib.hid hc2;clear hc2;have hor:((i:Int)<(r:Int) /\ ¬ (n:Int)<=3000) \/ ¬ (i:Int)<(r:Int):=by omega
     clear hgo;rcases hor with ⟨h1,h2⟩ | h1
     all_goals
      obtain ⟨wi,rfl⟩:∃ wi:World,wi=wr:=⟨_,rfl⟩
      go_wp2_with (go_at_call 185;refine (CR2.out _ (HU.out.below hb2 hhi)).mono ?_;rintro e w3 ⟨rfl,hq3⟩)
      have hb3:Below w.heap.size w w3:=hb2.trans (hq3.mono hb2.size)
      go_loopw [5,9] (fun sn si w4=>∃ (i n:Nat),2<=i/\i<=max 2 (a+1)/\si = .int .i64 i/\sn = .int .i64 n/\n<=4000000000/\1<=n/\nV n=nV (pT p l*(a+1) ^ r*fct (i-1))/\Below w.heap.size w w4) (fun _ si _=>a+3-(intOf si).toNat)
      case atStart=>exact ⟨2,n,Nat.le_refl _,by omega,rfl,rfl,hn,hn1,by rw [HC2.out];simp [fct],hb3⟩
      case round=>
       obtain ⟨i,n,hi2,hi,rfl,rfl,hn,hn1,hcap,hb4⟩:=hrel;have HC3:=Lib.hid hcap;clear hcap
       by_cases hgo:i<=a/\n<=3000
       ·obtain ⟨h1,h2⟩:=hgo;have h1':(i:Int)<=(a:Int):=by omega
        have h2':(n:Int)<=3000:=by omega
        have hmul:n*i<=4000000000:=F3 h2 (by omega);have hmul1:1<=n*i:=Nat.mul_pos hn1 (by omega);have hmulI:(n:Int)*(i:Int)<=3145731000:=FZ h2' (by omega) (by omega) (by omega);have hmulI0:0<=(n:Int)*(i:Int):=Int.mul_nonneg (by omega) (by omega);have HM:=Lib.hid hmul;clear hmul;have HM1:=Lib.hid hmul1;clear hmul1
        go_wp2_with fail
        go_roundw
        case rel=>
         refine ⟨i+1,n*i,by omega,by omega,by go_num,by push_cast;rfl,HM.out,HM1.out,?_,hb4⟩;have : fct (i+1-1)=fct (i-1)*i:=by
          obtain ⟨q,rfl⟩:∃ q,i=q+1:=⟨i-1,by omega⟩
          rfl
         rw [this,<- Nat.mul_assoc];exact Bp _ HC3.out (by omega)
        case measure=>simp [intOf];omega
       ·have hc4:nV n=nV (pT p (l+1)):=by
         rw [HW.out,<- Nat.mul_assoc]
         by_cases h:i<=a
         ·obtain ⟨q,hq,hf⟩:=Cj (i-1) (a-(i-1));rw [show i-1+(a-(i-1))=a from by omega] at hf;rw [hf,<- Nat.mul_assoc];exact DY HC3.out (by omega) hq
         ·have : fct (i-1)=fct a:=by
           by_cases ha0:a=0
           ·have : i=2:=by omega
            subst this ha0
            rfl
           ·congr 1;omega
          rw [<- this];exact HC3.out
        have HC4:=Lib.hid hc4;clear hc4;have hor:((i:Int)<=(a:Int) /\ ¬ (n:Int)<=3000) \/ ¬ (i:Int)<=(a:Int):=by omega
        clear hgo;rcases hor with ⟨h1,h2⟩ | h1
        all_goals
         go_wp2_with fail
         go_roundw
         case rel=>exact ⟨l+1,n,by omega,by go_num,rfl,hn,hn1,HC4.out,hb4⟩
         case measure=>simp [intOf];omega
  ·have hl4:l=3:=by omega
   subst hl4
   by_cases hbig:n<=3000
   ·have hfin:n=nV (tT p):=by
     have := HC.out;unfold tT nV at *;omega
    have HF:=Lib.hid hfin;clear hfin;have hb' : ¬ (3000:Int)<(n:Int):=by omega
    go_wp2_with fail
    go_ret
    exact ⟨zt (by rw [<- HF.out]),hb⟩
   ·have hfin:3001=nV (tT p):=by
     have := HC.out;unfold tT nV at *;omega
    have HF:=Lib.hid hfin;clear hfin;have hb':(3000:Int)<(n:Int):=by omega
    go_wp2_with fail
    go_ret
    exact ⟨zt (by rw [<- HF.out];rfl),hb⟩
theorem AA (g a n:Nat) (t:TypeId) (w:World) (hB:Blk w g t #[.int .i64 a]) (ha:a<=3001) (hn:n<=1048577) :
  Calls Tryz.prog 153 #[.int .i64 n,.pointer (some ⟨g,0,none⟩)] w fun e w'=>e = .returned (.tuple #[])/\w.setCell ⟨g,0,none⟩ (.int .i64 (nV (a*n):Nat))=w':=by
 have h1:(a:Int)*(n:Int)<=4000000000:=by
  have : (a:Int)*n<=3001*1048577:=Int.mul_le_mul (by omega) (by omega) (by omega) (by omega);omega
 have h0:0<=(a:Int)*(n:Int):=Int.mul_nonneg (by omega) (by omega);have c:=hB.cell 0;have f:=hB.frozen 0;have hc:w.cell? ⟨g,0,none⟩=some (.int .i64 a):=c;clear c hB
 go_enter Tryz.func153,Tryz.ntmps153
 go_wp2_with fail
 ·have hv:((nV (a*n):Nat):Int)=3001:=by
   have : ((a*n:Nat):Int)=(a:Int)*(n:Int):=by push_cast;rfl
   unfold nV;omega
  go_end0
  exact ⟨rfl,by rw [hv]⟩
 ·have hv:((nV (a*n):Nat):Int)=(a:Int)*(n:Int):=by
   have : ((a*n:Nat):Int)=(a:Int)*(n:Int):=by push_cast;rfl
   unfold nV;omega
  go_end0
  exact ⟨rfl,by rw [hv]⟩
theorem F4 (n:Nat):nV n<=3001:=Nat.min_le_right _ _
theorem Cm (a n:Nat) (hn:1<=n):nV (nV a*n)=nV (a*n):=Bp n (by unfold nV;omega) hn
set_option maxHeartbeats 2000000 in
theorem F5 {lo hi:Nat} {u:Value} {p:List (List Ins)} {w:World} (hu:Ad Ins.cells 4 w lo hi u p) (ht:total p<=1048576) :
    Calls Tryz.prog 94 #[u] w fun e w'=>e = .returned (.int .i64 (nV (tT p)))/\Below w.heap.size w w':=by
  obtain ⟨xs,hxs,hxl,hxr⟩:=hu;obtain ⟨A,ca,rfl,hca,hma,hA⟩:=hxs.vals;clear hxs;have HX:=Lib.hid hxl;clear hxl;have HXR:=Lib.hid hxr;clear hxr;have HAA:=Lib.hid hA;clear hA
  go_enter Tryz.func94,Tryz.ntmps94
  go_wp2_with fail
  go_loopw [14] (fun sl wr=>∃ (l:Nat),l<=3/\sl = .int .i64 l/\Blk wr w.heap.size 3 #[.int .i64 (nV (pT p l):Nat)]/\Below w.heap.size w wr) (fun sl _=>3-(intOf sl).toNat)
  case atStart=>exact ⟨0,by omega,rfl,Blk.new _ _ _,(Below.refl _ _).alloc (Nat.le_refl _) _⟩
  case round=>
    obtain ⟨l,hl,rfl,hB,hb⟩:=hrel;have HB:=Lib.hid hB;clear hB;have hgl:=HB.out.lt
    by_cases hl3:l<3
    · have HW:=Lib.hid (show pT p (l+1)=pT p l*((cw p l+1) ^ (cr p l)*fct (cw p l)) from rfl);obtain ⟨wo,rfl⟩:∃ wo:World,wo=wr:=⟨_,rfl⟩;have hl3':(l:Int)<3:=by omega
      go_wp2_with fail
      go_loopw [6,7,19] (fun sr sw i w1=>∃ k:Nat,k<=xs.length/\i = .int .i64 k/\sr = .int .i64 (rW (bX l rdB) (p.take k))/\sw = .int .i64 (rW (bX l wrB) (p.take k))/\Below wo.heap.size wo w1) (fun _ _ i _=>xs.length-(intOf i).toNat)
      case atStart=>exact ⟨0,Nat.zero_le _,rfl,rfl,rfl,Below.refl _ _⟩
      case round=>
        obtain ⟨k,hk,rfl,rfl,rfl,hb1⟩:=hrel;have hbw:=hb.trans (hb1.mono hb.size)
        by_cases hlt:k<xs.length
        · obtain ⟨ba,oa,rfl,_,_,hba,hA⟩:=HAA.out (by omega);have hp:k<p.length:=HX.out ▸ hlt;obtain ⟨Ak,ck,hk1,hk2,hk3,hrow⟩:=(HXR.out k hlt hp).inss;have HROW:=Lib.hid hrow;clear hrow;have ca0:=(hbw.cell (p:=⟨ba,oa+k,none⟩) hba).trans (hA k hlt);rw [hk1] at ca0;clear hA hk1;have i1:(0:Int)<=(k:Int):=by omega
          have i2:(k:Int)<(xs.length:Int):=by omega
          have HTr:=Lib.hid (fL (bX l rdB) p k hp);have HTw:=Lib.hid (fL (bX l wrB) p k hp);have HPr:=Lib.hid (fun j=>lq (bX l rdB) p k j hp);have HPw:=Lib.hid (fun j=>lq (bX l wrB) p k j hp);obtain ⟨w1,rfl⟩:∃ w1:World,w1=wr:=⟨_,rfl⟩
          go_wp2_with fail
          go_loopw [6,7,25] (fun sr sw i w2=>∃ j:Nat,j<=p[k].length/\i = .int .i64 j/\sr = .int .i64 (rW (bX l rdB) (p.take k)+(p[k].take j).countP (bX l rdB):Nat)/\sw = .int .i64 (rW (bX l wrB) (p.take k)+(p[k].take j).countP (bX l wrB):Nat)/\Below w1.heap.size w1 w2) (fun _ _ i _=>p[k].length-(intOf i).toNat)
          case atStart=>exact ⟨0,Nat.zero_le _,rfl,by simp,by simp,Below.refl _ _⟩
          case round=>
            obtain ⟨j,hj,rfl,rfl,rfl,hb2⟩:=hrel;have hbw2:=hbw.trans (hb2.mono hbw.size);have hsm1:rW (bX l rdB) (p.take k)+(p[k].take j).countP (bX l rdB)<=1048576:=Nat.le_trans (HPr.out j) ht;have hsm2:rW (bX l wrB) (p.take k)+(p[k].take j).countP (bX l wrB)<=1048576:=Nat.le_trans (HPw.out j) ht
            by_cases hlj:j<p[k].length
            · obtain ⟨bb,ob,rfl,_,_,hbb,hBB⟩:=HROW.out (by omega);obtain ⟨d1,d2,d3,d4⟩:=(hBB j hlj).below hbw2 hbb;have HSr:=Lib.hid (fA (bX l rdB) p[k] j hlj);have HSw:=Lib.hid (fA (bX l wrB) p[k] j hlj);have j1:(0:Int)<=(j:Int):=by omega
              have j2:(j:Int)<(p[k].length:Int):=by omega
              clear hBB
              go_wp2_with (first
                | (go_at_call 82;refine (FV _ _ _ _ _).mono ?_;rintro e w3 ⟨rfl,hq⟩;have z0:=hq.cell (p:=⟨wr.heap.size,0,none⟩) (by simp);have z1:=hq.cell (p:=⟨wr.heap.size,1,none⟩) (by simp);have z2:=hq.cell (p:=⟨wr.heap.size,2,none⟩) (by simp);have z3:=hq.cell (p:=⟨wr.heap.size,3,none⟩) (by simp))
                | (go_at_call 83;refine (EC _ _ _ _ _).mono ?_;rintro e w4 ⟨rfl,hq2⟩))
              all_goals
                have hr:=HSr.out;have hw:=HSw.out
                first
                  | (have ef:bX (l:Int) rdB p[k][j]=true:=by simp [bX,rdB, *]
                     rw [if_pos ef] at hr)
                  | (have ef : ¬ bX (l:Int) rdB p[k][j]=true:=by simp [bX,rdB, *]
                     rw [if_neg ef] at hr)
                first
                  | (have ef:bX (l:Int) wrB p[k][j]=true:=by simp [bX,wrB, *]
                     rw [if_pos ef] at hw)
                  | (have ef : ¬ bX (l:Int) wrB p[k][j]=true:=by simp [bX,wrB, *]
                     rw [if_neg ef] at hw)
                go_roundw
                case rel=>
                  have hsz:=hb2.size;refine ⟨j+1,by omega,by go_num,congrArg (Value.int .i64) (by omega),congrArg (Value.int .i64) (by omega),?_⟩
                  first
                    | exact hb2.alloc hb2.size _
                    | exact ((hb2.alloc hb2.size _).trans (hq.mono (by simp;omega))).trans (hq2.mono (by have := hq.size;simp at this;omega))
                case measure=>simp [intOf];omega
            · have hjx:p[k].take j=p[k]:=List.take_of_length_le (by omega);have HJ:=Lib.hid hjx;clear hjx
              go_wp2_with fail
              go_roundw
              case rel=>exact ⟨k+1,by omega,by go_num,congrArg (Value.int .i64) (by rw [HJ.out,HTr.out]),congrArg (Value.int .i64) (by rw [HJ.out,HTw.out]),hb1.trans (hb2.mono hb1.size)⟩
              case measure=>simp [intOf];omega
        · have hkx:p.take k=p:=List.take_of_length_le (by rw [<- HX.out];omega);have B1:=HB.out.below hb1 hgl;have hcw:=zw (bX (l:Int) wrB) p;have hcr:=zw (bX (l:Int) rdB) p;have er:rW (bX (l:Int) rdB) (p.take k)=cr p l:=by rw [hkx];rfl
          have ew:rW (bX (l:Int) wrB) (p.take k)=cw p l:=by rw [hkx];rfl
          rw [er,ew];change cw p l<=total p at hcw;change cr p l<=total p at hcr;clear er ew hkx;generalize cw p l=a at *;generalize cr p l=r at *;have BB1:=Lib.hid B1;clear B1;have ha1:(a:Int)<=1048576:=by omega
          have hr1:(r:Int)<=1048576:=by omega
          go_wp2_with fail
          go_loopw [52] (fun si w4=>∃ (i:Nat),i<=r/\si = .int .i64 i/\Blk w4 w.heap.size 3 #[.int .i64 (nV (pT p l*(a+1) ^ i):Nat)]/\Below w.heap.size w w4) (fun si _=>r-(intOf si).toNat)
          case atStart=>exact ⟨0,Nat.zero_le _,rfl,by simpa using BB1.out,hbw⟩
          case round=>
            obtain ⟨i,hi,rfl,hBi,hb4⟩:=hrel;have HBi:=Lib.hid hBi;clear hBi
            by_cases hir:i<r
            · have hir':(i:Int)<(r:Int):=by omega
              have hc3:nV (pT p l*(a+1) ^ i)<=3001:=F4 _;have hstep:nV (nV (pT p l*(a+1) ^ i)*(a+1))=nV (pT p l*(a+1) ^ (i+1)):=by rw [Cm _ _ (by omega),Nat.pow_succ,Nat.mul_assoc]
              have HST:=Lib.hid hstep;clear hstep;have hcast:((a+1:Nat):Int)=(a:Int)+1:=by push_cast;rfl
              have EX:=AA w.heap.size (nV (pT p l*(a+1) ^ i)) (a+1) 3 wr HBi.out hc3 (by omega);rw [hcast] at EX;have HEX:=Lib.hid EX;clear EX hcast hc3
              go_wp2_with (go_at_call 153;refine HEX.out.mono ?_;rintro e w5 ⟨rfl,rfl⟩)
              go_roundw
              case rel=>exact ⟨i+1,by omega,by go_num,by rw [<- HST.out];exact HBi.out.set_ 0 _,hb4.setCell (by simp) _⟩
              case measure=>simp [intOf];omega
            · have hix:i=r:=by omega
              subst hix
              go_wp2_with fail
              go_loopw [60] (fun si w4=>∃ (j:Nat),j<=a/\si = .int .i64 j/\Blk w4 w.heap.size 3 #[.int .i64 (nV (pT p l*(a+1) ^ i*fct j):Nat)]/\Below w.heap.size w w4) (fun si _=>a-(intOf si).toNat)
              case atStart=>exact ⟨0,Nat.zero_le _,rfl,by simpa [fct] using HBi.out,hb4⟩
              case round=>
                obtain ⟨j,hj,rfl,hBj,hb5⟩:=hrel;have HBj:=Lib.hid hBj;clear hBj
                by_cases hja:j<a
                · have hja':(j:Int)<(a:Int):=by omega
                  have hc3:nV (pT p l*(a+1) ^ i*fct j)<=3001:=F4 _;have hstep:nV (nV (pT p l*(a+1) ^ i*fct j)*(j+1))=nV (pT p l*(a+1) ^ i*fct (j+1)):=by rw [Cm _ _ (by omega),fct,<- Nat.mul_assoc]
                  have HST:=Lib.hid hstep;clear hstep;have hcast:((j+1:Nat):Int)=(j:Int)+1:=by push_cast;rfl
                  have EX:=AA w.heap.size (nV (pT p l*(a+1) ^ i*fct j)) (j+1) 3 wr HBj.out hc3 (by omega);rw [hcast] at EX;have HEX:=Lib.hid EX;clear EX hcast hc3
                  go_wp2_with (go_at_call 153;refine HEX.out.mono ?_;rintro e w5 ⟨rfl,rfl⟩)
                  go_roundw
                  case rel=>exact ⟨j+1,by omega,by go_num,by rw [<- HST.out];exact HBj.out.set_ 0 _,hb5.setCell (by simp) _⟩
                  case measure=>simp [intOf];omega
                · have hjx:j=a:=by omega
                  subst hjx
                  go_wp2_with fail
                  go_roundw
                  case rel=>exact ⟨l+1,by omega,by go_num,by rw [HW.out,<- Nat.mul_assoc];exact HBj.out,hb5⟩
                  case measure=>simp [intOf];omega
    · have hl4:l=3:=by omega
      subst hl4;have c0:=HB.out.cell 0;have c1:wr.cell? ⟨w.heap.size,0,none⟩=some (.int .i64 (nV (pT p 3):Nat)):=c0;clear c0
      go_wp2_with fail
      go_ret
      exact ⟨zt rfl,hb⟩
def uI (x:Ins):Bool:=x.op != 4
def rowOk (r:List Ins):Bool:=decide (r.length<=7)&&r.all lK
def ry (p:List (List Ins)):Bool:=decide (p.length<=3)&&p.all rowOk&&decide (rW uI p<=12)
def gy (p:List (List Ins)):Bool:=ry p&&decide (0<p.length)&&decide (tT p<=3000)
theorem xj {p:List (List Ins)} (k:Nat) (h:k<p.length) (hb:rowOk p[k]=false):ry p=false:=by
 have : p.all rowOk=false:=by
  rw [List.all_eq_false];exact ⟨p[k],List.getElem_mem h,by rw [hb];simp⟩
 simp [ry,this]
theorem AB {r:List Ins} (h:7<r.length):rowOk r=false:=by
 simp [rowOk];omega
theorem Cn {r:List Ins} (j:Nat) (h:j<r.length) (hb:lK r[j]=false):rowOk r=false:=by
 have : r.all lK=false:=by
  rw [List.all_eq_false];exact ⟨r[j],List.getElem_mem h,by rw [hb];simp⟩
 simp [rowOk,this]
theorem AC {r:List Ins} (h:r.length<=7) (hg:∀ j (h:j<r.length),lK r[j]=true):rowOk r=true:=by
 simp only [rowOk,bae,dte,List.all_eq_true];refine ⟨h,fun x hx=>?_⟩;obtain ⟨j,hj,rfl⟩:=List.getElem_of_mem hx;exact hg j hj
theorem zx {p:List (List Ins)} (h:p.length<=3) (hg:∀ j (h:j<p.length),rowOk p[j]=true):ry p=decide (rW uI p<=12):=by
 have : p.all rowOk=true:=by
  rw [List.all_eq_true];intro x hx;obtain ⟨j,hj,rfl⟩:=List.getElem_of_mem hx;exact hg j hj
 simp [ry,this,h]
set_option maxHeartbeats 1000000 in
theorem zy {lo hi:Nat} {u:Value} {p:List (List Ins)} {w:World} (hu:Ad Ins.cells 4 w lo hi u p) (ht:total p<=1048576) :
    Calls Tryz.prog 143 #[u] w fun e w'=>e = .returned (.bool (ry p))/\Below w.heap.size w w':=by
  obtain ⟨xs,hxs,hxl,hxr⟩:=hu;obtain ⟨A,ca,rfl,hca,hma,hA⟩:=hxs.vals;clear hxs;have HX:=Lib.hid hxl;clear hxl;have HXR:=Lib.hid hxr;clear hxr;have HAA:=Lib.hid hA;clear hA
  by_cases h3:xs.length<=3
  · have h3' : ¬ (3:Int)<(xs.length:Int):=by omega
    go_enter Tryz.func143,Tryz.ntmps143
    go_wp2_with fail
    go_loopw [3,4] (fun n i wr=>∃ k:Nat,k<=xs.length/\i = .int .i64 k/\n = .int .i64 (rW uI (p.take k))/\(∀ q (h:q<p.length),q<k->rowOk p[q]=true)/\Below w.heap.size w wr) (fun _ i _=>xs.length-(intOf i).toNat)
    case atStart=>exact ⟨0,Nat.zero_le _,rfl,rfl,fun q _ h=>absurd h (by omega),Below.refl _ _⟩
    case round=>
      obtain ⟨k,hk,rfl,rfl,hgood,hb⟩:=hrel;have HG:=Lib.hid hgood;clear hgood
      by_cases hlt:k<xs.length
      · obtain ⟨ba,oa,rfl,_,_,hba,hA⟩:=HAA.out (by omega);have hp:k<p.length:=HX.out ▸ hlt;obtain ⟨Ak,ck,hk1,hk2,hk3,hrow⟩:=(HXR.out k hlt hp).inss;have HROW:=Lib.hid hrow;clear hrow;have ca0:=hA k hlt;rw [hk1] at ca0;have CA:=Lib.hid ca0;have c00:=(hb.cell (p:=⟨ba,oa+k,none⟩) hba).trans ca0;clear hA hk1 ca0;have i1:(0:Int)<=(k:Int):=by omega
        have i2:(k:Int)<(xs.length:Int):=by omega
        have HT:=Lib.hid (fL uI p k hp);have HPL:=Lib.hid (fun j=>lq uI p k j hp);obtain ⟨wo,rfl⟩:∃ wo:World,wo=wr:=⟨_,rfl⟩
        by_cases h7:p[k].length<=7
        · have h7' : ¬ (7:Int)<(p[k].length:Int):=by omega
          go_wp2_with fail
          go_loopw [3,5] (fun n i w2=>∃ j:Nat,j<=p[k].length/\i = .int .i64 j/\n = .int .i64 (rW uI (p.take k)+(p[k].take j).countP uI:Nat)/\(∀ q (h:q<p[k].length),q<j->lK p[k][q]=true)/\Below w.heap.size w w2) (fun _ i _=>p[k].length-(intOf i).toNat)
          case atStart=>exact ⟨0,Nat.zero_le _,rfl,by simp,fun q _ h=>absurd h (by omega),hb⟩
          case round=>
            obtain ⟨j,hj,rfl,rfl,hgj,hb2⟩:=hrel;have HGJ:=Lib.hid hgj;clear hgj;have c0:=(hb2.cell (p:=⟨ba,oa+k,none⟩) hba).trans CA.out;have hsm:rW uI (p.take k)+(p[k].take j).countP uI<=1048576:=Nat.le_trans (HPL.out j) ht
            by_cases hlj:j<p[k].length
            · obtain ⟨bb,ob,rfl,_,_,hbb,hB⟩:=HROW.out (by omega);obtain ⟨d1,d2,d3,d4⟩:=(hB j hlj).below hb2 hbb;have HS:=Lib.hid (fA uI p[k] j hlj);have j1:(0:Int)<=(j:Int):=by omega
              have j2:(j:Int)<(p[k].length:Int):=by omega
              clear hB c00
              go_wp2_with fail
              refine (vp p[k][j] _).mono ?_;rintro e w3 ⟨rfl,hq⟩;have e0:=(hq.cell (p:=⟨ba,oa+k,none⟩) (Nat.lt_of_lt_of_le hba hb2.size)).trans c0;have e1:=(hq.cell (p:=⟨bb,ob+j*4,none⟩) (Nat.lt_of_lt_of_le hbb hb2.size)).trans d1;have hb3:=hb2.trans (hq.mono hb2.size)
              by_cases hok:lK p[k][j]=true
              · go_wp2_with fail
                all_goals
                  have h:=HS.out
                  first
                    | (have ef:uI p[k][j]=true:=by simpa [uI] using ‹(p[k][j].op != 4)=true›
                       rw [if_pos ef] at h)
                    | (have ef : ¬ uI p[k][j]=true:=by simpa [uI] using ‹(p[k][j].op != 4)=false›
                       rw [if_neg ef] at h)
                  go_roundw
                  case rel=>
                    refine ⟨j+1,by omega,by go_num,congrArg (Value.int .i64) (by omega),fun q hq hqj=>?_,hb3⟩
                    by_cases e:q=j
                    · subst e;exact hok
                    · exact HGJ.out q hq (by omega)
                  case measure=>simp [intOf];omega
              · have hok':lK p[k][j]=false:=by simpa using hok
                have hbad:=xj k hp (Cn j hlj hok');have HBAD:=Lib.hid hbad;clear hok hbad
                go_wp2_with fail
                go_ret
                exact ⟨aZ (by rw [HBAD.out]),hb3⟩
            · have hjx:p[k].take j=p[k]:=List.take_of_length_le (by omega);have HJ:=Lib.hid hjx;clear hjx;have hrk:rowOk p[k]=true:=AC h7 (fun q hq=>HGJ.out q hq (by omega));have HRK:=Lib.hid hrk;clear hrk
              go_wp2_with fail
              go_roundw
              case rel=>
                refine ⟨k+1,by omega,by go_num,congrArg (Value.int .i64) (by rw [HJ.out,HT.out]),fun q hq hqk=>?_,hb2⟩
                by_cases e:q=k
                · subst e;exact HRK.out
                · exact HG.out q hq (by omega)
              case measure=>simp [intOf];omega
        · have h7':(7:Int)<(p[k].length:Int):=by omega
          have HBAD:=Lib.hid (xj k hp (AB (by omega)));clear h7
          go_wp2_with fail
          go_ret
          exact ⟨aZ (by rw [HBAD.out]),hb⟩
      · have hkx:p.take k=p:=List.take_of_length_le (by rw [<- HX.out];omega);have hsh:=zx (p:=p) (by rw [<- HX.out];exact h3) (fun q hq=>HG.out q hq (by rw [<- HX.out] at hq;omega));have HK:=Lib.hid hkx;clear hkx;have HS:=Lib.hid hsh;clear hsh
        go_wp2_with fail
        go_ret
        exact ⟨aZ (by rw [HS.out,HK.out];exact decide_eq_decide.2 (by omega)),hb⟩
  · have h3':(3:Int)<(xs.length:Int):=by omega
    have hsh:ry p=false:=by
      have := HX.out;simp [ry];omega
    have HS:=Lib.hid hsh;clear h3 hsh
    go_enter Tryz.func143,Tryz.ntmps143
    go_wp2_with fail
    go_ret
    exact ⟨aZ (by rw [HS.out]),Below.refl _ _⟩
theorem zz (n:Nat):decide (((nV n:Nat):Int)<=3000)=decide (n<=3000):=by
 unfold nV;simp only [decide_eq_decide];omega
theorem tV {lo hi:Nat} {u:Value} {p:List (List Ins)} {w:World} (hu:Ad Ins.cells 4 w lo hi u p) (hhi:hi<=w.heap.size) (ht:total p<=1048576) :
  Calls Tryz.prog 72 #[u] w fun e w'=>e = .returned (.bool (gy p))/\Below w.heap.size w w':=by
 have HU:=Lib.hid hu;obtain ⟨xs,hxs,hxl,hxr⟩:=hu;obtain ⟨A,ca,rfl,hca,hma,hA⟩:=hxs.vals;clear hxs hxr hA;have HX:=Lib.hid hxl;clear hxl;have hv:gy p=(ry p&&decide (0<xs.length)&&decide (tT p<=3000)):=by rw [HX.out];rfl
 have HV:=Lib.hid hv;clear hv;have hc:=zz (tT p);have HCC:=Lib.hid hc;clear hc
 cases hs:ry p with
 | false=>
  have SH:=Lib.hid (zy (w:=w) HU.out ht);rw [hs] at SH;have HS:=Lib.hid hs;clear hs
  go_enter Tryz.func72,Tryz.ntmps72
  go_wp2_with (first | (go_at_call 143;refine SH.out.mono ?_;rintro e w1 ⟨rfl,hb⟩))
  go_ret
  exact ⟨aZ (by rw [HV.out,HS.out];rfl),hb⟩
 | true=>
  have SH:=Lib.hid (zy (w:=w) HU.out ht);rw [hs] at SH;have HS:=Lib.hid hs;clear hs
  by_cases h0:(0:Int)<(xs.length:Int)
  ·go_enter Tryz.func72,Tryz.ntmps72
   go_wp2_with (first | (go_at_call 143;refine SH.out.mono ?_;rintro e w1 ⟨rfl,hb⟩) | (go_at_call 123;refine (Dj (HU.out.below hb hhi) (Nat.le_trans hhi hb.size) ht).mono ?_;rintro e w2 ⟨rfl,hb2⟩))
   all_goals
    go_ret
    refine ⟨aZ ?_,hb.trans (hb2.mono hb.size)⟩;rw [HV.out,HS.out];have := HCC.out
    simp_all
  ·go_enter Tryz.func72,Tryz.ntmps72
   go_wp2_with (first | (go_at_call 143;refine SH.out.mono ?_;rintro e w1 ⟨rfl,hb⟩))
   go_ret
   refine ⟨aZ ?_,hb⟩;rw [HV.out,HS.out];simp;omega
theorem AJ {p:List (List Ins)} (k:Nat) (h:k<p.length) (hb:rowOk p[k]=false):gy p=false:=by
 simp [gy,xj k h hb]
set_option maxHeartbeats 1000000 in
theorem tX {lo hi:Nat} {u:Value} {p:List (List Ins)} {w:World} (hu:Ad Ins.cells 4 w lo hi u p) (hhi:hi<=w.heap.size) (ht:total p<=1048576) :
    Calls Tryz.prog 41 #[u] w fun e w'=>e = .returned (.bool (gy p))/\Below w.heap.size w w':=by
  have HU:=Lib.hid hu;obtain ⟨xs,hxs,hxl,hxr⟩:=hu;obtain ⟨A,ca,rfl,hca,hma,hA⟩:=hxs.vals;clear hxs;have HX:=Lib.hid hxl;clear hxl;have HXR:=Lib.hid hxr;clear hxr;have HAA:=Lib.hid hA;clear hA
  by_cases h3:1<=xs.length/\xs.length<=3
  · obtain ⟨h1,h3⟩:=h3
    go_enter Tryz.func41,Tryz.ntmps41
    go_wp2_with (go_at_call 92;refine (fw _ _ _ true (by simp;omega) _).mono ?_;rintro e w1 ⟨rfl,rfl⟩)
    go_loopw [3,14] (fun n i wr=>∃ k:Nat,k<=xs.length/\i = .int .i64 k/\n = .int .i64 (rW uI (p.take k))/\(∀ q (h:q<p.length),q<k->rowOk p[q]=true)/\Below w.heap.size w wr) (fun _ i _=>xs.length-(intOf i).toNat)
    case atStart=>exact ⟨0,Nat.zero_le _,rfl,rfl,fun q _ h=>absurd h (by omega),Below.refl _ _⟩
    case round=>
      obtain ⟨k,hk,rfl,rfl,hgood,hb⟩:=hrel;have HG:=Lib.hid hgood;clear hgood
      by_cases hlt:k<xs.length
      · obtain ⟨ba,oa,rfl,_,_,hba,hA⟩:=HAA.out (by omega);have hp:k<p.length:=HX.out ▸ hlt;obtain ⟨Ak,ck,hk1,hk2,hk3,hrow⟩:=(HXR.out k hlt hp).inss;have HROW:=Lib.hid hrow;clear hrow;have ca0:=hA k hlt;rw [hk1] at ca0;have c00:=(hb.cell (p:=⟨ba,oa+k,none⟩) hba).trans ca0;clear hA hk1 ca0;have i1:(0:Int)<=(k:Int):=by omega
        have i2:(k:Int)<(xs.length:Int):=by omega
        have HT:=Lib.hid (fL uI p k hp);have HPL:=Lib.hid (fun j=>lq uI p k j hp);obtain ⟨wo,rfl⟩:∃ wo:World,wo=wr:=⟨_,rfl⟩
        go_wp2_with fail
        clear c00
        go_loopw [3,20] (fun n i w2=>∃ j:Nat,j<=p[k].length/\i = .int .i64 j/\n = .int .i64 (rW uI (p.take k)+(p[k].take j).countP uI:Nat)/\(∀ q (h:q<p[k].length),q<j->lK p[k][q]=true)/\Below w.heap.size w w2) (fun _ i _=>p[k].length-(intOf i).toNat)
        case atStart=>exact ⟨0,Nat.zero_le _,rfl,by simp,fun q _ h=>absurd h (by omega),hb⟩
        case round=>
          obtain ⟨j,hj,rfl,rfl,hgj,hb2⟩:=hrel;have HGJ:=Lib.hid hgj;clear hgj;have hsm:rW uI (p.take k)+(p[k].take j).countP uI<=1048576:=Nat.le_trans (HPL.out j) ht
          by_cases hlj:j<p[k].length
          · obtain ⟨bb,ob,rfl,_,_,hbb,hB⟩:=HROW.out (by omega);obtain ⟨d1,d2,d3,d4⟩:=(hB j hlj).below hb2 hbb;have HS:=Lib.hid (fA uI p[k] j hlj);have j1:(0:Int)<=(j:Int):=by omega
            have j2:(j:Int)<(p[k].length:Int):=by omega
            clear hB
            go_wp2_with fail
            refine (vq p[k][j] _).mono ?_;rintro e w3 ⟨rfl,hq⟩;have z0:=hq.cell (p:=⟨wr.heap.size,0,none⟩) (by simp);have hb3:=(hb2.alloc hb2.size (.cells #[.int .i64 p[k][j].op,.int .i64 p[k][j].loc,.int .i64 p[k][j].reg,.int .i64 p[k][j].val] 97)).trans (hq.mono (by simp;have := hb2.size;omega))
            by_cases hok:lK p[k][j]=true
            · go_wp2_with fail
              all_goals
                have h:=HS.out
                first
                  | (have ef:uI p[k][j]=true:=by simpa [uI] using ‹(p[k][j].op != 4)=true›
                     rw [if_pos ef] at h)
                  | (have ef : ¬ uI p[k][j]=true:=by simpa [uI] using ‹(p[k][j].op != 4)=false›
                     rw [if_neg ef] at h)
                go_roundw
                case rel=>
                  refine ⟨j+1,by omega,by go_num,congrArg (Value.int .i64) (by omega),fun q hq hqj=>?_,hb3⟩
                  by_cases e:q=j
                  · subst e;exact hok
                  · exact HGJ.out q hq (by omega)
                case measure=>simp [intOf];omega
            · have hok':lK p[k][j]=false:=by simpa using hok
              have hbad:=AJ k hp (Cn j hlj hok');have HBAD:=Lib.hid hbad;clear hok hbad
              go_wp2_with fail
              go_ret
              exact ⟨aZ (by rw [HBAD.out]),hb3⟩
          · have hjx:p[k].take j=p[k]:=List.take_of_length_le (by omega);have HJ:=Lib.hid hjx;clear hjx
            by_cases h7:p[k].length<=7
            · have h7' : ¬ (7:Int)<(p[k].length:Int):=by omega
              have hrk:rowOk p[k]=true:=AC h7 (fun q hq=>HGJ.out q hq (by omega));have HRK:=Lib.hid hrk;clear hrk
              go_wp2_with fail
              go_roundw
              case rel=>
                refine ⟨k+1,by omega,by go_num,congrArg (Value.int .i64) (by rw [HJ.out,HT.out]),fun q hq hqk=>?_,hb2⟩
                by_cases e:q=k
                · subst e;exact HRK.out
                · exact HG.out q hq (by omega)
              case measure=>simp [intOf];omega
            · have h7':(7:Int)<(p[k].length:Int):=by omega
              have HBAD:=Lib.hid (AJ k hp (AB (by omega)));clear h7
              go_wp2_with fail
              go_ret
              exact ⟨aZ (by rw [HBAD.out]),hb2⟩
      · have hkx:p.take k=p:=List.take_of_length_le (by rw [<- HX.out];omega);have hsh:=zx (p:=p) (by rw [<- HX.out];exact h3) (fun q hq=>HG.out q hq (by rw [<- HX.out] at hq;omega));have hv:gy p=(decide (rW uI p<=12)&&decide (tT p<=3000)):=by
          have : 0<p.length:=by rw [<- HX.out];omega
          simp [gy,hsh,this]
        rw [hkx];have HV:=Lib.hid hv;clear hv hsh hkx;have HCC:=Lib.hid (zz (tT p))
        by_cases h12:rW uI p<=12
        · have h12':(rW uI p:Int)<=12:=by omega
          go_wp2_with (go_at_call 94;refine (F5 (HU.out.below hb hhi) ht).mono ?_;rintro e w2 ⟨rfl,hb2⟩)
          go_ret
          exact ⟨aZ (by rw [HV.out,decide_eq_true h12,Bool.true_and];exact HCC.out),hb.trans (hb2.mono hb.size)⟩
        · have h12' : ¬ (rW uI p:Int)<=12:=by omega
          have hf:gy p=false:=by rw [HV.out];simp [h12]
          have HF:=Lib.hid hf;clear hf h12
          go_wp2_with fail
          go_ret
          exact ⟨aZ (by rw [HF.out]),hb⟩
  · have hv:gy p=false:=by
      have := HX.out
      by_cases h:p.length<=3
      · have : p.length=0:=by omega
        simp [gy,this]
      · simp [gy,ry,h]
    have HV:=Lib.hid hv;clear hv;have HN:=Lib.hid h3;clear h3
    go_enter Tryz.func41,Tryz.ntmps41
    go_wp2_with (go_at_call 92;refine (fw _ _ _ false (by have := HN.out;simp;omega) _).mono ?_;rintro e w1 ⟨rfl,rfl⟩)
    go_ret
    exact ⟨aZ (by rw [HV.out]),Below.refl _ _⟩
def bI (p:List (List Mh)):Option Bool:=gd (decide (p.length<=1048576/\total p<=1048576)) (some (gy (p.map fun r=>r.map m5)))
def bg (p:List (List Mh)):Option Bool:=gd (decide (p.length<=1048576/\total p<=1048576)) (some (gy (p.map fun r=>r.map m5)))
open Go.RowKit
def Ik (l:LI):LI:=l.mergeSort fun x y=>decide (x<=y)
theorem pY (l:LI):(Ik l).Perm l:=List.mergeSort_perm l _
theorem Dk (l:LI):(Ik l).Pairwise (· <= ·):=
 (List.pairwise_mergeSort (le:=fun x y:Int=>decide (x<=y)) (fun a b c h1 h2=>by simp only [dte] at *;omega) (fun a b=>by simp only [Bool.or_eq_true,dte];omega) l).imp fun h=>of_decide_eq_true h
def oZ (l:LI):Option (LI):=gd (decide (l.length<4611686018427387904)) (some (Ik l))
theorem xk {l q:LI} (h:l=[]) (c:oZ l=some q):q=[]:=by
 subst h;obtain ⟨_,c⟩:=gdD c;rw [<- osl c];exact (pY []).eq_nil
theorem xm {l q:LI} (c:oZ l=some q):q.length=l.length:=by
 obtain ⟨_,c⟩:=gdD c;rw [<- osl c];exact (pY l).length_eq

end
end Go.Proofs.YtcmimhffgmckjaaGreatDoor
