/- Texts joined. No conditions. -/
import Derived.Below
import Derived.Laws.OwnMore
import Derived.Deep.Draws
import Derived.Laws.Rows
import Derived.Laws.MakeOwn
import Derived.Laws.Entries
import Derived.Lib.Hide
import Derived.RegionTactic
import Derived.Deep.RegionHeld3
import Derived.Deep.DrawnRows
import Derived.ProofKit
import Derived.Test.YtoagamanbofngaaGreatDoorc2
namespace Go.Proofs.YtoagamanbofngaaGreatDoor
noncomputable section
set_option linter.defProp false
open _root_.Inhabited renaming default -> aad
open _root_.Bool renaming true -> aae
open _root_.Bool renaming false -> aaf
open _root_.Option renaming some -> aag
open _root_.Option renaming none -> aah
open _root_.Decidable renaming decide -> aai
open _root_.Option renaming bind -> abS
open _root_.List renaming range -> abT,replicate -> abW,mem_singleton -> abX,getElem_mem -> abZ,mem_append_left -> ab0,mem_append -> ab1,mem_map -> ab2,map_append -> ab7,mem_range -> ab9,length_take -> aca,mem_cons_self -> acd,mem_append_right -> ace,length_singleton -> acf,append_assoc -> acg,filter_append -> ach,length_range -> aci,nil_append -> acj,take_length -> ack,take_append_drop -> acm,getElem_of_mem -> acn,pairwise_cons -> aco,take_add_one -> acp,idxOf_lt_length_of_mem -> acr,range_succ -> acs,take_of_length_le -> acu,sum_append -> acw,mem_cons -> acx,mem_cons_of_mem -> acy,range' -> acB,map_congr_left -> acC,countP_le_length -> acD,mergeSort_perm -> acE,pairwise_mergeSort -> acF,pairwise_append -> acH,take_append_getElem -> acI,length_filter_le -> acK,flatMap_append -> acL,eq_nil_of_length_eq_zero -> acM
open _root_.Nat renaming le_trans -> abU,le_refl -> abV,zero_le -> abY,lt_or_ge -> ab4,le_mul_of_pos_right -> ab5,mul_le_mul -> ab8,mul_pos -> acb,le_mul_of_pos_left -> acl,zero_add -> acv
open _root_.Int renaming le_refl -> ab3
open _root_.BitVec renaming ofInt -> ab6,ofInt_natCast -> acz,toNat_ofNat -> acA
open _root_.List.Nodup renaming length_le_of_subset -> acG
open _root_.List.IsPrefix renaming trans -> acJ
open Go.RowKit
def Blk(w:World)(g:Nat)(t:TypeId)(cs:Array Value):Prop:=w.heap[g]?=aag (.cells cs t (0,0))
section
variable{w w':World}{g:Nat}{t:TypeId}{cs:Array Value}
theorem Blk.lt(h:Blk w g t cs):g<w.heap.size:=by
 rcases ab4 g w.heap.size with hlt|hge
 .exact hlt
 unfold Blk at h;rw[Array.getElem?_eq_none hge] at h;cases h
theorem Blk.cell(h:Blk w g t cs)(i:Nat):w.cell? ⟨g,i,aah⟩=cs[i]?:=cell_of_row w g i cs t (0,0) h
theorem Blk.new(w:World)(t:TypeId)(cs:Array Value):Blk (w.alloc<|.cells cs t) w.heap.size t cs:=heap_alloc_new w _
theorem Blk.at_{n:Nat}(h:w.heap.size=n):Blk (w.alloc<|.cells cs t) n t cs:=h ▸ Blk.new _ _ _
theorem Blk.alloc(h:Blk w g t cs)(o:Obj):Blk (w.alloc o) g t cs:=(Below.heap_alloc w o g h.lt).trans h
theorem Blk.inj{t':TypeId}{cs':Array Value}(h:Blk w g t cs)(h':Blk w g t' cs'):t=t'/\cs=cs':=by
 unfold Blk at h h';rw[h] at h';injection h' with h';injection h' with h1 h2;exact⟨h2,h1⟩
end
structure Fr(lo hi:Nat)(w w':World):Prop where
 os:w'.os=w.os
 tape:w'.tape=w.tape
 output:w'.output=w.output
 size:w.heap.size<=w'.heap.size
 block:∀k,k<w.heap.size->(k<lo\/hi<=k)->w'.heap[k]?=w.heap[k]?
section
variable{a w w':World}{lo hi l h B:Nat}
theorem Fr.refl(lo hi:Nat)(w:World):Fr lo hi w w:=⟨rfl,rfl,rfl,abV _,λ_ _ _=>rfl⟩
theorem Fr.trans{b c:World}(h:Fr lo hi a b)(k:Fr lo hi b c):Fr lo hi a c:=
 ⟨k.os.trans h.os,k.tape.trans h.tape,k.output.trans h.output,abU h.size k.size,λi hi hn=>(k.block i (Nat.lt_of_lt_of_le hi h.size) hn).trans<|h.block i hi hn⟩
theorem Fr.mono(f:Fr lo hi w w')(h1:l<=lo)(h2:hi<=h):Fr l h w w':=
 ⟨f.os,f.tape,f.output,f.size,λk hk hn=>f.block k hk<|by omega⟩
theorem Fr.alloc(f:Fr lo hi a w)(o:Obj):Fr lo hi a (w.alloc o):=
 f.trans ⟨rfl,rfl,rfl,by simp,λk hk _=>Below.heap_alloc _ _ _ hk⟩
theorem Blk.fr{g:Nat}{t:TypeId}{cs:Array Value}(b:Blk w g t cs)(f:Fr lo hi w w')(hg:g<lo\/hi<=g):Blk w' g t cs:=(f.block g b.lt hg).trans b
theorem Fr.cell(f:Fr lo hi w w'){p:Addr}(hp:p.block<w.heap.size)(hn:p.block<lo\/hi<=p.block):w'.cell? p=w.cell? p:=World.cell?_of_block (w:=w)<|f.block p.block hp hn
end
section
variable{α:Type}(f:α->List Value)(s:Nat)
def Sl(w:World)(lo hi:Nat)(v:Value)(xs:List α):Prop:=
 ∃A c,v= .slice A xs.length c/\xs.length<=c/\c<=9223372036854775807/\(0<xs.length->∃b o,A=aag ⟨b,o,aah⟩/\lo<=b/\b<hi/\b<w.heap.size /\
  ∀(k:Nat)(h:k<xs.length)(j:Nat)(u:Value),(f xs[k])[j]?=aag u->w.cell? ⟨b,o+k*s+j,aah⟩=aag u)
def Ow(t:TypeId)(w:World)(lo hi:Nat)(v:Value)(xs:List α):Prop:=
 ∃A c,v= .slice A xs.length c/\xs.length<=c/\c<=9223372036854775807/\(0<xs.length->∃g cur,A=aag ⟨g,0,aah⟩/\lo<=g/\g<hi/\Blk w g t cur/\cur.size=c*s /\
  ∀(k:Nat)(h:k<xs.length)(j:Nat)(u:Value),(f xs[k])[j]?=aag u->cur[k*s+j]?=aag u)
end
section
variable{α:Type}{f:α->List Value}{s:Nat}{t:TypeId}{w w':World}{lo hi l h B:Nat}{v:Value}{xs:List α}
theorem Sl.nil_(c:Nat)(A:Option Addr)(hc:c<=9223372036854775807):Sl f s w lo hi (.slice A 0 c) []:=⟨A,c,rfl,by simp,hc,λh=>absurd h<|by simp⟩
theorem Ow.nil_(c:Nat)(A:Option Addr)(hc:c<=9223372036854775807):Ow f s t w lo hi (.slice A 0 c) []:=⟨A,c,rfl,by simp,hc,λh=>absurd h<|by simp⟩
theorem Sl.mono(x:Sl f s w lo hi v xs)(h1:l<=lo)(h2:hi<=h):Sl f s w l h v xs:=by
 obtain⟨A,c,e,hc,hm,r⟩:=x;refine⟨A,c,e,hc,hm,λhn=>?_⟩;obtain⟨b,o,e2,hb1,hb2,hb3,hx⟩:=r hn;exact⟨b,o,e2,by omega,by omega,hb3,hx⟩
theorem Ow.mono(x:Ow f s t w lo hi v xs)(h1:l<=lo)(h2:hi<=h):Ow f s t w l h v xs:=by
 obtain⟨A,c,e,hc,hm,r⟩:=x;refine⟨A,c,e,hc,hm,λhn=>?_⟩;obtain⟨b,o,e2,hb1,hb2,hx⟩:=r hn;exact⟨b,o,e2,by omega,by omega,hx⟩
theorem Sl.keep(x:Sl f s w lo hi v xs)(hs:w.heap.size<=w'.heap.size)(hk:∀k,k<w.heap.size->lo<=k->k<hi->w'.heap[k]?=w.heap[k]?):Sl f s w' lo hi v xs:=by
 obtain⟨A,c,e,hc,hm,r⟩:=x;refine⟨A,c,e,hc,hm,λhn=>?_⟩;obtain⟨b,o,e2,hb1,hb2,hb3,hx⟩:=r hn;refine⟨b,o,e2,hb1,hb2,by omega,λk hk' j u hu=>?_⟩;rw[World.cell?_of_block (hk b hb3 hb1 hb2)];exact hx k hk' j u hu
theorem Ow.keep(x:Ow f s t w lo hi v xs)(hk:∀k,k<w.heap.size->lo<=k->k<hi->w'.heap[k]?=w.heap[k]?):Ow f s t w' lo hi v xs:=by
 obtain⟨A,c,e,hc,hm,r⟩:=x;refine⟨A,c,e,hc,hm,λhn=>?_⟩;obtain⟨g,cur,e2,hb1,hb2,hb3,hx⟩:=r hn;exact⟨g,cur,e2,hb1,hb2,(hk g hb3.lt hb1 hb2).trans hb3,hx⟩
theorem Sl.fr(x:Sl f s w lo hi v xs)(b:Fr l h w w')(hB:hi<=l\/h<=lo):Sl f s w' lo hi v xs:=x.keep b.size λk hk h1 h2=>b.block k hk (by omega)
theorem Ow.fr(x:Ow f s t w lo hi v xs)(b:Fr l h w w')(hB:hi<=l\/h<=lo):Ow f s t w' lo hi v xs:=x.keep λk hk h1 h2=>b.block k hk (by omega)
theorem Ow.sl(x:Ow f s t w lo hi v xs):Sl f s w lo hi v xs:=by
 obtain⟨A,c,e,hc,hm,r⟩:=x;refine⟨A,c,e,hc,hm,λhn=>?_⟩;obtain⟨g,cur,e2,hb1,hb2,hb3,_,hx⟩:=r hn;refine⟨g,0,e2,hb1,hb2,hb3.lt,λk hk j u hu=>?_⟩;rw[acv,hb3.cell];exact hx k hk j u hu
end
def Ze(v:Value):List Value:=[v]
def Xf(n:Int):List Value:=[.int .i64 n]
def Ob(n:Int):List Value:=[.int .u8 n]
section
variable{α:Type}{g:α->Value}{f:α->List Value}{s:Nat}{w:World}{lo hi:Nat}{v:Value}
theorem Sl.one_{xs:List α}(hf:∀x,f x=[g x])(x:Sl f 1 w lo hi v xs):∃A c,v= .slice A xs.length c/\xs.length<=c/\c<=9223372036854775807/\(0<xs.length->∃b o,A=aag ⟨b,o,aah⟩/\lo<=b/\b<hi/\b<w.heap.size /\
  ∀(k:Nat)(h:k<xs.length),w.cell? ⟨b,o+k,aah⟩=aag (g xs[k])):=by
 obtain⟨A,c,e,hc,hm,r⟩:=x;refine⟨A,c,e,hc,hm,λhn=>?_⟩;obtain⟨b,o,e2,hb1,hb2,hb3,hx⟩:=r hn;refine⟨b,o,e2,hb1,hb2,hb3,λk hk=>?_⟩;have:=hx k hk 0 (g xs[k]) (by rw[hf];rfl);simpa using this
theorem Sl.ints{xs:LI}(x:Sl Xf 1 w lo hi v xs):∃A c,v= .slice A xs.length c/\xs.length<=c/\c<=9223372036854775807/\(0<xs.length->∃b o,A=aag ⟨b,o,aah⟩/\lo<=b/\b<hi/\b<w.heap.size /\
 ∀(k:Nat)(h:k<xs.length),w.cell? ⟨b,o+k,aah⟩=aag (.int .i64 xs[k])):=Sl.one_ (g:=λv=>.int .i64 v) (λ_=>rfl) x
end
structure Ins where
 op:Int
 loc:Int
 reg:Int
 val:Int
 deriving DecidableEq,Inhabited
def Ins.v(x:Ins):Value:=.agg #[.int .i64 x.op,.int .i64 x.loc,.int .i64 x.reg,.int .i64 x.val]
def Ins.cells(x:Ins):List Value:=[.int .i64 x.op,.int .i64 x.loc,.int .i64 x.reg,.int .i64 x.val]
def Xg(w:World)(b o:Nat)(x:Ins):Prop:=
 w.cell? ⟨b,o,aah⟩=aag (.int .i64 x.op)/\w.cell? ⟨b,o+1,aah⟩=aag (.int .i64 x.loc)/\w.cell? ⟨b,o+2,aah⟩=aag (.int .i64 x.reg)/\w.cell? ⟨b,o+3,aah⟩=aag (.int .i64 x.val)
def Qm(cs:Array Value)(o:Nat)(x:Ins):Prop:=cs[o]?=aag (.int .i64 x.op)/\cs[o+1]?=aag (.int .i64 x.loc)/\cs[o+2]?=aag (.int .i64 x.reg)/\cs[o+3]?=aag (.int .i64 x.val)
section
variable{w w':World}{b o p:Nat}{x y:Ins}{cs:Array Value}{t:TypeId}{g B lo hi:Nat}{v:Value}{xs:List Ins}
theorem Blk.ins(h:Blk w g t cs)(hi:Qm cs o x):Xg w g o x:=by
 unfold Xg;rw[h.cell,h.cell,h.cell,h.cell];exact hi
theorem Qm.cells{k:Nat}(h:Qm cs k x):∀(j:Nat)(u:Value),x.cells[j]?=aag u->cs[k+j]?=aag u:=by
 intro j u hu
 match j,hu with
 |0,hu=>simp[Ins.cells] at hu;subst hu;exact h.1
 |1,hu=>simp[Ins.cells] at hu;subst hu;exact h.2.1
 |2,hu=>simp[Ins.cells] at hu;subst hu;exact h.2.2.1
 |3,hu=>simp[Ins.cells] at hu;subst hu;exact h.2.2.2
 |n+4,hu=>simp[Ins.cells] at hu
end
section
variable{α:Type}(f:α->List Value)(s:Nat)
def SW(w:World)(lo hi:Nat)(v:Value)(p:List<|List α):Prop:=
 ∃vs:List Value,Sl Ze 1 w lo hi v vs/\vs.length=p.length/\∀(k:Nat)(h:k<vs.length)(h':k<p.length),Sl f s w lo hi vs[k] p[k]
def Qn(to ti:TypeId)(w:World)(lo hi:Nat)(v:Value)(p:List<|List α):Prop:=
 ∃vs:List Value,Ow Ze 1 to w lo hi v vs/\vs.length=p.length/\(∀(k:Nat)(h:k<vs.length)(h':k<p.length),Ow f s ti w lo hi vs[k] p[k]) /\
  ∀(i j:Nat)(hi:i<vs.length)(hj:j<vs.length)(hi':i<p.length)(hj':j<p.length),i≠j->0<p[i].length->0<p[j].length->vs[i].ownBlock≠vs[j].ownBlock
end
section
variable{α:Type}{f:α->List Value}{s:Nat}{to ti:TypeId}{w w':World}{lo hi l h B:Nat}{v:Value}{p:List (List α)}
theorem SW.keep(x:SW f s w lo hi v p)(hs:w.heap.size<=w'.heap.size)(hk:∀k,k<w.heap.size->lo<=k->k<hi->w'.heap[k]?=w.heap[k]?):SW f s w' lo hi v p:=by
 obtain⟨vs,h1,h2,h3⟩:=x;exact⟨vs,h1.keep hs hk,h2,λk a b=>(h3 k a b).keep hs hk⟩
theorem Qn.keep(x:Qn f s to ti w lo hi v p)(hk:∀k,k<w.heap.size->lo<=k->k<hi->w'.heap[k]?=w.heap[k]?):Qn f s to ti w' lo hi v p:=by
 obtain⟨vs,h1,h2,h3,h4⟩:=x;exact⟨vs,h1.keep hk,h2,λk a b=>(h3 k a b).keep hk,h4⟩
theorem SW.mono(x:SW f s w lo hi v p)(h1:l<=lo)(h2:hi<=h):SW f s w l h v p:=by
 obtain⟨vs,g1,g2,g3⟩:=x;exact⟨vs,g1.mono h1 h2,g2,λk a b=>(g3 k a b).mono h1 h2⟩
theorem Qn.mono(x:Qn f s to ti w lo hi v p)(h1:l<=lo)(h2:hi<=h):Qn f s to ti w l h v p:=by
 obtain⟨vs,g1,g2,g3,g4⟩:=x;exact⟨vs,g1.mono h1 h2,g2,λk a b=>(g3 k a b).mono h1 h2,g4⟩
theorem SW.fr(x:SW f s w lo hi v p)(b:Fr l h w w')(hB:hi<=l\/h<=lo):SW f s w' lo hi v p:=x.keep b.size λk hk h1 h2=>b.block k hk (by omega)
theorem Qn.fr(x:Qn f s to ti w lo hi v p)(b:Fr l h w w')(hB:hi<=l\/h<=lo):Qn f s to ti w' lo hi v p:=x.keep λk hk h1 h2=>b.block k hk (by omega)
theorem Qn.sl(x:Qn f s to ti w lo hi v p):SW f s w lo hi v p:=by
 obtain⟨vs,h1,h2,h3,_⟩:=x;exact⟨vs,h1.sl,h2,λk a b=>(h3 k a b).sl⟩
end
theorem w9{α:Type}(xs:List α)(k:Nat)(h:k<xs.length):xs.take (k+1)=xs.take k++[xs[k]]:=by
 rw[List.take_succ_eq_append_getElem h]
open Go.ChangeShapes Go.WideShapes Go.ChangeAt Go.RowKit
def total{α:Type}(p:List<|List α):Nat:=(p.map List.length).sum
theorem yR{α:Type}(p:List<|List α)(k:Nat)(h:k<p.length):total (p.take<|k+1)=total (p.take k)+p[k].length:=by
 unfold total;rw[w9 _ _ h,ab7,acw];simp
theorem BD{α:Type}(p:List<|List α)(k:Nat):total (p.take k)<=total p:=by
 unfold total
 conv=>rhs;rw[<- acm k p,ab7,acw]
 omega
theorem yS{α:Type}(p:List<|List α)(k:Nat)(h:k<p.length):p[k].length<=total p:=by
 have h1:=yR p k h;have h2:=BD p<|k+1;omega
theorem CP(b o j:Nat):(⟨b,o,aah⟩:Addr).add j=⟨b,o+j,aah⟩:=by
 unfold Addr.add
 by_cases h:j=0 <;> simp[h]
def cm(x:ZW):Ins:=⟨x.Op,x.Loc,x.Reg,x.Val⟩
theorem yT{α β:Type}(e:α->β)(p:List<|List α):total (p.map λr=>r.map e)=total p:=by
 unfold total;rw[List.map_map]
 congr 1
 exact acC λr _=>llm _
def Z0(x hi:Int):Bool:=aai (0<=x)&&aai (x<=hi)
def pQ(x:Ins):Bool:=
 if x.op=1\/x.op=3 then Z0 x.loc 2&&Z0 x.reg 2&&x.val==0
 else if x.op=2 then Z0 x.loc 2&&x.reg==0&&Z0 x.val 3
 else if x.op=4 then x.loc==0&&x.reg==0&&x.val==0
 else if x.op=5 then Z0 x.loc 2&&Z0 x.reg 2&&Z0 x.val 3
 else aaf
def rdO(o:Int):Bool:=o==1||o==5
def wrO(o:Int):Bool:=o==2||o==3||o==5
def rdB(x:Ins):Bool:=rdO x.op
def wrB(x:Ins):Bool:=wrO x.op
def Fs(f:Ins->Bool)(p:List<|List Ins):Nat:=(p.map<|List.countP f).sum
theorem Ak(f:Ins->Bool)(p:List<|List Ins)(k:Nat)(h:k<p.length):Fs f (p.take<|k+1)=Fs f (p.take k)+p[k].countP f:=by
 unfold Fs;rw[w9 _ _ h,ab7,acw];simp
theorem Ee(f:Ins->Bool)(l:List Ins)(k:Nat)(h:k<l.length):(l.take<|k+1).countP f=(l.take k).countP f+if f l[k] then 1 else 0:=by
 rw[w9 _ _ h,List.countP_append];simp[List.countP_cons]
theorem FV(f:Ins->Bool)(p:List<|List Ins):Fs f p<=total p:=by
 unfold Fs total
 induction p with
 |nil=>simp
 |cons r p ih=>
  simp only[List.map_cons,List.sum_cons];have:=acD (p:=f) (l:=r);omega
theorem JR(f:Ins->Bool)(p:List<|List Ins)(k j:Nat)(h:k<p.length):Fs f (p.take k)+(p[k].take j).countP f<=total p:=by
 have h1:=FV f<|p.take k;have h2:=acD (p:=f) (l:=p[k].take j);have h3:=List.length_take_le' j p[k];have h4:=yR p k h;have h5:=BD p<|k+1;omega
def jb(loc:Int)(f:Ins->Bool)(x:Ins):Bool:=x.loc==loc&&f x
def uj(n:Nat):Nat:=min n 3001
def fct:Nat->Nat
 |0=>1
 |n+1=>fct n*(n+1)
theorem Ld(n:Nat):1<=fct n:=by
 induction n with
 |zero=>exact abV _
 |succ n ih=>exact acb ih (by omega)
def cw(p:List<|List Ins)(l:Int):Nat:=Fs (jb l wrB) p
def cr(p:List<|List Ins)(l:Int):Nat:=Fs (jb l rdB) p
def Xh(p:List<|List Ins)(l:Nat):Nat:=(cw p l+1) ^ (cr p l)*fct (cw p l)
def pT(p:List<|List Ins):Nat->Nat
 |0=>1
 |l+1=>pT p l*Xh p l
def H4(p:List<|List Ins):Nat:=pT p 3
theorem IM{a b:Nat}(n:Nat)(h:uj a=uj b)(hn:1<=n):uj (a*n)=uj (b*n):=by
 unfold uj at *
 by_cases ha:a<3001
 .have : a=b:=by omega
  rw[this]
 have h1:a<=a*n:=ab5 a hn;have h2:b<=b*n:=ab5 b hn;omega
theorem MM{a b n:Nat}(h:uj a=uj b)(ha:3000<a)(hn:1<=n):uj a=uj (b*n):=by
 unfold uj at *;have h2:b<=b*n:=ab5 b hn;omega
theorem Qo{a i r:Nat}(h:i<=r):a ^ r=a ^ i*a ^ (r-i):=by rw[<- Nat.pow_add];congr 1;omega
theorem JS(i:Nat):∀d,∃q,1<=q/\fct (i+d)=fct i*q
 |0=>⟨1,abV _,by simp⟩
 |d+1=>by
  obtain⟨q,hq,h⟩:=JS i d;exact⟨q*(i+d+1),acb hq (by omega),by rw[<- Nat.add_assoc,fct,h,Nat.mul_assoc]⟩
theorem Qp{n a:Nat}(h:n<=3000)(ha:a<=1048577):n*a<=4000000000:=by
 have : n*a<=3000*1048577:=ab8 h ha;omega
theorem VA(n:Nat):uj n<=3001:=Nat.min_le_right _ _
theorem Qq(a n:Nat)(hn:1<=n):uj (uj a*n)=uj (a*n):=IM n (by unfold uj;omega) hn
def BF(x:Ins):Bool:=x.op != 4
def rowOk(r:List Ins):Bool:=aai (r.length<=7)&&r.all pQ
def uk(p:List<|List Ins):Bool:=aai (p.length<=3)&&p.all rowOk&&aai (Fs BF p<=12)
def bh(p:List<|List Ins):Bool:=uk p&&aai (0<p.length)&&aai (H4 p<=3000)
theorem CQ{p:List (List Ins)}(k:Nat)(h:k<p.length)(hb:rowOk p[k]=aaf):uk p=aaf:=by
 have : p.all rowOk=aaf:=by
  rw[List.all_eq_false];exact⟨p[k],abZ h,by rw[hb];simp⟩
 simp[uk,this]
theorem FW{p:List (List Ins)}(h:p.length<=3)(hg:∀j(h:j<p.length),rowOk p[j]=aae):uk p=aai (Fs BF p<=12):=by
 have : p.all rowOk=aae:=by
  rw[List.all_eq_true];intro x hx;obtain⟨j,hj,rfl⟩:=acn hx;exact hg j hj
 simp[uk,this,h]
theorem FX(n:Nat):aai (((uj n:Nat):Int)<=3000)=aai (n<=3000):=by
 unfold uj;simp only[decide_eq_decide];omega
def aZ(p:List<|List ZW):Option Bool:=gd (aai<|p.length<=1048576/\total p<=1048576)<|aag<|bh<|p.map λr=>r.map cm
def bI(p:List<|List ZW):Option Bool:=gd (aai<|p.length<=1048576/\total p<=1048576)<|aag<|bh<|p.map λr=>r.map cm
set_option maxRecDepth 100000
def cz(x:Int)(low:Int)(high:Int):Option Bool:=abS (bif aai (low<=x) then aag (aai<|x<=high) else aag aaf) λs1=>aag s1
def lV(x:ZW):Option Bool:=sumK (abS (bif (x.Op==(1:Int)) then aag (x.Op==(1:Int)) else aag (x.Op==(3:Int))) λs2=>bif s2 then aag (.inl (x.Loc,x.Reg,(0:Int))) else bif (x.Op==(2:Int)) then aag (.inl (x.Loc,(0:Int),x.Val)) else bif (x.Op==(4:Int)) then aag (.inl ((0:Int),(0:Int),(0:Int))) else bif (x.Op==(5:Int)) then aag (.inl (x.Loc,x.Reg,x.Val)) else aag (.inr aaf)) λs1=>abS (bif (x.Op==x.Op&&(x.Loc==s1.1&&(x.Reg==s1.2.1&&(x.Val==s1.2.2&&aae)))) then abS (cz x.Loc (0:Int) (2:Int)) λv10=>aag v10 else aag aaf) λs8=>abS (bif s8 then abS (cz x.Reg (0:Int) (2:Int)) λv13=>aag v13 else aag aaf) λs11=>abS (bif s11 then abS (cz x.Val (0:Int) (3:Int)) λv16=>aag v16 else aag aaf) λs14=>aag s14
def cT(x:ZW):Option Bool:=abS (bif (x.Op==(1:Int)) then aag aae else aag (x.Op==(5:Int))) λs1=>aag s1
def cF(x:ZW):Option Bool:=abS (bif (x.Op==(2:Int)) then aag aae else aag (x.Op==(3:Int))) λs1=>abS (bif s1 then aag aae else aag (x.Op==(5:Int))) λs3=>aag s3
def mG(n:Int)(a1:Int):Option Int:=gd (ZU .i64<|a1*n) <|aag (if (3001:Int)<(a1*n) then (3001:Int) else (a1*n))
def xJ(p:List<|List ZW)(s4:Int×Int)(s11:Int×Int×Int):LS (Int×Int×Int) (Int×Int):=λs18=>bif aai (s18.1<((J p s11.1).length:Int)) then abS (gd (aai<|0<=s18.1/\s18.1<((J p s11.1).length:Int)) <|abS (abS (bif (((J (J p s11.1) s18.1).Loc)==s4.2) then abS (cT (⟨(J (J p s11.1) s18.1).Op,(J (J p s11.1) s18.1).Loc,(J (J p s11.1) s18.1).Reg,(J (J p s11.1) s18.1).Val⟩:ZW)) λv26=>aag v26 else aag aaf) λs24=>bif s24 then gd (ZU .i64<|s18.2.2+(1:Int)) <|aag (s18.2.2+(1:Int)) else aag s18.2.2) λs23=>abS (bif (((J (J p s11.1) s18.1).Loc)==s4.2) then abS (cF (⟨(J (J p s11.1) s18.1).Op,(J (J p s11.1) s18.1).Loc,(J (J p s11.1) s18.1).Reg,(J (J p s11.1) s18.1).Val⟩:ZW)) λv31=>aag v31 else aag aaf) λs29=>bif s29 then gd (ZU .i64<|s18.2.1+(1:Int)) <|aag ((s18.2.1+(1:Int)),s23) else aag (s18.2.1,s23)) λs21=>gd (ZU .i64<|s18.1+(1:Int)) <|aag (.inl ((s18.1+(1:Int)),s21.1,s21.2)) else aag (.inr (s18.2.1,s18.2.2))
def xK(p:List<|List ZW)(s4:Int×Int):LS (Int×Int×Int) (Int×Int):=λs11=>bif aai (s11.1<(p.length:Int)) then abS (gd (aai<|0<=s11.1/\s11.1<(p.length:Int)) <|aA (xJ p s4 s11) ((0:Int),s11.2.1,s11.2.2)) λs14=>gd (ZU .i64<|s11.1+(1:Int)) <|aag (.inl ((s11.1+(1:Int)),s14.1,s14.2)) else aag (.inr (s11.2.1,s11.2.2))
def xL(s8:Int×Int):LS (Int×Int) Int:=λs39=>bif aai (s39.2<s8.2) then gd (ZU .i64<|s8.1+(1:Int)) <|abS (mG (s8.1+(1:Int)) s39.1) λv43=>gd (ZU .i64<|s39.2+(1:Int)) <|aag (.inl (v43,(s39.2+(1:Int)))) else aag (.inr s39.1)
def xO(s8:Int×Int):LS (Int×Int) Int:=λs47=>bif aai (s47.2<s8.1) then gd (ZU .i64<|s47.2+(1:Int)) <|abS (mG (s47.2+(1:Int)) s47.1) λv51=>aag (.inl (v51,(s47.2+(1:Int)))) else aag (.inr s47.1)
def yU(p:List<|List ZW):LS (Int×Int) Int:=λs4=>bif aai (s4.2<(3:Int)) then abS (abS (aA (xK p s4) ((0:Int),(0:Int),(0:Int))) λs8=>abS (aA (xL s8) (s4.1,(0:Int))) λs36=>aA (xO s8) (s36,(0:Int))) λs7=>gd (ZU .i64<|s4.2+(1:Int)) <|aag (.inl (s7,(s4.2+(1:Int)))) else aag (.inr s4.1)
def rD(p:List<|List ZW):Option Int:=abS (aA (yU p) ((1:Int),(0:Int))) λs1=>aag s1
def nS(p:List<|List ZW)(s6:Int×Int):LS (Int×Int) (Int ⊕ (Int ⊕ ((Int×Int) ⊕ (Int ⊕ Bool)))):=λs14=>bif aai (s14.1<((J p s6.1).length:Int)) then sumK (gd (aai<|0<=s14.1/\s14.1<((J p s6.1).length:Int)) <|abS (lV (⟨(J (J p s6.1) s14.1).Op,(J (J p s6.1) s14.1).Loc,(J (J p s6.1) s14.1).Reg,(J (J p s6.1) s14.1).Val⟩:ZW)) λv19=>bif !v19 then aag (.inr<|.inr<|.inr<|.inr<|.inr<|.inr aaf) else bif (((J (J p s6.1) s14.1).Op) != (4:Int)) then gd (ZU .i64<|s14.2+(1:Int)) <|aag (.inl<|s14.2+(1:Int)) else aag (.inl s14.2)) λs17=>gd (ZU .i64<|s14.1+(1:Int)) <|aag (.inl ((s14.1+(1:Int)),s17)) else aag (.inr<|.inl s14.2)
def n8(p:List<|List ZW):LS (Int×Int) (Int ⊕ Bool):=λs6=>bif aai (s6.1<(p.length:Int)) then sumK (gd (aai<|0<=s6.1/\s6.1<(p.length:Int)) <|sumK (aA (nS p s6) ((0:Int),s6.2)) λs11=>bif aai ((7:Int)<((J p s6.1).length:Int)) then aag (.inr<|.inr<|.inr aaf) else aag (.inl s11)) λs9=>gd (ZU .i64<|s6.1+(1:Int)) <|aag (.inl ((s6.1+(1:Int)),s9)) else aag (.inr<|.inl s6.2)
def fg(p:List<|List ZW):Option Bool:=abS (cz (p.length:Int) (1:Int) (3:Int)) λv1=>bif !v1 then aag aaf else sumK (aA (n8 p) ((0:Int),(0:Int))) λs3=>abS (bif aai (s3<=(12:Int)) then abS (rD p) λv28=>aag (aai<|v28<=(3000:Int)) else aag aaf) λs26=>aag s26
def eO(n:Int)(most:Int):Option Bool:=abS (bif aai ((0:Int)<=n) then aag (aai<|n<=most) else aag aaf) λs1=>aag s1
def iL(x:ZW):Option Bool:=abS (bif (x.Op==(1:Int)) then aag (x.Op==(1:Int)) else aag (x.Op==(3:Int))) λs1=>bif s1 then abS (eO x.Loc (2:Int)) λv4=>abS (bif v4 then abS (eO x.Reg (2:Int)) λv7=>aag v7 else aag aaf) λs5=>abS (bif s5 then aag (x.Val==(0:Int)) else aag aaf) λs8=>aag s8 else bif (x.Op==(2:Int)) then abS (eO x.Loc (2:Int)) λv11=>abS (bif v11 then aag (x.Reg==(0:Int)) else aag aaf) λs12=>abS (bif s12 then abS (eO x.Val (3:Int)) λv16=>aag v16 else aag aaf) λs14=>aag s14 else bif (x.Op==(4:Int)) then abS (bif (x.Loc==(0:Int)) then aag (x.Reg==(0:Int)) else aag aaf) λs18=>abS (bif s18 then aag (x.Val==(0:Int)) else aag aaf) λs20=>aag s20 else bif (x.Op==(5:Int)) then abS (eO x.Loc (2:Int)) λv23=>abS (bif v23 then abS (eO x.Reg (2:Int)) λv26=>aag v26 else aag aaf) λs24=>abS (bif s24 then abS (eO x.Val (3:Int)) λv29=>aag v29 else aag aaf) λs27=>aag s27 else aag aaf
def vq(p:List<|List ZW)(s5:Int×Int):LS (Int×Int) (Int ⊕ ((Int×Int) ⊕ (Int ⊕ Bool))):=λs13=>bif aai (s13.1<((J p s5.1).length:Int)) then sumK (gd (aai<|0<=s13.1/\s13.1<((J p s5.1).length:Int)) <|abS (iL<|J (J p s5.1) s13.1) λv18=>bif !v18 then aag (.inr<|.inr<|.inr<|.inr<|.inr aaf) else bif (((J (J p s5.1) s13.1).Op) != (4:Int)) then gd (ZU .i64<|s13.2+(1:Int)) <|aag (.inl<|s13.2+(1:Int)) else aag (.inl s13.2)) λs16=>gd (ZU .i64<|s13.1+(1:Int)) <|aag (.inl ((s13.1+(1:Int)),s16)) else aag (.inr<|.inl s13.2)
def wD(p:List<|List ZW):LS (Int×Int) (Int ⊕ Bool):=λs5=>bif aai (s5.1<(p.length:Int)) then sumK (gd (aai<|0<=s5.1/\s5.1<(p.length:Int)) <|bif aai ((7:Int)<((J p s5.1).length:Int)) then aag (.inr<|.inr<|.inr aaf) else aA (vq p s5) ((0:Int),s5.2)) λs8=>gd (ZU .i64<|s5.1+(1:Int)) <|aag (.inl ((s5.1+(1:Int)),s8)) else aag (.inr<|.inl s5.2)
def mH(p:List<|List ZW):Option Bool:=bif aai ((3:Int)<(p.length:Int)) then aag aaf else sumK (aA (wD p) ((0:Int),(0:Int))) λs2=>aag<|aai<|s2<=(12:Int)
def bF(x:ZW):Option Bool:=abS (bif (x.Op==(2:Int)) then aag aae else aag (x.Op==(3:Int))) λs1=>abS (bif s1 then aag aae else aag (x.Op==(5:Int))) λs3=>aag s3
def bN(x:ZW):Option Bool:=abS (bif (x.Op==(1:Int)) then aag aae else aag (x.Op==(5:Int))) λs1=>aag s1
def og(p:List<|List ZW)(loc:Int)(writes:Bool)(s4:Int×Int):LS (Int×Int) Int:=λs10=>gd (aai<|0<=s4.1/\s4.1<(p.length:Int)) <|bif aai (s10.1<((J p s4.1).length:Int)) then abS (gd (aai<|0<=s10.1/\s10.1<((J p s4.1).length:Int)) <|abS (bif (((J (J p s4.1) s10.1).Loc)==loc) then abS (bif writes then abS (bF (⟨(J (J p s4.1) s10.1).Op,(J (J p s4.1) s10.1).Loc,(J (J p s4.1) s10.1).Reg,(J (J p s4.1) s10.1).Val⟩:ZW)) λv20=>aag v20 else aag aaf) λs18=>abS (bif s18 then aag aae else abS (bif !writes then abS (bN (⟨(J (J p s4.1) s10.1).Op,(J (J p s4.1) s10.1).Loc,(J (J p s4.1) s10.1).Reg,(J (J p s4.1) s10.1).Val⟩:ZW)) λv25=>aag v25 else aag aaf) λs23=>aag s23) λs21=>aag s21 else aag aaf) λs16=>bif s16 then gd (ZU .i64<|s10.2+(1:Int)) <|aag (s10.2+(1:Int)) else aag s10.2) λs14=>gd (ZU .i64<|s10.1+(1:Int)) <|aag (.inl ((s10.1+(1:Int)),s14)) else aag (.inr s10.2)
def p6(p:List<|List ZW)(loc:Int)(writes:Bool):LS (Int×Int) Int:=λs4=>bif aai (s4.1<(p.length:Int)) then abS (aA (og p loc writes s4) ((0:Int),s4.2)) λs7=>gd (ZU .i64<|s4.1+(1:Int)) <|aag (.inl ((s4.1+(1:Int)),s7)) else aag (.inr s4.2)
def cO(p:List<|List ZW)(loc:Int)(writes:Bool):Option Int:=abS (aA (p6 p loc writes) ((0:Int),(0:Int))) λs1=>aag s1
def oh(p:List<|List ZW)(most:Int)(s4:Int×Int)(v8:Int):LS (Int×Int) Int:=λs12=>abS (cO p s4.1 aaf) λv14=>abS (bif aai (s12.1<v14) then aag (aai<|s12.2<=most) else aag aaf) λs15=>bif s15 then gd (ZU .i64<|v8+(1:Int)) <|gd (ZU .i64<|s12.2*(v8+(1:Int))) <|gd (ZU .i64<|s12.1+(1:Int)) <|aag (.inl ((s12.1+(1:Int)),(s12.2*(v8+(1:Int))))) else aag (.inr s12.2)
def ol(most:Int)(v8:Int):LS (Int×Int) Int:=λs23=>abS (bif aai (s23.1<=v8) then aag (aai<|s23.2<=most) else aag aaf) λs25=>bif s25 then gd (ZU .i64<|s23.2*s23.1) <|gd (ZU .i64<|s23.1+(1:Int)) <|aag (.inl ((s23.1+(1:Int)),(s23.2*s23.1))) else aag (.inr s23.2)
def p7(p:List<|List ZW)(most:Int):LS (Int×Int) Int:=λs4=>bif aai (s4.1<=(2:Int)) then abS (abS (cO p s4.1 aae) λv8=>abS (aA (oh p most s4 v8) ((0:Int),s4.2)) λs9=>aA (ol most v8) ((2:Int),s9)) λs7=>gd (ZU .i64<|s4.1+(1:Int)) <|aag (.inl ((s4.1+(1:Int)),s7)) else aag (.inr s4.2)
def fJ(p:List<|List ZW)(most:Int):Option Int:=abS (aA (p7 p most) ((0:Int),(1:Int))) λs1=>bif aai (most<s1) then gd (ZU .i64<|most+(1:Int)) <|aag (most+(1:Int)) else aag s1
def fo(p:List<|List ZW):Option Bool:=abS (mH p) λv1=>abS (bif v1 then aag (aai<|(0:Int)<(p.length:Int)) else aag aaf) λs2=>abS (bif s2 then abS (fJ p (3000:Int)) λv6=>aag (aai<|v6<=(3000:Int)) else aag aaf) λs4=>aag s4
def ul(l:LI)(i j:Int):Option (LI):=gd (aai<|0<=i/\i<=j/\j<=(l.length:Int)/\0<l.length)<|aag<|l.take i.toNat++l.drop j.toNat
def Tw(l:LI):LI:=l.mergeSort λx y=>aai<|x<=y
theorem um(l:LI):(Tw l).Perm l:=acE l _
theorem Lf(l:LI):(Tw l).Pairwise (· <=·):=
 (acF (le:=λx y:Int=>aai<|x<=y) (λa b c h1 h2=>by simp only[dte] at *;omega) (λa b=>by simp only[Bool.or_eq_true,dte];omega) l).imp λh=>of_decide_eq_true h
def sU(l:LI):Option (LI):=gd (aai<|l.length<4611686018427387904)<|aag<|Tw l
theorem CR{l q:LI}(h:l=[])(c:sU l=some q):q=[]:=by
 subst h;obtain⟨_,c⟩:=gdD c;rw[<- osl c];exact(um []).eq_nil
theorem CS{l q:LI}(c:sU l=some q):q.length=l.length:=by
 obtain⟨_,c⟩:=gdD c;rw[<- osl c];exact(um l).length_eq
def cmpL:LI->LI->Int
 |[],[]=>0
 |[],_::_=>-1
 |_::_,[]=>1
 |a::l,b::k=>if a<b then -1 else if b<a then 1 else cmpL l k
theorem uo:∀l,cmpL l l=0
 |[]=>rfl
 |a::l=>by rw[cmpL,if_neg (Int.lt_irrefl _),if_neg (Int.lt_irrefl _),uo l]
theorem zM:∀l k,cmpL k l=- cmpL l k
 |[],[]=>rfl
 |[],_::_=>rfl
 |_::_,[]=>rfl
 |a::l,b::k=>by
  rw[cmpL,cmpL]
  by_cases h:a<b
  .rw[if_pos h,if_pos h,if_neg (by omega)]
   rfl
  rw[if_neg h,if_neg h]
  by_cases h2:b<a
  .rw[if_pos h2,if_pos h2]
  rw[if_neg h2,if_neg h2,zM l k]
theorem cmpL_eq:∀{l k},cmpL l k=0->l=k
 |[],[],_=>rfl
 |[],_::_,h=>by cases h
 |_::_,[],h=>by cases h
 |a::l,b::k,h=>by
  rw[cmpL] at h
  split at h
  .cases h
  split at h
  .cases h
  rw[cmpL_eq h]
  congr 1
  omega
theorem tQ:∀{l k m},cmpL l k<0->cmpL k m<0->cmpL l m<0
 |[],[],_,h,_=>by cases h
 |[],_::_,[],_,h=>by simp[cmpL] at h
 |[],_::_,_::_,_,_=>by simp[cmpL]
 |_::_,[],_,h,_=>by simp[cmpL] at h
 |_::_,_::_,[],_,h=>by simp[cmpL] at h
 |a::l,b::k,c::m,h1,h2=>by
  rw[cmpL] at h1 h2 ⊢
  by_cases e1:a<b
  .by_cases e2:c<b
   .rw[if_neg (by omega),if_pos e2] at h2
    cases h2
   rw[if_pos (by omega)]
   decide
  rw[if_neg e1] at h1
  by_cases e2:b<a
  .rw[if_pos e2] at h1
   cases h1
  rw[if_neg e2] at h1;obtain rfl:a=b:=by omega
  by_cases e3:a<c
  .rw[if_pos e3]
   decide
  rw[if_neg e3] at h2 ⊢
  by_cases e4:c<a
  .rw[if_pos e4] at h2
   cases h2
  rw[if_neg e4] at h2 ⊢;exact tQ h1 h2
theorem xa(l k:LI):cmpL l k<0\/l=k\/cmpL k l<0:=by
 have:=zM l k;rcases Int.lt_trichotomy (cmpL l k) 0 with h|h|h
 .exact .inl h
 .exact .inr<|.inl<|cmpL_eq h
 exact .inr<|.inr (by omega)
def leL(x y:LI):Bool:=aai<|¬ cmpL y x<0
def JU(l:LL):LL:=l.mergeSort leL
theorem Qr(x y:LI):(leL x y||leL y x)=aae:=by
 unfold leL;rw[Bool.or_eq_true,dte,dte];rcases xa x y with h|h|h
 .left;have:=zM x y;omega
 .left;rw[h,uo];decide
 right;have:=zM x y;omega
theorem Qs(x y z:LI)(h1:leL x y=aae)(h2:leL y z=aae):leL x z=aae:=by
 unfold leL at *;rw[dte] at *;intro h;rcases xa x y with g|g|g
 .rcases xa y z with g2|g2|g2
  .exact h2<|tQ h g
  .rw[g2] at h1;exact h1 h
  exact h2 g2
 .rw[g] at h;exact h2 h
 exact h1 g
theorem MN(x y:LI)(h1:leL x y=aae)(h2:leL y x=aae):x=y:=by
 unfold leL at *;rw[dte] at *;rcases xa x y with h|h|h
 .exact absurd h h2
 .exact h
 exact absurd h h1
theorem uq(l:LL):(JU l).Perm l:=acE l leL
theorem FY(l:LL):(JU l).Pairwise λx y=>leL x y=aae:=acF Qs Qr l
theorem FZ:∀{l k:LL},l.Perm k->l.Pairwise (λx y=>leL x y=aae)->k.Pairwise (λx y=>leL x y=aae)->l=k
 |[],k,h,_,_=>h.nil_eq
 |a::l,[],h,_,_=>absurd h.length_eq (by simp)
 |a::l,b::k,h,h1,h2=>by
  have hab:a=b:=by
   rcases acx.1 (h.subset<|acd) with e|e
   .exact e
   rcases acx.1 (h.symm.subset<|acd) with e2|e2
   .exact e2.symm
   exact MN a b ((aco.1 h1).1 b e2)<|(aco.1 h2).1 a e
  subst hab;rw[FZ (List.perm_cons a |>.1 h) (aco.1 h1).2 (aco.1 h2).2]
def iM(l:LL):Option (LL):=gd (aai<|l.length<4611686018427387904)<|aag<|JU l
theorem yV{l q:LL}(h:l=[])(c:iM l=some q):q=[]:=by
 subst h;obtain⟨_,c⟩:=gdD c;rw[<- osl c];exact(uq []).eq_nil
theorem yX{l q:LL}(c:iM l=some q):q.length=l.length:=by
 obtain⟨_,c⟩:=gdD c;rw[<- osl c];exact(uq l).length_eq
def kY(x:Int):Option Bool:=Option.bind (cz x (0:Int) (3:Int)) λv1=>some<|!v1
def bV(s:LI):LS Int (Unit ⊕ Int):=λs4=>bif aai (s4<(s.length:Int)) then gd (aai<|0<=s4/\s4<(s.length:Int)) <|abS (kY<|J s s4) λv8=>bif v8 then aag (.inr<|.inr s4) else gd (ZU .i64<|s4+(1:Int)) <|aag (.inl<|s4+(1:Int)) else aag (.inr<|.inl ())
def bz(s:LI):Option Int:=sumK (aA (bV s) (0:Int)) λs1=>aag (-1:Int)
def bg(s:LI):Option Bool:=abS (bz s) λv1=>aag<|aai<|(0:Int)<=v1
def dE(p:List<|List ZW)(o_:LI):Option Bool:=abS (aZ p) λv1=>abS (bif v1 then gd (ZU .i64<|(3:Int)*(p.length:Int)) <|gd (ZU .i64<|((3:Int)*(p.length:Int))+(2:Int)) <|gd (ZU .i64<|(((3:Int)*(p.length:Int))+(2:Int))+(1:Int)) <|aag ((o_.length:Int)==((((3:Int)*(p.length:Int))+(2:Int))+(1:Int))) else aag aaf) λs2=>abS (bif s2 then abS (bg o_) λv9=>aag (!v9) else aag aaf) λs7=>aag s7
def om(op:Int):Option (Int×ByteArray×Int):=bif (op==(1:Int)) then aag ((0:Int),(⟨#[]⟩:BA),(0:Int)) else bif (op==(2:Int)) then aag ((3:Int),(⟨#[124]⟩:BA),(2:Int)) else bif (op==(3:Int)) then aag ((2:Int),(⟨#[38]⟩:BA),(2:Int)) else bif (op==(4:Int)) then aag ((2:Int),(⟨#[45]⟩:BA),(2:Int)) else bif (op==(5:Int)) then aag ((1:Int),(⟨#[59]⟩:BA),(2:Int)) else bif (op==(6:Int)) then aag ((0:Int),(⟨#[126]⟩:BA),(1:Int)) else bif (op==(7:Int)) then aag ((0:Int),(⟨#[43]⟩:BA),(1:Int)) else aag ((0:Int),(⟨#[]⟩:BA),(-1:Int))
def iN(s:List BA)(v:BA):LS Int (Unit ⊕ Int):=λs4=>bif aai (s4<(s.length:Int)) then gd (aai<|0<=s4/\s4<(s.length:Int)) <|bif aai (v=(J s s4)) then aag (.inr<|.inr s4) else gd (ZU .i64<|s4+(1:Int)) <|aag (.inl<|s4+(1:Int)) else aag (.inr<|.inl ())
def cJ(s:List BA)(v:BA):Option Int:=sumK (aA (iN s v) (0:Int)) λs1=>aag (-1:Int)
def dI(s:List BA)(v:BA):Option Bool:=abS (cJ s v) λv1=>aag<|aai<|(0:Int)<=v1
def gK(name:BA):Option Bool:=abS (dI Fq name) λv1=>aag v1
def vu(rcf:aa->Int->Option Int)(e_:aa)(most:Int):LS (Int×Int) Int:=λs13=>bif aai (s13.1<(e_.Kids.length:Int)) then gd (aai<|0<=s13.1/\s13.1<(e_.Kids.length:Int)) <|gd (ZU .i64<|most-(1:Int)) <|abS (rcf (⟨((J e_.Kids s13.1).out).Op,((J e_.Kids s13.1).out).Name,((J e_.Kids s13.1).out).Kids⟩:aa)<|most-(1:Int)) λv18=>gd (ZU .i64<|s13.2+v18) <|bif aai ((40:Int)<(s13.2+v18)) then aag (.inr<|s13.2+v18) else gd (ZU .i64<|s13.1+(1:Int)) <|aag (.inl ((s13.1+(1:Int)),(s13.2+v18))) else aag (.inr s13.2)
def m5(rcf:aa->Int->Option Int)(e_:aa)(most:Int):Option Int:=abS (om e_.Op) λv1=>sumK (abS (bif (most==(0:Int)) then aag aae else bif ((e_.Kids.length:Int) != v1.2.2) then aag aae else abS (gK e_.Name) λv6=>bif (!((e_.Op==(1:Int))==v6)) then aag aae else bif (e_.Op != (1:Int)) then aag (!decide (e_.Name=(⟨#[]⟩:BA))) else aag aaf) λs3=>bif s3 then aag (.inr (41:Int)) else aag (.inl ())) λs2=>abS (aA (vu rcf e_ most) ((0:Int),(1:Int))) λs10=>aag s10
def gL:Nat->aa->Int->Option Int
 |0=>λ_ _=>aah
 |n+1=>m5 (gL n)
def vQ(e_:aa)(most:Int):Option Int:=HT λnf=>gL nf e_ most
def jh(e_:aa):Option Bool:=abS (vQ e_ (12:Int)) λv1=>aag<|aai<|v1<=(40:Int)
def nB(r_:ah):Option Bool:=abS (cz r_.Kind (1:Int) (3:Int)) λv1=>abS (bif !v1 then aag aae else abS (jh r_.Expr) λv4=>aag<|!v4) λs2=>aag s2
def bC(s:List ah):LS Int (Unit ⊕ Int):=λs4=>bif aai (s4<(s.length:Int)) then gd (aai<|0<=s4/\s4<(s.length:Int)) <|abS (nB<|J s s4) λv8=>bif v8 then aag (.inr<|.inr s4) else gd (ZU .i64<|s4+(1:Int)) <|aag (.inl<|s4+(1:Int)) else aag (.inr<|.inl ())
def aQ(s:List ah):Option Int:=sumK (aA (bC s) (0:Int)) λs1=>aag (-1:Int)
def aL(s:List ah):Option Bool:=abS (aQ s) λv1=>aag<|aai<|(0:Int)<=v1
def dJ(m:List ah):Option Bool:=abS (cz (m.length:Int) (1:Int) (5:Int)) λv1=>abS (bif v1 then abS (aL m) λv4=>aag (!v4) else aag aaf) λs2=>aag s2
def xP:LS ((List ZY)×Int) (List ZY):=λs7=>bif aai (s7.2<(3:Int)) then gd (aR (s7.1.length+1) 32) <|gd (ZU .i64<|s7.2+(1:Int)) <|aag (.inl ((s7.1++[(⟨(-1:Int),s7.2,s7.2,aaf,aae⟩:ZY)]),(s7.2+(1:Int)))) else aag (.inr s7.1)
def wE(p:List<|List ZW)(s24:(List ZY)×Int):LS ((List ZY)×Int) (List ZY):=λs37=>bif aai (s37.2<((J p s24.2).length:Int)) then abS (gd (aai<|0<=s37.2/\s37.2<((J p s24.2).length:Int)) <|bif (((J (J p s24.2) s37.2).Op) != (4:Int)) then abS (cT (⟨(J (J p s24.2) s37.2).Op,(J (J p s24.2) s37.2).Loc,(J (J p s24.2) s37.2).Reg,(J (J p s24.2) s37.2).Val⟩:ZW)) λv46=>abS (cF (⟨(J (J p s24.2) s37.2).Op,(J (J p s24.2) s37.2).Loc,(J (J p s24.2) s37.2).Reg,(J (J p s24.2) s37.2).Val⟩:ZW)) λv47=>gd (aR (s37.1.length+1) 32) <|aag (s37.1++[(⟨s24.2,s37.2,(J (J p s24.2) s37.2).Loc,v46,v47⟩:ZY)]) else aag s37.1) λs43=>gd (ZU .i64<|s37.2+(1:Int)) <|aag (.inl (s43,(s37.2+(1:Int)))) else aag (.inr s37.1)
def wF(p:List<|List ZW):LS ((List ZY)×Int) (List ZY):=λs24=>bif aai (s24.2<(p.length:Int)) then abS (gd (aai<|0<=s24.2/\s24.2<(p.length:Int)) <|aA (wE p s24) (s24.1,(0:Int))) λs30=>gd (ZU .i64<|s24.2+(1:Int)) <|aag (.inl (s30,(s24.2+(1:Int)))) else aag (.inr s24.1)
def fD(p:List<|List ZW):Option (List ZY):=abS (aA xP (([]:List ZY),(0:Int))) λs1=>abS (aA (wF p) (s1,(0:Int))) λs18=>aag s18
def ut(list:List ZY)(loc:Int):LS ((LI)×Int) (LI):=λs7=>bif aai (s7.2<(list.length:Int)) then abS (gd (aai<|0<=s7.2/\s7.2<(list.length:Int)) <|abS (bif (J list s7.2).aP then aag (((J list s7.2).Loc)==loc) else aag aaf) λs15=>bif s15 then gd (aR (s7.1.length+1) 8) <|aag (s7.1++[s7.2]) else aag s7.1) λs13=>gd (ZU .i64<|s7.2+(1:Int)) <|aag (.inl (s13,(s7.2+(1:Int)))) else aag (.inr s7.1)
def dc(list:List ZY)(loc:Int):Option (LI):=abS (aA (ut list loc) (([]:LI),(0:Int))) λs1=>aag s1
def iO(k_:Int)(a1:Int):Option Bool:=aag<|k_==a1
def cA(s:LI)(f0:Int):LS Int (Unit ⊕ Int):=λs4=>bif aai (s4<(s.length:Int)) then gd (aai<|0<=s4/\s4<(s.length:Int)) <|abS (iO (J s s4) f0) λv8=>bif v8 then aag (.inr<|.inr s4) else gd (ZU .i64<|s4+(1:Int)) <|aag (.inl<|s4+(1:Int)) else aag (.inr<|.inl ())
def aX(s:LI)(f0:Int):Option Int:=sumK (aA (cA s f0) (0:Int)) λs1=>aag (-1:Int)
def bZ(del0:Int):LS ((LI)×Int×Int) ((LI)×Int):=λs10=>bif aai (s10.2.1<(s10.1.length:Int)) then abS (gd (aai<|0<=s10.2.1/\s10.2.1<(s10.1.length:Int)) <|abS (iO (J s10.1 s10.2.1) del0) λv18=>bif !v18 then gd (aai<|0<=s10.2.2/\s10.2.2<(s10.1.length:Int)) <|gd (ZU .i64<|s10.2.2+(1:Int)) <|aag ((s10.1.set s10.2.2.toNat<|J s10.1 s10.2.1),(s10.2.2+(1:Int))) else aag (s10.1,s10.2.2)) λs16=>gd (ZU .i64<|s10.2.1+(1:Int)) <|aag (.inl (s16.1,(s10.2.1+(1:Int)),s16.2)) else aag (.inr (s10.1,s10.2.2))
def aU(s:LI)(del0:Int):Option (LI):=abS (aX s del0) λv1=>bif (v1==(-1:Int)) then aag s else abS (gd (ZU .i64<|v1+(1:Int)) <|aA (bZ del0) (s,(v1+(1:Int)),v1)) λs3=>gd (aai<|(0:Int)<=(0:Int)/\(0:Int)<(s3.1.length:Int)) <|gd (aai<|0<=s3.2/\s3.2<=(s3.1.length:Int)/\(s3.1.length:Int)<=(s3.1.length:Int)) <|gd (aai<|0<=(0:Int)/\(0:Int)<=s3.2/\s3.2<=(s3.1.length:Int)) <|aag<|((cpy s3.1 (0+s3.2.toNat) (abW ((s3.1.length:Int).toNat-s3.2.toNat) (aad:Int))<|(s3.1.length:Int).toNat-s3.2.toNat).drop (0:Int).toNat).take<|s3.2.toNat-(0:Int).toNat
def aH(s:LI):Option (LI):=nilK (s.isEmpty) (aag ([]:LI)) (gd (aR (([]:LI).length+s.length) 8) <|aag<|([]:LI)++s)
def wG(writes:LI)(s8:(LL)×Int)(v25:(LL)):LS ((LL)×Int) (LL):=λs31=>bif aai (s31.2<(v25.length:Int)) then gd (aai<|0<=s31.2/\s31.2<(v25.length:Int)) <|gd (aR (([(J writes s8.2)]:LI).length+(J v25 s31.2).length) 8) <|gd (aR (s31.1.length+1) 24) <|gd (ZU .i64<|s31.2+(1:Int)) <|aag (.inl ((s31.1++[(([(J writes s8.2)]:LI)++(J v25 s31.2))]),(s31.2+(1:Int)))) else aag (.inr s31.1)
def rS(rcf:(LI)->Option (LL))(writes:LI):((LL)×Int)->Option (((LL)×Int) ⊕ (LL)):=λs8=>bif aai (s8.2<(writes.length:Int)) then abS (gd (aai<|0<=s8.2/\s8.2<(writes.length:Int)) <|abS (aH writes) λv16=>gd (ZU .i64<|s8.2+(1:Int)) <|abS (ul v16 s8.2<|s8.2+(1:Int)) λv21=>abS (rcf v21) λv25=>aA (wG writes s8 v25) (s8.1,(0:Int))) λs14=>gd (ZU .i64<|s8.2+(1:Int)) <|aag (.inl (s14,(s8.2+(1:Int)))) else aag (.inr s8.1)
def iP(rcf:(LI)->Option (LL))(writes:LI):Option (LL):=bif ((writes.length:Int)==(0:Int)) then aag ([([]:LI)]:LL) else abS (aA (rS rcf writes) (([]:LL),(0:Int))) λs2=>aag s2
def lc:Nat->(LI)->Option (LL)
 |0=>λ_=>aah
 |n+1=>iP (lc n)
def xb(writes:LI):Option (LL):=HT λnf=>lc nf writes
def kC(choices:LL)(s4:Int×(LL))(s15:(LL)×Int):LS ((LL)×Int) (LL):=λs28=>bif aai (s28.2<((J choices s4.1).length:Int)) then gd (aai<|0<=s28.2/\s28.2<((J choices s4.1).length:Int)) <|abS (aH<|J s4.2 s15.2) λv35=>gd (aR (v35.length+1) 8) <|gd (aR (s28.1.length+1) 24) <|gd (ZU .i64<|s28.2+(1:Int)) <|aag (.inl ((s28.1++[(v35++[(J (J choices s4.1) s28.2)])]),(s28.2+(1:Int)))) else aag (.inr s28.1)
def kD(choices:LL)(s4:Int×(LL)):LS ((LL)×Int) (LL):=λs15=>bif aai (s15.2<(s4.2.length:Int)) then abS (gd (aai<|0<=s15.2/\s15.2<(s4.2.length:Int)) <|aA (kC choices s4 s15) (s15.1,(0:Int))) λs21=>gd (ZU .i64<|s15.2+(1:Int)) <|aag (.inl (s21,(s15.2+(1:Int)))) else aag (.inr s15.1)
def rF(choices:LL):LS (Int×(LL)) (LL):=λs4=>bif aai (s4.1<(choices.length:Int)) then abS (gd (aai<|0<=s4.1/\s4.1<(choices.length:Int)) <|abS (aA (kD choices s4) (([]:LL),(0:Int))) λs9=>aag s9) λs7=>gd (ZU .i64<|s4.1+(1:Int)) <|aag (.inl ((s4.1+(1:Int)),s7)) else aag (.inr s4.2)
def gZ(choices:LL):Option (LL):=abS (aA (rF choices) ((0:Int),([([]:LI)]:LL))) λs1=>aag s1
def oq(s:LL):Option (LL):=nilK (s.isEmpty) (aag ([]:LL)) (gd (aR (([]:LL).length+s.length) 24) <|aag<|([]:LL)++s)
def nC(choices:List<|LL)(s4:Int×(List<|LL))(s15:(List<|LL)×Int):LS ((List<|LL)×Int) (List<|LL):=λs28=>bif aai (s28.2<((J choices s4.1).length:Int)) then gd (aai<|0<=s28.2/\s28.2<((J choices s4.1).length:Int)) <|abS (oq<|J s4.2 s15.2) λv35=>gd (aR (v35.length+1) 24) <|gd (aR (s28.1.length+1) 24) <|gd (ZU .i64<|s28.2+(1:Int)) <|aag (.inl ((s28.1++[(v35++[(J (J choices s4.1) s28.2)])]),(s28.2+(1:Int)))) else aag (.inr s28.1)
def nD(choices:List<|LL)(s4:Int×(List<|LL)):LS ((List<|LL)×Int) (List<|LL):=λs15=>bif aai (s15.2<(s4.2.length:Int)) then abS (gd (aai<|0<=s15.2/\s15.2<(s4.2.length:Int)) <|aA (nC choices s4 s15) (s15.1,(0:Int))) λs21=>gd (ZU .i64<|s15.2+(1:Int)) <|aag (.inl (s21,(s15.2+(1:Int)))) else aag (.inr s15.1)
def vw(choices:List<|LL):LS (Int×(List<|LL)) (List<|LL):=λs4=>bif aai (s4.1<(choices.length:Int)) then abS (gd (aai<|0<=s4.1/\s4.1<(choices.length:Int)) <|abS (aA (nD choices s4) (([]:List<|LL),(0:Int))) λs9=>aag s9) λs7=>gd (ZU .i64<|s4.1+(1:Int)) <|aag (.inl ((s4.1+(1:Int)),s7)) else aag (.inr s4.2)
def iQ(choices:List<|LL):Option (List<|LL):=abS (aA (vw choices) ((0:Int),([([]:LL)]:List<|LL))) λs1=>aag s1
def uw(x:ZX):LS ((LL)×Int) (LL):=λs7=>bif aai (s7.2<(x.Order.length:Int)) then gd (aai<|0<=s7.2/\s7.2<(x.Order.length:Int)) <|abS (aH<|J x.Order s7.2) λv12=>gd (aai<|0<=s7.2/\s7.2<(s7.1.length:Int)) <|gd (ZU .i64<|s7.2+(1:Int)) <|aag (.inl ((s7.1.set s7.2.toNat v12),(s7.2+(1:Int)))) else aag (.inr s7.1)
def gM(x:ZX):Option ZX:=abS (aH x.From) λv1=>gd (aai<|0<=(x.Order.length:Int)/\(x.Order.length:Int)<=(x.Order.length:Int)/\(x.Order.length:Int)*((24:Nat):Int)<=140737488355328/\(x.Order.length:Int)<=140737488355328) <|abS (aA (uw x) ((abW (x.Order.length:Int).toNat ([]:LI)),(0:Int))) λs3=>aag (⟨v1,s3⟩:ZX)
def ou(v1:(List ZY)):LS ((LL)×Int) (LL):=λs8=>bif aai (s8.2<(v1.length:Int)) then gd (aai<|0<=s8.2/\s8.2<(v1.length:Int)) <|abS (bif (⟨(J v1 s8.2).Thread,(J v1 s8.2).Index,(J v1 s8.2).Loc,(J v1 s8.2).Reads,(J v1 s8.2).aP⟩:ZY).Reads then abS (dc v1<|(⟨(J v1 s8.2).Thread,(J v1 s8.2).Index,(J v1 s8.2).Loc,(J v1 s8.2).Reads,(J v1 s8.2).aP⟩:ZY).Loc) λv17=>abS (aU v17 s8.2) λv21=>aag v21 else aag ([(-1:Int)]:LI)) λs15=>gd (aR (s8.1.length+1) 24) <|gd (ZU .i64<|s8.2+(1:Int)) <|aag (.inl ((s8.1++[s15]),(s8.2+(1:Int)))) else aag (.inr s8.1)
def nE(s36:(List<|LL)×Int)(v46:(LL)):LS ((LL)×Int) (LL):=λs52=>bif aai (s52.2<(v46.length:Int)) then gd (aai<|0<=s52.2/\s52.2<(v46.length:Int)) <|gd (aR (([s36.2]:LI).length+(J v46 s52.2).length) 8) <|gd (aR (s52.1.length+1) 24) <|gd (ZU .i64<|s52.2+(1:Int)) <|aag (.inl ((s52.1++[(([s36.2]:LI)++(J v46 s52.2))]),(s52.2+(1:Int)))) else aag (.inr s52.1)
def nG(v1:(List ZY)):LS ((List<|LL)×Int) (List<|LL):=λs36=>bif aai (s36.2<(3:Int)) then abS (abS (abS (dc v1 s36.2) λv44=>gd (aai<|0<=(1:Int)/\(1:Int)<=(v44.length:Int)/\(v44.length:Int)<=(v44.length:Int)) <|abS (xb<|(v44.drop (1:Int).toNat).take<|(v44.length:Int).toNat-(1:Int).toNat) λv46=>aA (nE s36 v46) (([]:LL),(0:Int))) λs43=>gd (aR (s36.1.length+1) 24) <|aag<|s36.1++[s43]) λs42=>gd (ZU .i64<|s36.2+(1:Int)) <|aag (.inl (s42,(s36.2+(1:Int)))) else aag (.inr s36.1)
def ji(v72:(LL))(s78:(List ZX)×Int)(v86:(List<|LL)):LS ((List ZX)×Int) (List ZX):=λs92=>bif aai (s92.2<(v86.length:Int)) then gd (aai<|0<=s92.2/\s92.2<(v86.length:Int)) <|abS (gM (⟨(J v72 s78.2),(J v86 s92.2)⟩:ZX)) λv99=>gd (aR (s92.1.length+1) 48) <|gd (ZU .i64<|s92.2+(1:Int)) <|aag (.inl ((s92.1++[v99]),(s92.2+(1:Int)))) else aag (.inr s92.1)
def jk(s30:(List<|LL))(v72:(LL)):LS ((List ZX)×Int) (List ZX):=λs78=>bif aai (s78.2<(v72.length:Int)) then abS (gd (aai<|0<=s78.2/\s78.2<(v72.length:Int)) <|abS (iQ s30) λv86=>aA (ji v72 s78 v86) (s78.1,(0:Int))) λs84=>gd (ZU .i64<|s78.2+(1:Int)) <|aag (.inl (s84,(s78.2+(1:Int)))) else aag (.inr s78.1)
def oz(p:List<|List ZW):Option (List ZX):=abS (fD p) λv1=>abS (aA (ou v1) (([]:LL),(0:Int))) λs2=>abS (aA (nG v1) (([]:List<|LL),(0:Int))) λs30=>abS (abS (gZ s2) λv72=>aA (jk s30 v72) (([]:List ZX),(0:Int))) λs71=>aag s71
def mI(v:aG)(t:Int)(index:Int)(reg:Int):LS (Int×Int) Int:=λs4=>bif aai (s4.1<(v.events.length:Int)) then abS (gd (aai<|0<=s4.1/\s4.1<(v.events.length:Int)) <|abS (bif (((J v.events s4.1).Thread)==t) then bif aai (((J v.events s4.1).Index)<index) then bif (J v.events s4.1).Reads then gd (aai<|0<=t/\t<(v.p.length:Int)) <|gd (aai<|0<=(J v.events s4.1).Index/\(J v.events s4.1).Index<((J v.p t).length:Int)) <|aag (((J (J v.p t)<|(J v.events s4.1).Index).Reg)==reg) else aag aaf else aag aaf else aag aaf) λs9=>bif s9 then aag s4.1 else aag s4.2) λs7=>gd (ZU .i64<|s4.1+(1:Int)) <|aag (.inl ((s4.1+(1:Int)),s7)) else aag (.inr s4.2)
def gu(v:aG)(t:Int)(index:Int)(reg:Int):Option (aG×Int):=abS (aA (mI v t index reg) ((0:Int),(-1:Int))) λs1=>aag ((⟨v.p,(⟨v.x.From,v.x.Order⟩:ZX),v.events,v.values,v.busy⟩:aG),s1)
def ia(rcf:aG->Int->Option (aG×Int×Bool))(v:aG)(i:Int):Option (aG×Int×Bool):=gd (aai<|0<=i/\i<(v.events.length:Int)) <|bif aai (((J v.events i).Thread)<(0:Int)) then aag ((⟨v.p,(⟨v.x.From,v.x.Order⟩:ZX),v.events,v.values,v.busy⟩:aG),(0:Int),aae) else gd (aai<|0<=(J v.events i).Thread/\(J v.events i).Thread<(v.p.length:Int)) <|gd (aai<|0<=(J v.events i).Index/\(J v.events i).Index<((J v.p<|(J v.events i).Thread).length:Int)) <|bif (((J (J v.p<|(J v.events i).Thread)<|(J v.events i).Index).Op) != (3:Int)) then aag ((⟨v.p,(⟨v.x.From,v.x.Order⟩:ZX),v.events,v.values,v.busy⟩:aG),(J (J v.p<|(J v.events i).Thread)<|(J v.events i).Index).Val,aae) else gd (aai<|0<=i/\i<(v.busy.length:Int)) <|bif (J v.busy i) then aag ((⟨v.p,(⟨v.x.From,v.x.Order⟩:ZX),v.events,v.values,v.busy⟩:aG),(0:Int),aaf) else abS (gu (⟨v.p,(⟨v.x.From,v.x.Order⟩:ZX),v.events,v.values,v.busy⟩:aG) ((J v.events i).Thread) ((J v.events i).Index)<|(J (J v.p<|(J v.events i).Thread)<|(J v.events i).Index).Reg) λv8=>bif aai (v8.2<(0:Int)) then aag ((⟨v8.1.p,(⟨v8.1.x.From,v8.1.x.Order⟩:ZX),v8.1.events,v.values,v8.1.busy⟩:aG),(0:Int),aae) else gd (aai<|0<=i/\i<(v8.1.busy.length:Int)) <|gd (aai<|0<=v8.2/\v8.2<(v8.1.x.From.length:Int)) <|abS (rcf (⟨v8.1.p,(⟨v8.1.x.From,v8.1.x.Order⟩:ZX),v8.1.events,v.values,(v8.1.busy.set i.toNat aae)⟩:aG)<|J v8.1.x.From v8.2) λv13=>gd (aai<|0<=i/\i<(v13.1.busy.length:Int)) <|aag ((⟨v13.1.p,(⟨v13.1.x.From,v13.1.x.Order⟩:ZX),v13.1.events,v.values,(v13.1.busy.set i.toNat aaf)⟩:aG),v13.2.1,v13.2.2)
def bS:Nat->aG->Int->Option (aG×Int×Bool)
 |0=>λ_ _=>aah
 |n+1=>ia (bS n)
def nH(v:aG)(i:Int):Option (aG×Int×Bool):=HT λnf=>bS nf v i
def uy(v1:(List ZY)):LS ((LI)×(List<|List ZW)×(LI)×(LL)×(List ZY)×(List Bool)×Int) (((LI)×(List<|List ZW)×(LI)×(LL)×(List ZY)×(List Bool)) ⊕ ((LI)×Bool)):=λs10=>bif aai (s10.2.2.2.2.2.2<(v1.length:Int)) then gd (aai<|0<=s10.2.2.2.2.2.2/\s10.2.2.2.2.2.2<(v1.length:Int)) <|sumK (bif (J v1 s10.2.2.2.2.2.2).aP then abS (nH (⟨s10.2.1,(⟨s10.2.2.1,s10.2.2.2.1⟩:ZX),s10.2.2.2.2.1,s10.1,s10.2.2.2.2.2.1⟩:aG) s10.2.2.2.2.2.2) λv20=>bif !v20.2.2 then aag (.inr<|.inr<|.inr (([]:LI),aaf)) else aag (.inl (v20.1.p,v20.1.x.From,v20.1.x.Order,v20.1.events,v20.1.busy,v20.2.1)) else aag (.inl (s10.2.1,s10.2.2.1,s10.2.2.2.1,s10.2.2.2.2.1,s10.2.2.2.2.2.1,(-1:Int)))) λs18=>gd (aR (s10.1.length+1) 8) <|gd (ZU .i64<|s10.2.2.2.2.2.2+(1:Int)) <|aag (.inl ((s10.1++[s18.2.2.2.2.2]),s18.1,s18.2.1,s18.2.2.1,s18.2.2.2.1,s18.2.2.2.2.1,(s10.2.2.2.2.2.2+(1:Int)))) else aag (.inr<|.inl (s10.1,s10.2.1,s10.2.2.1,s10.2.2.2.1,s10.2.2.2.2.1,s10.2.2.2.2.2.1))
def bT(p:List<|List ZW)(x:ZX):Option ((LI)×Bool):=abS (fD p) λv1=>gd (aai<|0<=(v1.length:Int)/\(v1.length:Int)<=(v1.length:Int)/\(v1.length:Int)*((1:Nat):Int)<=140737488355328/\(v1.length:Int)<=140737488355328) <|sumK (aA (uy v1) (([]:LI),p,x.From,x.Order,v1,(abW (v1.length:Int).toNat (aad:Bool)),(0:Int))) λs3=>aag (s3.1,aae)
def iA(s:LI)(v:Int):LS Int (Unit ⊕ Int):=λs4=>bif aai (s4<(s.length:Int)) then gd (aai<|0<=s4/\s4<(s.length:Int)) <|bif (v==(J s s4)) then aag (.inr<|.inr s4) else gd (ZU .i64<|s4+(1:Int)) <|aag (.inl<|s4+(1:Int)) else aag (.inr<|.inl ())
def bQ(s:LI)(v:Int):Option Int:=sumK (aA (iA s v) (0:Int)) λs1=>aag (-1:Int)
def da(x:ZX)(loc:Int)(i:Int)(k_:Int):Option Bool:=gd (aai<|0<=loc/\loc<(x.Order.length:Int)) <|abS (bQ (J x.Order loc) i) λv2=>abS (bQ (J x.Order loc) k_) λv3=>abS (bif aai ((0:Int)<=v2) then aag (aai<|(0:Int)<=v3) else aag aaf) λs4=>abS (bif s4 then aag (aai<|v2<v3) else aag aaf) λs6=>aag s6
def uz(y:ZW):Option Bool:=aag<|y.Op==(4:Int)
def bG(s:List ZW):LS Int (Unit ⊕ Int):=λs4=>bif aai (s4<(s.length:Int)) then gd (aai<|0<=s4/\s4<(s.length:Int)) <|abS (uz<|J s s4) λv8=>bif v8 then aag (.inr<|.inr s4) else gd (ZU .i64<|s4+(1:Int)) <|aag (.inl<|s4+(1:Int)) else aag (.inr<|.inl ())
def aT(s:List ZW):Option Int:=sumK (aA (bG s) (0:Int)) λs1=>aag (-1:Int)
def aB(s:List ZW):Option Bool:=abS (aT s) λv1=>aag<|aai<|(0:Int)<=v1
def dL(e_:ZY)(writes:Bool):Option Bool:=abS (bif (e_.aP==writes) then aag (!(e_.Reads==writes)) else aag aaf) λs1=>aag s1
def sV(p:List<|List ZW)(x:ZX)(list:List ZY)(name:BA)(i:Int)(k_:Int):Option Bool:=gd (aai<|0<=i/\i<(list.length:Int)) <|gd (aai<|0<=k_/\k_<(list.length:Int)) <|abS (bif aai ((0:Int)<=((J list i).Thread)) then aag (((J list i).Thread)==((J list k_).Thread)) else aag aaf) λs3=>abS (bif s3 then aag (aai<|((J list i).Index)<((J list k_).Index)) else aag aaf) λs5=>sumK (bif aai (name=(⟨#[112,111]⟩:BA)) then aag (.inr s5) else bif aai (name=(⟨#[108,111,99]⟩:BA)) then aag (.inr<|((J list i).Loc)==((J list k_).Loc)) else bif aai (name=(⟨#[101,120,116]⟩:BA)) then abS (bif (((J list i).Thread) != ((J list k_).Thread)) then aag aae else aag (aai<|((J list i).Thread)<(0:Int))) λs11=>aag (.inr s11) else bif aai (name=(⟨#[114,102]⟩:BA)) then gd (aai<|0<=k_/\k_<(x.From.length:Int)) <|aag (.inr<|(J x.From k_)==i) else bif aai (name=(⟨#[99,111]⟩:BA)) then abS (da x ((J list i).Loc) i k_) λv16=>aag (.inr v16) else bif aai (name=(⟨#[102,114]⟩:BA)) then abS (bif (J list i).Reads then bif (J list k_).aP then bif (i != k_) then gd (aai<|0<=i/\i<(x.From.length:Int)) <|abS (da x ((J list i).Loc) (J x.From i) k_) λv23=>aag v23 else aag aaf else aag aaf else aag aaf) λs18=>aag (.inr s18) else bif aai (name=(⟨#[102,101,110,99,101]⟩:BA)) then abS (bif s5 then gd (aai<|0<=(J list i).Thread/\(J list i).Thread<(p.length:Int)) <|gd (aai<|0<=(J list i).Index/\(J list i).Index<=(J list k_).Index/\(J list k_).Index<=((J p<|(J list i).Thread).length:Int)) <|abS (aB<|((J p<|(J list i).Thread).drop ((J list i).Index).toNat).take<|((J list k_).Index).toNat-((J list i).Index).toNat) λv29=>aag v29 else aag aaf) λs25=>aag (.inr s25) else bif aai (name=(⟨#[119,114]⟩:BA)) then abS (dL (⟨(J list i).Thread,(J list i).Index,(J list i).Loc,(J list i).Reads,(J list i).aP⟩:ZY) aae) λv31=>abS (bif v31 then abS (dL (⟨(J list k_).Thread,(J list k_).Index,(J list k_).Loc,(J list k_).Reads,(J list k_).aP⟩:ZY) aaf) λv34=>aag v34 else aag aaf) λs32=>aag (.inr s32) else bif aai (name=(⟨#[119,119]⟩:BA)) then abS (dL (⟨(J list i).Thread,(J list i).Index,(J list i).Loc,(J list i).Reads,(J list i).aP⟩:ZY) aae) λv36=>abS (bif v36 then abS (dL (⟨(J list k_).Thread,(J list k_).Index,(J list k_).Loc,(J list k_).Reads,(J list k_).aP⟩:ZY) aae) λv39=>aag v39 else aag aaf) λs37=>aag (.inr s37) else aag (.inl ())) λs7=>aag<|i==k_
def vR(i:Int)(k_:Int)(a2:List<|List ZW)(a3:ZX)(a4:List ZY)(a5:BA):Option Bool:=abS (sV a2 a3 a4 a5 i k_) λv1=>aag v1
def pR(n:Int)(is0:List<|List ZW)(is1:ZX)(is2:List ZY)(is3:BA)(s6:(LI)×Int):LS ((LI)×Int) (LI):=λs14=>bif aai (s14.2<n) then abS (abS (vR s6.2 s14.2 is0 is1 is2 is3) λv19=>bif v19 then gd (aai<|0<=s6.2/\s6.2<(s14.1.length:Int)) <|gd (aai<|0<=s14.2) <|aag (s14.1.set s6.2.toNat<|bOr .i64 (J s14.1 s6.2)<|ME .i64 (1:Int) s14.2) else aag s14.1) λs18=>gd (ZU .i64<|s14.2+(1:Int)) <|aag (.inl (s18,(s14.2+(1:Int)))) else aag (.inr s14.1)
def p8(n:Int)(is0:List<|List ZW)(is1:ZX)(is2:List ZY)(is3:BA):LS ((LI)×Int) (LI):=λs6=>bif aai (s6.2<n) then abS (aA (pR n is0 is1 is2 is3 s6) (s6.1,(0:Int))) λs10=>gd (ZU .i64<|s6.2+(1:Int)) <|aag (.inl (s10,(s6.2+(1:Int)))) else aag (.inr s6.1)
def fE(n:Int)(is0:List<|List ZW)(is1:ZX)(is2:List ZY)(is3:BA):Option (LI):=gd (aai<|0<=n/\n<=n/\n*((8:Nat):Int)<=140737488355328/\n<=140737488355328) <|abS (aA (p8 n is0 is1 is2 is3) ((abW n.toNat (aad:Int)),(0:Int))) λs2=>aag s2
def ib(p:List<|List ZW)(x:ZX)(name:BA):Option (LI):=abS (fD p) λv1=>abS (fE (v1.length:Int) p x v1 name) λv2=>aag v2
def p9(x:Int)(a1:LI):Option Bool:=abS (bif aai (x<(0:Int)) then aag aae else gd (aai<|0<=(a1.length:Int)) <|aag<|aai<|(0:Int)<(mZ .i64 x (a1.length:Int))) λs1=>aag s1
def cE(s:LI)(f0:LI):LS Int (Unit ⊕ Int):=λs4=>bif aai (s4<(s.length:Int)) then gd (aai<|0<=s4/\s4<(s.length:Int)) <|abS (p9 (J s s4) f0) λv8=>bif v8 then aag (.inr<|.inr s4) else gd (ZU .i64<|s4+(1:Int)) <|aag (.inl<|s4+(1:Int)) else aag (.inr<|.inl ())
def bJ(s:LI)(f0:LI):Option Int:=sumK (aA (cE s f0) (0:Int)) λs1=>aag (-1:Int)
def bB(s:LI)(f0:LI):Option Bool:=abS (bJ s f0) λv1=>aag<|aai<|(0:Int)<=v1
def cV(r_:LI):Option Bool:=abS (bif aai ((r_.length:Int)<=(16:Int)) then abS (bB r_ r_) λv3=>aag (!v3) else aag aaf) λs1=>aag s1
def fL(r_:LI)(i:Int)(k_:Int):Option Bool:=gd (aai<|0<=i/\i<(r_.length:Int)) <|gd (aai<|0<=k_) <|aag<|(jc .i64 (mZ .i64 (J r_ i) k_) (1:Int))==(1:Int)
def nI(i:Int)(k_:Int)(a2:LI):Option Bool:=abS (fL a2 k_ i) λv1=>aag v1
def mb(n:Int)(is0:LI)(s6:(LI)×Int):LS ((LI)×Int) (LI):=λs14=>bif aai (s14.2<n) then abS (abS (nI s6.2 s14.2 is0) λv19=>bif v19 then gd (aai<|0<=s6.2/\s6.2<(s14.1.length:Int)) <|gd (aai<|0<=s14.2) <|aag (s14.1.set s6.2.toNat<|bOr .i64 (J s14.1 s6.2)<|ME .i64 (1:Int) s14.2) else aag s14.1) λs18=>gd (ZU .i64<|s14.2+(1:Int)) <|aag (.inl (s18,(s14.2+(1:Int)))) else aag (.inr s14.1)
def mJ(n:Int)(is0:LI):LS ((LI)×Int) (LI):=λs6=>bif aai (s6.2<n) then abS (aA (mb n is0 s6) (s6.1,(0:Int))) λs10=>gd (ZU .i64<|s6.2+(1:Int)) <|aag (.inl (s10,(s6.2+(1:Int)))) else aag (.inr s6.1)
def ic(n:Int)(is0:LI):Option (LI):=gd (aai<|0<=n/\n<=n/\n*((8:Nat):Int)<=140737488355328/\n<=140737488355328) <|abS (aA (mJ n is0) ((abW n.toNat (aad:Int)),(0:Int))) λs2=>aag s2
def lW(r_:LI):Option (LI):=abS (cV r_) λv1=>bif !v1 then aag ([]:LI) else abS (ic (r_.length:Int) r_) λv3=>aag v3
def lg(s16:(LI)×Int):LS ((LI)×Int) (LI):=λs28=>bif aai (s28.2<(s16.1.length:Int)) then abS (abS (fL s28.1 s28.2 s16.2) λv35=>bif v35 then gd (aai<|0<=s28.2/\s28.2<(s28.1.length:Int)) <|gd (aai<|0<=s16.2/\s16.2<(s28.1.length:Int)) <|aag (s28.1.set s28.2.toNat<|bOr .i64 (J s28.1 s28.2)<|J s28.1 s16.2) else aag s28.1) λs34=>gd (ZU .i64<|s28.2+(1:Int)) <|aag (.inl (s34,(s28.2+(1:Int)))) else aag (.inr s28.1)
def rG(v3:(LI)):LS ((LI)×Int) (LI):=λs16=>bif aai (s16.2<(v3.length:Int)) then abS (aA (lg s16) (s16.1,(0:Int))) λs22=>gd (ZU .i64<|s16.2+(1:Int)) <|aag (.inl (s22,(s16.2+(1:Int)))) else aag (.inr s16.1)
def iR(r_:LI):Option (LI):=abS (cV r_) λv1=>bif !v1 then aag ([]:LI) else abS (aH r_) λv3=>abS (aA (rG v3) (v3,(0:Int))) λs7=>aag s7
def dU(a:LI)(b:LI):Option Bool:=abS (bif ((a.length:Int)==(b.length:Int)) then abS (cV a) λv3=>aag v3 else aag aaf) λs1=>abS (bif s1 then abS (cV b) λv6=>aag v6 else aag aaf) λs4=>aag s4
def qf(x:Int)(y:Int):Option Int:=aag<|bOr .i64 x y
def nJ(a:LI)(b:LI):LS ((LI)×Int) (LI):=λs8=>bif aai (s8.2<(a.length:Int)) then gd (aai<|0<=s8.2/\s8.2<(a.length:Int)) <|gd (aai<|0<=s8.2/\s8.2<(b.length:Int)) <|abS (qf (J a s8.2)<|J b s8.2) λv14=>gd (aai<|0<=s8.2/\s8.2<(s8.1.length:Int)) <|gd (ZU .i64<|s8.2+(1:Int)) <|aag (.inl ((s8.1.set s8.2.toNat v14),(s8.2+(1:Int)))) else aag (.inr s8.1)
def iF(a:LI)(b:LI):Option (LI):=abS (dU a b) λv1=>bif !v1 then aag ([]:LI) else gd (aai<|0<=(a.length:Int)/\(a.length:Int)<=(a.length:Int)/\(a.length:Int)*((8:Nat):Int)<=140737488355328/\(a.length:Int)<=140737488355328) <|abS (aA (nJ a b) ((abW (a.length:Int).toNat (aad:Int)),(0:Int))) λs4=>aag s4
def oD(a:LI)(b:LI):Option (LI):=abS (iF a b) λv1=>aag v1
def rT(x:Int)(y:Int):Option Int:=aag<|jc .i64 x y
def nV(a:LI)(b:LI):LS ((LI)×Int) (LI):=λs8=>bif aai (s8.2<(a.length:Int)) then gd (aai<|0<=s8.2/\s8.2<(a.length:Int)) <|gd (aai<|0<=s8.2/\s8.2<(b.length:Int)) <|abS (rT (J a s8.2)<|J b s8.2) λv14=>gd (aai<|0<=s8.2/\s8.2<(s8.1.length:Int)) <|gd (ZU .i64<|s8.2+(1:Int)) <|aag (.inl ((s8.1.set s8.2.toNat v14),(s8.2+(1:Int)))) else aag (.inr s8.1)
def iS(a:LI)(b:LI):Option (LI):=abS (dU a b) λv1=>bif !v1 then aag ([]:LI) else gd (aai<|0<=(a.length:Int)/\(a.length:Int)<=(a.length:Int)/\(a.length:Int)*((8:Nat):Int)<=140737488355328/\(a.length:Int)<=140737488355328) <|abS (aA (nV a b) ((abW (a.length:Int).toNat (aad:Int)),(0:Int))) λs4=>aag s4
def qJ(a:LI)(b:LI):Option (LI):=abS (iS a b) λv1=>aag v1
def qg(x:Int)(y:Int):Option Int:=aag<|p5 .i64 x y
def nK(a:LI)(b:LI):LS ((LI)×Int) (LI):=λs8=>bif aai (s8.2<(a.length:Int)) then gd (aai<|0<=s8.2/\s8.2<(a.length:Int)) <|gd (aai<|0<=s8.2/\s8.2<(b.length:Int)) <|abS (qg (J a s8.2)<|J b s8.2) λv14=>gd (aai<|0<=s8.2/\s8.2<(s8.1.length:Int)) <|gd (ZU .i64<|s8.2+(1:Int)) <|aag (.inl ((s8.1.set s8.2.toNat v14),(s8.2+(1:Int)))) else aag (.inr s8.1)
def iG(a:LI)(b:LI):Option (LI):=abS (dU a b) λv1=>bif !v1 then aag ([]:LI) else gd (aai<|0<=(a.length:Int)/\(a.length:Int)<=(a.length:Int)/\(a.length:Int)*((8:Nat):Int)<=140737488355328/\(a.length:Int)<=140737488355328) <|abS (aA (nK a b) ((abW (a.length:Int).toNat (aad:Int)),(0:Int))) λs4=>aag s4
def oF(a:LI)(b:LI):Option (LI):=abS (iG a b) λv1=>aag v1
def rH(a:LI)(b:LI)(s8:(LI)×Int):LS ((LI)×Int) (LI):=λs16=>bif aai (s16.2<(b.length:Int)) then abS (abS (fL a s8.2 s16.2) λv21=>bif v21 then gd (aai<|0<=s8.2/\s8.2<(s16.1.length:Int)) <|gd (aai<|0<=s16.2/\s16.2<(b.length:Int)) <|aag (s16.1.set s8.2.toNat<|bOr .i64 (J s16.1 s8.2)<|J b s16.2) else aag s16.1) λs20=>gd (ZU .i64<|s16.2+(1:Int)) <|aag (.inl (s20,(s16.2+(1:Int)))) else aag (.inr s16.1)
def sG(a:LI)(b:LI):LS ((LI)×Int) (LI):=λs8=>bif aai (s8.2<(a.length:Int)) then abS (aA (rH a b s8) (s8.1,(0:Int))) λs12=>gd (ZU .i64<|s8.2+(1:Int)) <|aag (.inl (s12,(s8.2+(1:Int)))) else aag (.inr s8.1)
def lY(a:LI)(b:LI):Option (LI):=abS (dU a b) λv1=>bif !v1 then aag ([]:LI) else gd (aai<|0<=(a.length:Int)/\(a.length:Int)<=(a.length:Int)/\(a.length:Int)*((8:Nat):Int)<=140737488355328/\(a.length:Int)<=140737488355328) <|abS (aA (sG a b) ((abW (a.length:Int).toNat (aad:Int)),(0:Int))) λs4=>aag s4
def df(rcf:(List<|List ZW)->ZX->aa->Option (LI))(p:List<|List ZW)(x:ZX)(e_:aa):Option (LI):=bif (e_.Op==(1:Int)) then abS (ib p x e_.Name) λv2=>aag v2 else gd (aai<|0<=(0:Int)/\(0:Int)<(e_.Kids.length:Int)) <|abS (rcf p x<|(J e_.Kids (0:Int)).out) λv4=>bif (e_.Op==(6:Int)) then abS (lW v4) λv6=>aag v6 else bif (e_.Op==(7:Int)) then abS (iR v4) λv8=>aag v8 else gd (aai<|0<=(1:Int)/\(1:Int)<(e_.Kids.length:Int)) <|abS (rcf p x<|(J e_.Kids (1:Int)).out) λv10=>bif (e_.Op==(2:Int)) then abS (oD v4 v10) λv12=>aag v12 else bif (e_.Op==(3:Int)) then abS (qJ v4 v10) λv14=>aag v14 else bif (e_.Op==(4:Int)) then abS (oF v4 v10) λv16=>aag v16 else abS (lY v4 v10) λv17=>aag v17
def dh:Nat->(List<|List ZW)->ZX->aa->Option (LI)
 |0=>λ_ _ _=>aah
 |n+1=>df (dh n)
def qK(p:List<|List ZW)(x:ZX)(e_:aa):Option (LI):=HT λnf=>dh nf p x e_
def oH(r_:LI):LS Int (Unit ⊕ Bool):=λs4=>bif aai (s4<(r_.length:Int)) then abS (fL r_ s4 s4) λv7=>bif v7 then aag (.inr<|.inr aaf) else gd (ZU .i64<|s4+(1:Int)) <|aag (.inl<|s4+(1:Int)) else aag (.inr<|.inl ())
def fq(r_:LI):Option Bool:=sumK (aA (oH r_) (0:Int)) λs1=>aag aae
def lZ(r_:LI):Option Bool:=abS (cV r_) λv1=>abS (bif v1 then abS (iR r_) λv4=>abS (fq v4) λv5=>aag v5 else aag aaf) λs2=>aag s2
def jl(x:Int):Option Int:=gd (aai<|0<=(1:Int)) <|gd (ZU .u64<|(jc .u64 (mZ .u64 x (1:Int)) (6148914691236517205:Int))+(jc .u64 x (6148914691236517205:Int))) <|gd (aai<|0<=(2:Int)) <|gd (ZU .u64<|(jc .u64 (mZ .u64 ((jc .u64 (mZ .u64 x (1:Int)) (6148914691236517205:Int))+(jc .u64 x (6148914691236517205:Int))) (2:Int)) (3689348814741910323:Int))+(jc .u64 ((jc .u64 (mZ .u64 x (1:Int)) (6148914691236517205:Int))+(jc .u64 x (6148914691236517205:Int))) (3689348814741910323:Int))) <|gd (aai<|0<=(4:Int)) <|gd (ZU .u64<|(mZ .u64 ((jc .u64 (mZ .u64 ((jc .u64 (mZ .u64 x (1:Int)) (6148914691236517205:Int))+(jc .u64 x (6148914691236517205:Int))) (2:Int)) (3689348814741910323:Int))+(jc .u64 ((jc .u64 (mZ .u64 x (1:Int)) (6148914691236517205:Int))+(jc .u64 x (6148914691236517205:Int))) (3689348814741910323:Int))) (4:Int))+((jc .u64 (mZ .u64 ((jc .u64 (mZ .u64 x (1:Int)) (6148914691236517205:Int))+(jc .u64 x (6148914691236517205:Int))) (2:Int)) (3689348814741910323:Int))+(jc .u64 ((jc .u64 (mZ .u64 x (1:Int)) (6148914691236517205:Int))+(jc .u64 x (6148914691236517205:Int))) (3689348814741910323:Int)))) <|abS (aag<|(mZ .u64 ((jc .u64 (mZ .u64 ((jc .u64 (mZ .u64 x (1:Int)) (6148914691236517205:Int))+(jc .u64 x (6148914691236517205:Int))) (2:Int)) (3689348814741910323:Int))+(jc .u64 ((jc .u64 (mZ .u64 x (1:Int)) (6148914691236517205:Int))+(jc .u64 x (6148914691236517205:Int))) (3689348814741910323:Int))) (4:Int))+((jc .u64 (mZ .u64 ((jc .u64 (mZ .u64 x (1:Int)) (6148914691236517205:Int))+(jc .u64 x (6148914691236517205:Int))) (2:Int)) (3689348814741910323:Int))+(jc .u64 ((jc .u64 (mZ .u64 x (1:Int)) (6148914691236517205:Int))+(jc .u64 x (6148914691236517205:Int))) (3689348814741910323:Int)))) λw7=>gd (aai<|0<=(8:Int)) <|gd (ZU .u64<|(jc .u64 w7 (1085102592571150095:Int))+(mZ .u64 (jc .u64 w7 (1085102592571150095:Int)) (8:Int))) <|gd (aai<|0<=(16:Int)) <|gd (ZU .u64<|((jc .u64 w7 (1085102592571150095:Int))+(mZ .u64 (jc .u64 w7 (1085102592571150095:Int)) (8:Int)))+(mZ .u64 ((jc .u64 w7 (1085102592571150095:Int))+(mZ .u64 (jc .u64 w7 (1085102592571150095:Int)) (8:Int))) (16:Int))) <|gd (aai<|0<=(32:Int)) <|gd (ZU .u64<|(((jc .u64 w7 (1085102592571150095:Int))+(mZ .u64 (jc .u64 w7 (1085102592571150095:Int)) (8:Int)))+(mZ .u64 ((jc .u64 w7 (1085102592571150095:Int))+(mZ .u64 (jc .u64 w7 (1085102592571150095:Int)) (8:Int))) (16:Int)))+(mZ .u64 (((jc .u64 w7 (1085102592571150095:Int))+(mZ .u64 (jc .u64 w7 (1085102592571150095:Int)) (8:Int)))+(mZ .u64 ((jc .u64 w7 (1085102592571150095:Int))+(mZ .u64 (jc .u64 w7 (1085102592571150095:Int)) (8:Int))) (16:Int))) (32:Int))) <|gd (ZU .i64<|(((jc .u64 w7 (1085102592571150095:Int))+(mZ .u64 (jc .u64 w7 (1085102592571150095:Int)) (8:Int)))+(mZ .u64 ((jc .u64 w7 (1085102592571150095:Int))+(mZ .u64 (jc .u64 w7 (1085102592571150095:Int)) (8:Int))) (16:Int)))+(mZ .u64 (((jc .u64 w7 (1085102592571150095:Int))+(mZ .u64 (jc .u64 w7 (1085102592571150095:Int)) (8:Int)))+(mZ .u64 ((jc .u64 w7 (1085102592571150095:Int))+(mZ .u64 (jc .u64 w7 (1085102592571150095:Int)) (8:Int))) (16:Int))) (32:Int))) <|aag<|jc .i64 ((((jc .u64 w7 (1085102592571150095:Int))+(mZ .u64 (jc .u64 w7 (1085102592571150095:Int)) (8:Int)))+(mZ .u64 ((jc .u64 w7 (1085102592571150095:Int))+(mZ .u64 (jc .u64 w7 (1085102592571150095:Int)) (8:Int))) (16:Int)))+(mZ .u64 (((jc .u64 w7 (1085102592571150095:Int))+(mZ .u64 (jc .u64 w7 (1085102592571150095:Int)) (8:Int)))+(mZ .u64 ((jc .u64 w7 (1085102592571150095:Int))+(mZ .u64 (jc .u64 w7 (1085102592571150095:Int)) (8:Int))) (16:Int))) (32:Int))) (127:Int)
def ig(x:Int):Option Int:=abS (jl x) λv1=>aag v1
def vz(r_:LI):LS (Int×Int) Int:=λs6=>bif aai (s6.1<(r_.length:Int)) then gd (aai<|0<=s6.1/\s6.1<(r_.length:Int)) <|gd (ZU .u64<|J r_ s6.1) <|abS (ig<|J r_ s6.1) λv11=>gd (ZU .i64<|s6.2+v11) <|gd (ZU .i64<|s6.1+(1:Int)) <|aag (.inl ((s6.1+(1:Int)),(s6.2+v11))) else aag (.inr s6.2)
def oI(r_:LI):Option Int:=abS (cV r_) λv1=>bif !v1 then aag (0:Int) else abS (aA (vz r_) ((0:Int),(0:Int))) λs3=>aag s3
def m6(kind:Int)(r_:LI):Option Bool:=bif (kind==(1:Int)) then abS (lZ r_) λv2=>aag v2 else bif (kind==(2:Int)) then abS (fq r_) λv4=>aag v4 else abS (oI r_) λv5=>aag<|v5==(0:Int)
def sH(p:List<|List ZW)(x:ZX)(m:List ah):LS Int (Unit ⊕ (Int×(LI))):=λs4=>bif aai (s4<(m.length:Int)) then gd (aai<|0<=s4/\s4<(m.length:Int)) <|abS (qK p x (⟨((J m s4).Expr).Op,((J m s4).Expr).Name,((J m s4).Expr).Kids⟩:aa)) λv8=>abS (m6 ((J m s4).Kind) v8) λv9=>bif !v9 then aag (.inr<|.inr (s4,v8)) else gd (ZU .i64<|s4+(1:Int)) <|aag (.inl<|s4+(1:Int)) else aag (.inr<|.inl ())
def fT(p:List<|List ZW)(x:ZX)(m:List ah):Option (Int×(LI)):=sumK (aA (sH p x m) (0:Int)) λs1=>aag ((-1:Int),([]:LI))
def qL(p:List<|List ZW)(x:ZX)(m:List ah):Option Bool:=abS (bT p x) λv1=>bif !v1.2 then aag aaf else abS (fT p x m) λv3=>aag<|aai<|v3.1<(0:Int)
def cH(x:ZX)(a1:List<|List ZW)(a2:List ah):Option Bool:=abS (qL a1 x a2) λv1=>aag<|!v1
def bv(s:List ZX)(f0:List<|List ZW)(f1:List ah):LS Int (Unit ⊕ Int):=λs4=>bif aai (s4<(s.length:Int)) then gd (aai<|0<=s4/\s4<(s.length:Int)) <|abS (cH (J s s4) f0 f1) λv8=>bif v8 then aag (.inr<|.inr s4) else gd (ZU .i64<|s4+(1:Int)) <|aag (.inl<|s4+(1:Int)) else aag (.inr<|.inl ())
def aD(s:List ZX)(f0:List<|List ZW)(f1:List ah):Option Int:=sumK (aA (bv s f0 f1) (0:Int)) λs1=>aag (-1:Int)
def bi(del0:List<|List ZW)(del1:List ah):LS ((List ZX)×Int×Int) ((List ZX)×Int):=λs10=>bif aai (s10.2.1<(s10.1.length:Int)) then abS (gd (aai<|0<=s10.2.1/\s10.2.1<(s10.1.length:Int)) <|abS (cH (⟨(J s10.1 s10.2.1).From,(J s10.1 s10.2.1).Order⟩:ZX) del0 del1) λv18=>bif !v18 then gd (aai<|0<=s10.2.2/\s10.2.2<(s10.1.length:Int)) <|gd (ZU .i64<|s10.2.2+(1:Int)) <|aag ((s10.1.set s10.2.2.toNat (⟨(J s10.1 s10.2.1).From,(J s10.1 s10.2.1).Order⟩:ZX)),(s10.2.2+(1:Int))) else aag (s10.1,s10.2.2)) λs16=>gd (ZU .i64<|s10.2.1+(1:Int)) <|aag (.inl (s16.1,(s10.2.1+(1:Int)),s16.2)) else aag (.inr (s10.1,s10.2.2))
def aC(s:List ZX)(del0:List<|List ZW)(del1:List ah):Option (List ZX):=abS (aD s del0 del1) λv1=>bif (v1==(-1:Int)) then aag s else abS (gd (ZU .i64<|v1+(1:Int)) <|aA (bi del0 del1) (s,(v1+(1:Int)),v1)) λs3=>gd (aai<|(0:Int)<=(0:Int)/\(0:Int)<(s3.1.length:Int)) <|gd (aai<|0<=s3.2/\s3.2<=(s3.1.length:Int)/\(s3.1.length:Int)<=(s3.1.length:Int)) <|gd (aai<|0<=(0:Int)/\(0:Int)<=s3.2/\s3.2<=(s3.1.length:Int)) <|aag<|((cpy s3.1 (0+s3.2.toNat) (abW ((s3.1.length:Int).toNat-s3.2.toNat) (aad:ZX))<|(s3.1.length:Int).toNat-s3.2.toNat).drop (0:Int).toNat).take<|s3.2.toNat-(0:Int).toNat
def dM(p:List<|List ZW)(m:List ah):Option (List ZX):=abS (aZ p) λv1=>abS (bif !v1 then aag aae else abS (dJ m) λv4=>aag<|!v4) λs2=>bif s2 then aag ([]:List ZX) else abS (oz p) λv6=>abS (aC v6 p m) λv10=>aag v10
def iB(v:ZVa)(s7:(LI)×Int):LS ((LI)×Int) (LI):=λs20=>bif aai (s20.2<(3:Int)) then gd (aai<|0<=s20.2/\s20.2<3) <|gd (ZU .i64<|Z3b.get (Z33.get v.reg s7.2) s20.2) <|gd (aR (s20.1.length+1) 8) <|gd (ZU .i64<|s20.2+(1:Int)) <|aag (.inl ((s20.1++[(Z3b.get (Z33.get v.reg s7.2) s20.2)]),(s20.2+(1:Int)))) else aag (.inr s20.1)
def iT(v:ZVa):LS ((LI)×Int) (LI):=λs7=>bif aai (s7.2<(v.p.length:Int)) then abS (gd (aai<|0<=s7.2/\s7.2<3) <|aA (iB v s7) (s7.1,(0:Int))) λs13=>gd (ZU .i64<|s7.2+(1:Int)) <|aag (.inl (s13,(s7.2+(1:Int)))) else aag (.inr s7.1)
def iC(v:ZVa):LS ((LI)×Int) (LI):=λs43=>bif aai (s43.2<(3:Int)) then gd (aai<|0<=s43.2/\s43.2<3) <|gd (ZU .i64<|Z3b.get v.mem s43.2) <|gd (aR (s43.1.length+1) 8) <|gd (ZU .i64<|s43.2+(1:Int)) <|aag (.inl ((s43.1++[(Z3b.get v.mem s43.2)]),(s43.2+(1:Int)))) else aag (.inr s43.1)
def ij(v:ZVa):Option (ZVa×(LI)):=abS (aA (iT v) (([]:LI),(0:Int))) λs1=>abS (aA (iC v) (s1,(0:Int))) λs37=>aag ((⟨v.p,(⟨v.pc.x0,v.pc.x1,v.pc.x2⟩:Z3b),(⟨(⟨v.reg.x0.x0,v.reg.x0.x1,v.reg.x0.x2⟩:Z3b),(⟨v.reg.x1.x0,v.reg.x1.x1,v.reg.x1.x2⟩:Z3b),(⟨v.reg.x2.x0,v.reg.x2.x1,v.reg.x2.x2⟩:Z3b)⟩:Z33),(⟨v.mem.x0,v.mem.x1,v.mem.x2⟩:Z3b)⟩:ZVa),s37)
def uA(p:List<|List ZW)(x:ZX)(v1:(LI)×Bool)(v4:(List ZY)):LS (Int×Int×Int×Int×Int×Int×Int×Int×Int×Int) (Int×Int×Int×Int×Int×Int×Int×Int×Int):=λs7=>bif aai (s7.2.2.2.2.2.2.2.2.2<(v4.length:Int)) then abS (gd (aai<|0<=s7.2.2.2.2.2.2.2.2.2/\s7.2.2.2.2.2.2.2.2.2<(v4.length:Int)) <|bif (J v4 s7.2.2.2.2.2.2.2.2.2).Reads then gd (aai<|0<=(J v4 s7.2.2.2.2.2.2.2.2.2).Thread/\(J v4 s7.2.2.2.2.2.2.2.2.2).Thread<(p.length:Int)) <|gd (aai<|0<=(J v4 s7.2.2.2.2.2.2.2.2.2).Index/\(J v4 s7.2.2.2.2.2.2.2.2.2).Index<((J p<|(J v4 s7.2.2.2.2.2.2.2.2.2).Thread).length:Int)) <|gd (aai<|0<=s7.2.2.2.2.2.2.2.2.2/\s7.2.2.2.2.2.2.2.2.2<(x.From.length:Int)) <|gd (aai<|0<=(J x.From s7.2.2.2.2.2.2.2.2.2)/\(J x.From s7.2.2.2.2.2.2.2.2.2)<(v1.1.length:Int)) <|gd (ZU .u8<|J v1.1<|J x.From s7.2.2.2.2.2.2.2.2.2) <|gd (aai<|0<=(J v4 s7.2.2.2.2.2.2.2.2.2).Thread/\(J v4 s7.2.2.2.2.2.2.2.2.2).Thread<3) <|gd (aai<|0<=(J (J p<|(J v4 s7.2.2.2.2.2.2.2.2.2).Thread)<|(J v4 s7.2.2.2.2.2.2.2.2.2).Index).Reg/\(J (J p<|(J v4 s7.2.2.2.2.2.2.2.2.2).Thread)<|(J v4 s7.2.2.2.2.2.2.2.2.2).Index).Reg<3) <|aag (((Z33.set (⟨(⟨s7.1,s7.2.1,s7.2.2.1⟩:Z3b),(⟨s7.2.2.2.1,s7.2.2.2.2.1,s7.2.2.2.2.2.1⟩:Z3b),(⟨s7.2.2.2.2.2.2.1,s7.2.2.2.2.2.2.2.1,s7.2.2.2.2.2.2.2.2.1⟩:Z3b)⟩:Z33) ((J v4 s7.2.2.2.2.2.2.2.2.2).Thread)<|Z3b.set (Z33.get (⟨(⟨s7.1,s7.2.1,s7.2.2.1⟩:Z3b),(⟨s7.2.2.2.1,s7.2.2.2.2.1,s7.2.2.2.2.2.1⟩:Z3b),(⟨s7.2.2.2.2.2.2.1,s7.2.2.2.2.2.2.2.1,s7.2.2.2.2.2.2.2.2.1⟩:Z3b)⟩:Z33)<|(J v4 s7.2.2.2.2.2.2.2.2.2).Thread) ((J (J p<|(J v4 s7.2.2.2.2.2.2.2.2.2).Thread)<|(J v4 s7.2.2.2.2.2.2.2.2.2).Index).Reg)<|J v1.1<|J x.From s7.2.2.2.2.2.2.2.2.2).x0).x0,((Z33.set (⟨(⟨s7.1,s7.2.1,s7.2.2.1⟩:Z3b),(⟨s7.2.2.2.1,s7.2.2.2.2.1,s7.2.2.2.2.2.1⟩:Z3b),(⟨s7.2.2.2.2.2.2.1,s7.2.2.2.2.2.2.2.1,s7.2.2.2.2.2.2.2.2.1⟩:Z3b)⟩:Z33) ((J v4 s7.2.2.2.2.2.2.2.2.2).Thread)<|Z3b.set (Z33.get (⟨(⟨s7.1,s7.2.1,s7.2.2.1⟩:Z3b),(⟨s7.2.2.2.1,s7.2.2.2.2.1,s7.2.2.2.2.2.1⟩:Z3b),(⟨s7.2.2.2.2.2.2.1,s7.2.2.2.2.2.2.2.1,s7.2.2.2.2.2.2.2.2.1⟩:Z3b)⟩:Z33)<|(J v4 s7.2.2.2.2.2.2.2.2.2).Thread) ((J (J p<|(J v4 s7.2.2.2.2.2.2.2.2.2).Thread)<|(J v4 s7.2.2.2.2.2.2.2.2.2).Index).Reg)<|J v1.1<|J x.From s7.2.2.2.2.2.2.2.2.2).x0).x1,((Z33.set (⟨(⟨s7.1,s7.2.1,s7.2.2.1⟩:Z3b),(⟨s7.2.2.2.1,s7.2.2.2.2.1,s7.2.2.2.2.2.1⟩:Z3b),(⟨s7.2.2.2.2.2.2.1,s7.2.2.2.2.2.2.2.1,s7.2.2.2.2.2.2.2.2.1⟩:Z3b)⟩:Z33) ((J v4 s7.2.2.2.2.2.2.2.2.2).Thread)<|Z3b.set (Z33.get (⟨(⟨s7.1,s7.2.1,s7.2.2.1⟩:Z3b),(⟨s7.2.2.2.1,s7.2.2.2.2.1,s7.2.2.2.2.2.1⟩:Z3b),(⟨s7.2.2.2.2.2.2.1,s7.2.2.2.2.2.2.2.1,s7.2.2.2.2.2.2.2.2.1⟩:Z3b)⟩:Z33)<|(J v4 s7.2.2.2.2.2.2.2.2.2).Thread) ((J (J p<|(J v4 s7.2.2.2.2.2.2.2.2.2).Thread)<|(J v4 s7.2.2.2.2.2.2.2.2.2).Index).Reg)<|J v1.1<|J x.From s7.2.2.2.2.2.2.2.2.2).x0).x2,((Z33.set (⟨(⟨s7.1,s7.2.1,s7.2.2.1⟩:Z3b),(⟨s7.2.2.2.1,s7.2.2.2.2.1,s7.2.2.2.2.2.1⟩:Z3b),(⟨s7.2.2.2.2.2.2.1,s7.2.2.2.2.2.2.2.1,s7.2.2.2.2.2.2.2.2.1⟩:Z3b)⟩:Z33) ((J v4 s7.2.2.2.2.2.2.2.2.2).Thread)<|Z3b.set (Z33.get (⟨(⟨s7.1,s7.2.1,s7.2.2.1⟩:Z3b),(⟨s7.2.2.2.1,s7.2.2.2.2.1,s7.2.2.2.2.2.1⟩:Z3b),(⟨s7.2.2.2.2.2.2.1,s7.2.2.2.2.2.2.2.1,s7.2.2.2.2.2.2.2.2.1⟩:Z3b)⟩:Z33)<|(J v4 s7.2.2.2.2.2.2.2.2.2).Thread) ((J (J p<|(J v4 s7.2.2.2.2.2.2.2.2.2).Thread)<|(J v4 s7.2.2.2.2.2.2.2.2.2).Index).Reg)<|J v1.1<|J x.From s7.2.2.2.2.2.2.2.2.2).x1).x0,((Z33.set (⟨(⟨s7.1,s7.2.1,s7.2.2.1⟩:Z3b),(⟨s7.2.2.2.1,s7.2.2.2.2.1,s7.2.2.2.2.2.1⟩:Z3b),(⟨s7.2.2.2.2.2.2.1,s7.2.2.2.2.2.2.2.1,s7.2.2.2.2.2.2.2.2.1⟩:Z3b)⟩:Z33) ((J v4 s7.2.2.2.2.2.2.2.2.2).Thread)<|Z3b.set (Z33.get (⟨(⟨s7.1,s7.2.1,s7.2.2.1⟩:Z3b),(⟨s7.2.2.2.1,s7.2.2.2.2.1,s7.2.2.2.2.2.1⟩:Z3b),(⟨s7.2.2.2.2.2.2.1,s7.2.2.2.2.2.2.2.1,s7.2.2.2.2.2.2.2.2.1⟩:Z3b)⟩:Z33)<|(J v4 s7.2.2.2.2.2.2.2.2.2).Thread) ((J (J p<|(J v4 s7.2.2.2.2.2.2.2.2.2).Thread)<|(J v4 s7.2.2.2.2.2.2.2.2.2).Index).Reg)<|J v1.1<|J x.From s7.2.2.2.2.2.2.2.2.2).x1).x1,((Z33.set (⟨(⟨s7.1,s7.2.1,s7.2.2.1⟩:Z3b),(⟨s7.2.2.2.1,s7.2.2.2.2.1,s7.2.2.2.2.2.1⟩:Z3b),(⟨s7.2.2.2.2.2.2.1,s7.2.2.2.2.2.2.2.1,s7.2.2.2.2.2.2.2.2.1⟩:Z3b)⟩:Z33) ((J v4 s7.2.2.2.2.2.2.2.2.2).Thread)<|Z3b.set (Z33.get (⟨(⟨s7.1,s7.2.1,s7.2.2.1⟩:Z3b),(⟨s7.2.2.2.1,s7.2.2.2.2.1,s7.2.2.2.2.2.1⟩:Z3b),(⟨s7.2.2.2.2.2.2.1,s7.2.2.2.2.2.2.2.1,s7.2.2.2.2.2.2.2.2.1⟩:Z3b)⟩:Z33)<|(J v4 s7.2.2.2.2.2.2.2.2.2).Thread) ((J (J p<|(J v4 s7.2.2.2.2.2.2.2.2.2).Thread)<|(J v4 s7.2.2.2.2.2.2.2.2.2).Index).Reg)<|J v1.1<|J x.From s7.2.2.2.2.2.2.2.2.2).x1).x2,((Z33.set (⟨(⟨s7.1,s7.2.1,s7.2.2.1⟩:Z3b),(⟨s7.2.2.2.1,s7.2.2.2.2.1,s7.2.2.2.2.2.1⟩:Z3b),(⟨s7.2.2.2.2.2.2.1,s7.2.2.2.2.2.2.2.1,s7.2.2.2.2.2.2.2.2.1⟩:Z3b)⟩:Z33) ((J v4 s7.2.2.2.2.2.2.2.2.2).Thread)<|Z3b.set (Z33.get (⟨(⟨s7.1,s7.2.1,s7.2.2.1⟩:Z3b),(⟨s7.2.2.2.1,s7.2.2.2.2.1,s7.2.2.2.2.2.1⟩:Z3b),(⟨s7.2.2.2.2.2.2.1,s7.2.2.2.2.2.2.2.1,s7.2.2.2.2.2.2.2.2.1⟩:Z3b)⟩:Z33)<|(J v4 s7.2.2.2.2.2.2.2.2.2).Thread) ((J (J p<|(J v4 s7.2.2.2.2.2.2.2.2.2).Thread)<|(J v4 s7.2.2.2.2.2.2.2.2.2).Index).Reg)<|J v1.1<|J x.From s7.2.2.2.2.2.2.2.2.2).x2).x0,((Z33.set (⟨(⟨s7.1,s7.2.1,s7.2.2.1⟩:Z3b),(⟨s7.2.2.2.1,s7.2.2.2.2.1,s7.2.2.2.2.2.1⟩:Z3b),(⟨s7.2.2.2.2.2.2.1,s7.2.2.2.2.2.2.2.1,s7.2.2.2.2.2.2.2.2.1⟩:Z3b)⟩:Z33) ((J v4 s7.2.2.2.2.2.2.2.2.2).Thread)<|Z3b.set (Z33.get (⟨(⟨s7.1,s7.2.1,s7.2.2.1⟩:Z3b),(⟨s7.2.2.2.1,s7.2.2.2.2.1,s7.2.2.2.2.2.1⟩:Z3b),(⟨s7.2.2.2.2.2.2.1,s7.2.2.2.2.2.2.2.1,s7.2.2.2.2.2.2.2.2.1⟩:Z3b)⟩:Z33)<|(J v4 s7.2.2.2.2.2.2.2.2.2).Thread) ((J (J p<|(J v4 s7.2.2.2.2.2.2.2.2.2).Thread)<|(J v4 s7.2.2.2.2.2.2.2.2.2).Index).Reg)<|J v1.1<|J x.From s7.2.2.2.2.2.2.2.2.2).x2).x1,((Z33.set (⟨(⟨s7.1,s7.2.1,s7.2.2.1⟩:Z3b),(⟨s7.2.2.2.1,s7.2.2.2.2.1,s7.2.2.2.2.2.1⟩:Z3b),(⟨s7.2.2.2.2.2.2.1,s7.2.2.2.2.2.2.2.1,s7.2.2.2.2.2.2.2.2.1⟩:Z3b)⟩:Z33) ((J v4 s7.2.2.2.2.2.2.2.2.2).Thread)<|Z3b.set (Z33.get (⟨(⟨s7.1,s7.2.1,s7.2.2.1⟩:Z3b),(⟨s7.2.2.2.1,s7.2.2.2.2.1,s7.2.2.2.2.2.1⟩:Z3b),(⟨s7.2.2.2.2.2.2.1,s7.2.2.2.2.2.2.2.1,s7.2.2.2.2.2.2.2.2.1⟩:Z3b)⟩:Z33)<|(J v4 s7.2.2.2.2.2.2.2.2.2).Thread) ((J (J p<|(J v4 s7.2.2.2.2.2.2.2.2.2).Thread)<|(J v4 s7.2.2.2.2.2.2.2.2.2).Index).Reg)<|J v1.1<|J x.From s7.2.2.2.2.2.2.2.2.2).x2).x2) else aag (s7.1,s7.2.1,s7.2.2.1,s7.2.2.2.1,s7.2.2.2.2.1,s7.2.2.2.2.2.1,s7.2.2.2.2.2.2.1,s7.2.2.2.2.2.2.2.1,s7.2.2.2.2.2.2.2.2.1)) λs10=>gd (ZU .i64<|s7.2.2.2.2.2.2.2.2.2+(1:Int)) <|aag (.inl (s10.1,s10.2.1,s10.2.2.1,s10.2.2.2.1,s10.2.2.2.2.1,s10.2.2.2.2.2.1,s10.2.2.2.2.2.2.1,s10.2.2.2.2.2.2.2.1,s10.2.2.2.2.2.2.2.2,(s7.2.2.2.2.2.2.2.2.2+(1:Int)))) else aag (.inr (s7.1,s7.2.1,s7.2.2.1,s7.2.2.2.1,s7.2.2.2.2.1,s7.2.2.2.2.2.1,s7.2.2.2.2.2.2.1,s7.2.2.2.2.2.2.2.1,s7.2.2.2.2.2.2.2.2.1))
def sI(x:ZX)(v1:(LI)×Bool):LS (Int×Int×Int×Int) (Int×Int×Int):=λs25=>bif aai (s25.2.2.2<(x.Order.length:Int)) then gd (aai<|0<=s25.2.2.2/\s25.2.2.2<(x.Order.length:Int)) <|gd (ZU .i64<|((J x.Order s25.2.2.2).length:Int)-(1:Int)) <|gd (aai<|0<=(((J x.Order s25.2.2.2).length:Int)-(1:Int))/\(((J x.Order s25.2.2.2).length:Int)-(1:Int))<((J x.Order s25.2.2.2).length:Int)) <|gd (aai<|0<=(J (J x.Order s25.2.2.2)<|((J x.Order s25.2.2.2).length:Int)-(1:Int))/\(J (J x.Order s25.2.2.2)<|((J x.Order s25.2.2.2).length:Int)-(1:Int))<(v1.1.length:Int)) <|gd (ZU .u8<|J v1.1<|J (J x.Order s25.2.2.2)<|((J x.Order s25.2.2.2).length:Int)-(1:Int)) <|gd (aai<|0<=s25.2.2.2/\s25.2.2.2<3) <|gd (ZU .i64<|s25.2.2.2+(1:Int)) <|aag (.inl ((Z3b.set (⟨s25.1,s25.2.1,s25.2.2.1⟩:Z3b) s25.2.2.2<|J v1.1<|J (J x.Order s25.2.2.2)<|((J x.Order s25.2.2.2).length:Int)-(1:Int)).x0,(Z3b.set (⟨s25.1,s25.2.1,s25.2.2.1⟩:Z3b) s25.2.2.2<|J v1.1<|J (J x.Order s25.2.2.2)<|((J x.Order s25.2.2.2).length:Int)-(1:Int)).x1,(Z3b.set (⟨s25.1,s25.2.1,s25.2.2.1⟩:Z3b) s25.2.2.2<|J v1.1<|J (J x.Order s25.2.2.2)<|((J x.Order s25.2.2.2).length:Int)-(1:Int)).x2,(s25.2.2.2+(1:Int)))) else aag (.inr (s25.1,s25.2.1,s25.2.2.1))
def di(p:List<|List ZW)(x:ZX):Option ((LI)×Bool):=abS (bT p x) λv1=>bif !v1.2 then aag (([]:LI),aaf) else abS (abS (fD p) λv4=>aA (uA p x v1 v4) ((0:Int),(0:Int),(0:Int),(0:Int),(0:Int),(0:Int),(0:Int),(0:Int),(0:Int),(0:Int))) λs3=>abS (aA (sI x v1) ((0:Int),(0:Int),(0:Int),(0:Int))) λs21=>abS (ij (⟨p,(⟨(0:Int),(0:Int),(0:Int)⟩:Z3b),(⟨(⟨s3.1,s3.2.1,s3.2.2.1⟩:Z3b),(⟨s3.2.2.2.1,s3.2.2.2.2.1,s3.2.2.2.2.2.1⟩:Z3b),(⟨s3.2.2.2.2.2.2.1,s3.2.2.2.2.2.2.2.1,s3.2.2.2.2.2.2.2.2⟩:Z3b)⟩:Z33),(⟨s21.1,s21.2.1,s21.2.2⟩:Z3b)⟩:ZVa)) λv35=>aag (v35.2,aae)
def dV(s1_:LI)(s2_:LI):LS Int (Unit ⊕ Bool):=λs5=>bif aai (s5<(s1_.length:Int)) then gd (aai<|0<=s5/\s5<(s1_.length:Int)) <|gd (aai<|0<=s5/\s5<(s2_.length:Int)) <|bif ((J s1_ s5) != (J s2_ s5)) then aag (.inr<|.inr aaf) else gd (ZU .i64<|s5+(1:Int)) <|aag (.inl<|s5+(1:Int)) else aag (.inr<|.inl ())
def aN(s1_:LI)(s2_:LI):Option Bool:=bif ((s1_.length:Int) != (s2_.length:Int)) then aag aaf else sumK (aA (dV s1_ s2_) (0:Int)) λs2=>aag aae
def vA(p:List<|List ZW)(o_:LI)(v7:(List ZX)):LS Int (Unit ⊕ (ZX×Bool)):=λs10=>bif aai (s10<(v7.length:Int)) then gd (aai<|0<=s10/\s10<(v7.length:Int)) <|abS (di p (⟨(J v7 s10).From,(J v7 s10).Order⟩:ZX)) λv14=>abS (aN v14.1 o_) λv15=>bif v15 then aag (.inr<|.inr ((⟨(J v7 s10).From,(J v7 s10).Order⟩:ZX),aae)) else gd (ZU .i64<|s10+(1:Int)) <|aag (.inl<|s10+(1:Int)) else aag (.inr<|.inl ())
def qM(p:List<|List ZW)(m:List ah)(o_:LI):Option (ZX×Bool):=abS (dE p o_) λv1=>abS (bif !v1 then aag aae else abS (dJ m) λv4=>aag<|!v4) λs2=>bif s2 then aag ((⟨([]:LI),([]:LL)⟩:ZX),aaf) else sumK (abS (dM p m) λv7=>aA (vA p o_ v7) (0:Int)) λs6=>aag ((⟨([]:LI),([]:LL)⟩:ZX),aaf)
def sW(p:List<|List ZW):Option Int:=gd (ZU .i64<|(p.length:Int)*(3:Int)) <|gd (ZU .i64<|((p.length:Int)*(3:Int))+(2:Int)) <|gd (ZU .i64<|(((p.length:Int)*(3:Int))+(2:Int))+(1:Int)) <|aag<|(((p.length:Int)*(3:Int))+(2:Int))+(1:Int)
def oJ(o_:LI):LS Int (Unit ⊕ Bool):=λs9=>bif aai (s9<(o_.length:Int)) then gd (aai<|0<=s9/\s9<(o_.length:Int)) <|abS (eO (J o_ s9) (3:Int)) λv13=>bif !v13 then aag (.inr<|.inr aaf) else gd (ZU .i64<|s9+(1:Int)) <|aag (.inl<|s9+(1:Int)) else aag (.inr<|.inl ())
def fZ(p:List<|List ZW)(o_:LI):Option Bool:=abS (bI p) λv1=>abS (bif !v1 then aag aae else abS (sW p) λv4=>aag<|(o_.length:Int) != v4) λs2=>bif s2 then aag aaf else sumK (aA (oJ o_) (0:Int)) λs6=>aag aae
def fF(op:Int):Option Int:=bif (op==(1:Int)) then aag (0:Int) else abS (bif (op==(2:Int)) then aag (op==(2:Int)) else bif (op==(3:Int)) then aag (op==(3:Int)) else bif (op==(4:Int)) then aag (op==(4:Int)) else aag (op==(5:Int))) λs2=>bif s2 then aag (2:Int) else abS (bif (op==(6:Int)) then aag (op==(6:Int)) else aag (op==(7:Int))) λs7=>bif s7 then aag (1:Int) else aag (-1:Int)
def dW:Option (List BA):=aag ([(⟨#[112,111]⟩:BA),(⟨#[108,111,99]⟩:BA),(⟨#[101,120,116]⟩:BA),(⟨#[114,102]⟩:BA),(⟨#[99,111]⟩:BA),(⟨#[102,114]⟩:BA),(⟨#[102,101,110,99,101]⟩:BA),(⟨#[119,114]⟩:BA),(⟨#[119,119]⟩:BA),(⟨#[105,100]⟩:BA)]:List BA)
def l4(s:BA)(v1:(List BA)):LS Int (Unit ⊕ Bool):=λs5=>bif aai (s5<(v1.length:Int)) then gd (aai<|0<=s5/\s5<(v1.length:Int)) <|bif aai ((J v1 s5)=s) then aag (.inr<|.inr aae) else gd (ZU .i64<|s5+(1:Int)) <|aag (.inl<|s5+(1:Int)) else aag (.inr<|.inl ())
def fO(s:BA):Option Bool:=abS (dW) λv1=>sumK (aA (l4 s v1) (0:Int)) λs2=>aag aaf
def kP(rcf:aa->Int->Option Bool)(e_:aa)(depth:Int):LS Int (Unit ⊕ Bool):=λs13=>bif aai (s13<(e_.Kids.length:Int)) then gd (aai<|0<=s13/\s13<(e_.Kids.length:Int)) <|gd (ZU .i64<|depth-(1:Int)) <|abS (rcf ((J e_.Kids s13).out)<|depth-(1:Int)) λv18=>bif !v18 then aag (.inr<|.inr aaf) else gd (ZU .i64<|s13+(1:Int)) <|aag (.inl<|s13+(1:Int)) else aag (.inr<|.inl ())
def gP(rcf:aa->Int->Option Bool)(e_:aa)(depth:Int):Option Bool:=sumK (abS (bif aai (depth<(1:Int)) then aag aae else abS (fF e_.Op) λv4=>bif ((e_.Kids.length:Int) != v4) then aag aae else abS (fO e_.Name) λv6=>bif (!((e_.Op==(1:Int))==v6)) then aag aae else bif (e_.Op != (1:Int)) then aag (!decide (e_.Name=(⟨#[]⟩:BA))) else aag aaf) λs2=>bif s2 then aag (.inr aaf) else aag (.inl ())) λs1=>sumK (aA (kP rcf e_ depth) (0:Int)) λs10=>aag aae
def eT:Nat->aa->Int->Option Bool
 |0=>λ_ _=>aah
 |n+1=>gP (eT n)
def qN(e_:aa)(depth:Int):Option Bool:=HT λnf=>eT nf e_ depth
def l5(rcf:aa->Int->Option Int)(e_:aa)(most:Int):LS (Int×Int) Int:=λs4=>abS (bif aai (s4.1<(e_.Kids.length:Int)) then aag (aai<|s4.2<=most) else aag aaf) λs6=>bif s6 then gd (aai<|0<=s4.1/\s4.1<(e_.Kids.length:Int)) <|gd (ZU .i64<|most-s4.2) <|abS (rcf ((J e_.Kids s4.1).out)<|most-s4.2) λv11=>gd (ZU .i64<|s4.2+v11) <|gd (ZU .i64<|s4.1+(1:Int)) <|aag (.inl ((s4.1+(1:Int)),(s4.2+v11))) else aag (.inr s4.2)
def gQ(rcf:aa->Int->Option Int)(e_:aa)(most:Int):Option Int:=abS (aA (l5 rcf e_ most) ((0:Int),(1:Int))) λs1=>aag s1
def eX:Nat->aa->Int->Option Int
 |0=>λ_ _=>aah
 |n+1=>gQ (eX n)
def qO(e_:aa)(most:Int):Option Int:=HT λnf=>eX nf e_ most
def cG(e_:aa):Option Bool:=abS (qN e_ (12:Int)) λv1=>abS (bif v1 then abS (qO e_ (40:Int)) λv4=>aag (aai<|v4<=(40:Int)) else aag aaf) λs2=>aag s2
def iI(m:List ah):LS Int (Unit ⊕ Bool):=λs4=>abS (bif aai (s4<(m.length:Int)) then aag (aai<|s4<=(5:Int)) else aag aaf) λs6=>bif s6 then gd (aai<|0<=s4/\s4<(m.length:Int)) <|abS (bif aai (((J m s4).Kind)<(1:Int)) then aag aae else aag (aai<|(3:Int)<((J m s4).Kind))) λs10=>abS (bif s10 then aag aae else abS (cG<|(J m s4).Expr) λv14=>aag<|!v14) λs12=>bif s12 then aag (.inr<|.inr aaf) else gd (ZU .i64<|s4+(1:Int)) <|aag (.inl<|s4+(1:Int)) else aag (.inr<|.inl ())
def dN(m:List ah):Option Bool:=sumK (aA (iI m) (0:Int)) λs1=>abS (bif aai ((0:Int)<(m.length:Int)) then aag (aai<|(m.length:Int)<=(5:Int)) else aag aaf) λs17=>aag s17
def vB:LS ((List ZY)×Int) (List ZY):=λs5=>bif aai (s5.2<=(2:Int)) then gd (aR (s5.1.length+1) 32) <|gd (ZU .i64<|s5.2+(1:Int)) <|aag (.inl ((s5.1++[(⟨(-1:Int),s5.2,s5.2,aaf,aae⟩:ZY)]),(s5.2+(1:Int)))) else aag (.inr s5.1)
def uB(p:List<|List ZW)(s16:(List ZY)×Int):LS ((List ZY)×Int) (List ZY):=λs24=>gd (aai<|0<=s16.2/\s16.2<(p.length:Int)) <|bif aai (s24.2<((J p s16.2).length:Int)) then abS (gd (aai<|0<=s24.2/\s24.2<((J p s16.2).length:Int)) <|bif (((J (J p s16.2) s24.2).Op) != (4:Int)) then abS (bN (⟨(J (J p s16.2) s24.2).Op,(J (J p s16.2) s24.2).Loc,(J (J p s16.2) s24.2).Reg,(J (J p s16.2) s24.2).Val⟩:ZW)) λv32=>abS (bF (⟨(J (J p s16.2) s24.2).Op,(J (J p s16.2) s24.2).Loc,(J (J p s16.2) s24.2).Reg,(J (J p s16.2) s24.2).Val⟩:ZW)) λv33=>gd (aR (s24.1.length+1) 32) <|aag (s24.1++[(⟨s16.2,s24.2,(J (J p s16.2) s24.2).Loc,v32,v33⟩:ZY)]) else aag s24.1) λs29=>gd (ZU .i64<|s24.2+(1:Int)) <|aag (.inl (s29,(s24.2+(1:Int)))) else aag (.inr s24.1)
def uC(p:List<|List ZW):LS ((List ZY)×Int) (List ZY):=λs16=>bif aai (s16.2<(p.length:Int)) then abS (aA (uB p s16) (s16.1,(0:Int))) λs20=>gd (ZU .i64<|s16.2+(1:Int)) <|aag (.inl (s20,(s16.2+(1:Int)))) else aag (.inr s16.1)
def f9(p:List<|List ZW):Option (List ZY):=abS (aA vB (([]:List ZY),(0:Int))) λs1=>abS (aA (uC p) (s1,(0:Int))) λs12=>aag s12
def uD(events:List ZY)(loc:Int):LS ((LI)×Int) (LI):=λs5=>bif aai (s5.2<(events.length:Int)) then abS (gd (aai<|0<=s5.2/\s5.2<(events.length:Int)) <|abS (bif (J events s5.2).aP then aag (((J events s5.2).Loc)==loc) else aag aaf) λs11=>bif s11 then gd (aR (s5.1.length+1) 8) <|aag (s5.1++[s5.2]) else aag s5.1) λs9=>gd (ZU .i64<|s5.2+(1:Int)) <|aag (.inl (s9,(s5.2+(1:Int)))) else aag (.inr s5.1)
def gT(events:List ZY)(loc:Int):Option (LI):=abS (aA (uD events loc) (([]:LI),(0:Int))) λs1=>aag s1
def kQ(i:Int)(v3:(LL))(s4:(LI))(s12:(LL)×Int):LS ((LL)×Int) (LL):=λs20=>abS (bif aai (s20.2<(v3.length:Int)) then gd (aai<|0<=s12.2/\s12.2<(s4.length:Int)) <|aag ((J s4 s12.2) != i) else aag aaf) λs23=>bif s23 then gd (aai<|0<=s12.2/\s12.2<(s4.length:Int)) <|gd (aai<|0<=s20.2/\s20.2<(v3.length:Int)) <|gd (aR (([(J s4 s12.2)]:LI).length+(J v3 s20.2).length) 8) <|gd (aR (s20.1.length+1) 24) <|gd (ZU .i64<|s20.2+(1:Int)) <|aag (.inl ((s20.1++[(([(J s4 s12.2)]:LI)++(J v3 s20.2))]),(s20.2+(1:Int)))) else aag (.inr s20.1)
def kR(i:Int)(v3:(LL))(s4:(LI)):LS ((LL)×Int) (LL):=λs12=>bif aai (s12.2<(s4.length:Int)) then abS (aA (kQ i v3 s4 s12) (s12.1,(0:Int))) λs16=>gd (ZU .i64<|s12.2+(1:Int)) <|aag (.inl (s16,(s12.2+(1:Int)))) else aag (.inr s12.1)
def gV(rcf:(List ZY)->Int->Option (LL))(events:List ZY)(i:Int):Option (LL):=bif (i==(events.length:Int)) then aag ([([]:LI)]:LL) else gd (ZU .i64<|i+(1:Int)) <|abS (rcf events<|i+(1:Int)) λv3=>abS (gd (aai<|0<=i/\i<(events.length:Int)) <|bif (J events i).Reads then abS (gT events<|(J events i).Loc) λv7=>aag v7 else aag ([(-1:Int)]:LI)) λs4=>abS (aA (kR i v3 s4) (([]:LL),(0:Int))) λs8=>aag s8
def jy:Nat->(List ZY)->Int->Option (LL)
 |0=>λ_ _=>aah
 |n+1=>gV (jy n)
def qP(events:List ZY)(i:Int):Option (LL):=HT λnf=>jy nf events i
def vC(list:LI)(s6:(LL)×Int)(v16:(LL)):LS ((LL)×Int) (LL):=λs20=>bif aai (s20.2<(v16.length:Int)) then gd (aai<|0<=s6.2/\s6.2<(list.length:Int)) <|gd (aai<|0<=s20.2/\s20.2<(v16.length:Int)) <|gd (aR (([(J list s6.2)]:LI).length+(J v16 s20.2).length) 8) <|gd (aR (s20.1.length+1) 24) <|gd (ZU .i64<|s20.2+(1:Int)) <|aag (.inl ((s20.1++[(([(J list s6.2)]:LI)++(J v16 s20.2))]),(s20.2+(1:Int)))) else aag (.inr s20.1)
def qh(rcf:(LI)->Option (LL))(list:LI):((LL)×Int)->Option (((LL)×Int) ⊕ (LL)):=λs6=>bif aai (s6.2<(list.length:Int)) then abS (gd (aai<|0<=(0:Int)/\(0:Int)<=s6.2/\s6.2<=(list.length:Int)) <|gd (aR (([]:LI).length+((list.drop (0:Int).toNat).take<|s6.2.toNat-(0:Int).toNat).length) 8) <|gd (ZU .i64<|s6.2+(1:Int)) <|gd (aai<|0<=(s6.2+(1:Int))/\(s6.2+(1:Int))<=(list.length:Int)/\(list.length:Int)<=(list.length:Int)) <|gd (aR ((([]:LI)++((list.drop (0:Int).toNat).take<|s6.2.toNat-(0:Int).toNat)).length+((list.drop (s6.2+(1:Int)).toNat).take<|(list.length:Int).toNat-(s6.2+(1:Int)).toNat).length) 8) <|abS (rcf<|(([]:LI)++((list.drop (0:Int).toNat).take<|s6.2.toNat-(0:Int).toNat))++((list.drop (s6.2+(1:Int)).toNat).take<|(list.length:Int).toNat-(s6.2+(1:Int)).toNat)) λv16=>aA (vC list s6 v16) (s6.1,(0:Int))) λs10=>gd (ZU .i64<|s6.2+(1:Int)) <|aag (.inl (s10,(s6.2+(1:Int)))) else aag (.inr s6.1)
def gW(rcf:(LI)->Option (LL))(list:LI):Option (LL):=bif ((list.length:Int)==(0:Int)) then aag ([([]:LI)]:LL) else abS (aA (qh rcf list) (([]:LL),(0:Int))) λs2=>aag s2
def jJ:Nat->(LI)->Option (LL)
 |0=>λ_=>aah
 |n+1=>gW (jJ n)
def vS(list:LI):Option (LL):=HT λnf=>jJ nf list
def jm(v3:(List<|LL))(v4:(LI))(v6:(LL))(s11:(List<|LL)×Int):LS ((List<|LL)×Int) (List<|LL):=λs22=>bif aai (s22.2<(v3.length:Int)) then gd (aai<|0<=s22.2/\s22.2<(v3.length:Int)) <|gd (aR (([(([(J v4 (0:Int))]:LI)++(J v6 s11.2))]:LL).length+(J v3 s22.2).length) 24) <|gd (aR (s22.1.length+1) 24) <|gd (ZU .i64<|s22.2+(1:Int)) <|aag (.inl ((s22.1++[(([(([(J v4 (0:Int))]:LI)++(J v6 s11.2))]:LL)++(J v3 s22.2))]),(s22.2+(1:Int)))) else aag (.inr s22.1)
def jo(v3:(List<|LL))(v4:(LI))(v6:(LL)):LS ((List<|LL)×Int) (List<|LL):=λs11=>bif aai (s11.2<(v6.length:Int)) then abS (gd (aai<|0<=(0:Int)/\(0:Int)<(v4.length:Int)) <|gd (aai<|0<=s11.2/\s11.2<(v6.length:Int)) <|gd (aR (([(J v4 (0:Int))]:LI).length+(J v6 s11.2).length) 8) <|aA (jm v3 v4 v6 s11) (s11.1,(0:Int))) λs15=>gd (ZU .i64<|s11.2+(1:Int)) <|aag (.inl (s15,(s11.2+(1:Int)))) else aag (.inr s11.1)
def fU(rcf:(List ZY)->Int->Option (List<|LL))(events:List ZY)(loc:Int):Option (List<|LL):=bif aai ((2:Int)<loc) then aag ([([]:LL)]:List<|LL) else gd (ZU .i64<|loc+(1:Int)) <|abS (rcf events<|loc+(1:Int)) λv3=>abS (gT events loc) λv4=>gd (aai<|0<=(1:Int)/\(1:Int)<=(v4.length:Int)/\(v4.length:Int)<=(v4.length:Int)) <|abS (vS<|(v4.drop (1:Int).toNat).take<|(v4.length:Int).toNat-(1:Int).toNat) λv6=>abS (aA (jo v3 v4 v6) (([]:List<|LL),(0:Int))) λs7=>aag s7
def iU:Nat->(List ZY)->Int->Option (List<|LL)
 |0=>λ_ _=>aah
 |n+1=>fU (iU n)
def oK(events:List ZY)(loc:Int):Option (List<|LL):=HT λnf=>iU nf events loc
def rU(x:ZX):LS ((LL)×Int) (LL):=λs8=>bif aai (s8.2<(x.Order.length:Int)) then gd (aai<|0<=s8.2/\s8.2<(x.Order.length:Int)) <|gd (aR (([]:LI).length+(J x.Order s8.2).length) 8) <|gd (aR (s8.1.length+1) 24) <|gd (ZU .i64<|s8.2+(1:Int)) <|aag (.inl ((s8.1++[(([]:LI)++(J x.Order s8.2))]),(s8.2+(1:Int)))) else aag (.inr s8.1)
def oL(x:ZX):Option ZX:=gd (aR (([]:LI).length+x.From.length) 8) <|abS (aA (rU x) (([]:LL),(0:Int))) λs2=>aag (⟨(([]:LI)++x.From),s2⟩:ZX)
def m7(v2:(LL))(v3:(List<|LL))(s8:(List ZX)×Int):LS ((List ZX)×Int) (List ZX):=λs16=>bif aai (s16.2<(v3.length:Int)) then gd (aai<|0<=s8.2/\s8.2<(v2.length:Int)) <|gd (aai<|0<=s16.2/\s16.2<(v3.length:Int)) <|abS (oL (⟨(J v2 s8.2),(J v3 s16.2)⟩:ZX)) λv22=>gd (aR (s16.1.length+1) 48) <|gd (ZU .i64<|s16.2+(1:Int)) <|aag (.inl ((s16.1++[v22]),(s16.2+(1:Int)))) else aag (.inr s16.1)
def oM(v2:(LL))(v3:(List<|LL)):LS ((List ZX)×Int) (List ZX):=λs8=>bif aai (s8.2<(v2.length:Int)) then abS (aA (m7 v2 v3 s8) (s8.1,(0:Int))) λs12=>gd (ZU .i64<|s8.2+(1:Int)) <|aag (.inl (s12,(s8.2+(1:Int)))) else aag (.inr s8.1)
def vD(p:List<|List ZW):Option (List ZX):=abS (f9 p) λv1=>abS (qP v1 (0:Int)) λv2=>abS (oK v1 (0:Int)) λv3=>abS (aA (oM v2 v3) (([]:List ZX),(0:Int))) λs4=>aag s4
def yY(p:List<|List ZW)(events:List ZY)(t:Int)(index:Int)(reg:Int):LS (Int×Int) Int:=λs4=>bif aai (s4.1<(events.length:Int)) then abS (gd (aai<|0<=s4.1/\s4.1<(events.length:Int)) <|abS (bif (((J events s4.1).Thread)==t) then bif aai (((J events s4.1).Index)<index) then bif (J events s4.1).Reads then gd (aai<|0<=t/\t<(p.length:Int)) <|gd (aai<|0<=(J events s4.1).Index/\(J events s4.1).Index<((J p t).length:Int)) <|aag (((J (J p t)<|(J events s4.1).Index).Reg)==reg) else aag aaf else aag aaf else aag aaf) λs9=>bif s9 then aag s4.1 else aag s4.2) λs7=>gd (ZU .i64<|s4.1+(1:Int)) <|aag (.inl ((s4.1+(1:Int)),s7)) else aag (.inr s4.2)
def rI(p:List<|List ZW)(events:List ZY)(t:Int)(index:Int)(reg:Int):Option Int:=abS (aA (yY p events t index reg) ((0:Int),(-1:Int))) λs1=>aag s1
def mK(p:List<|List ZW)(events:List ZY)(x:ZX)(i:Int)(known:LI):Option Int:=gd (aai<|0<=i/\i<(events.length:Int)) <|bif aai (((J events i).Thread)<(0:Int)) then aag (0:Int) else gd (aai<|0<=(J events i).Thread/\(J events i).Thread<(p.length:Int)) <|gd (aai<|0<=(J events i).Index/\(J events i).Index<((J p<|(J events i).Thread).length:Int)) <|bif (((J (J p<|(J events i).Thread)<|(J events i).Index).Op) != (3:Int)) then aag ((J (J p<|(J events i).Thread)<|(J events i).Index).Val) else abS (rI p events ((J events i).Thread) ((J events i).Index)<|(J (J p<|(J events i).Thread)<|(J events i).Index).Reg) λv6=>bif aai (v6<(0:Int)) then aag (0:Int) else gd (aai<|0<=v6/\v6<(x.From.length:Int)) <|gd (aai<|0<=(J x.From v6)/\(J x.From v6)<(known.length:Int)) <|aag<|J known<|J x.From v6
def vE(v1:(List ZY)):LS ((LI)×Int) (LI):=λs6=>bif aai (s6.2<(v1.length:Int)) then gd (aR (s6.1.length+1) 8) <|gd (ZU .i64<|s6.2+(1:Int)) <|aag (.inl ((s6.1++[(-1:Int)]),(s6.2+(1:Int)))) else aag (.inr s6.1)
def nL(p:List<|List ZW)(x:ZX)(v1:(List ZY)):LS ((LI)×Int) (LI):=λs25=>bif aai (s25.2<(v1.length:Int)) then abS (gd (aai<|0<=s25.2/\s25.2<(v1.length:Int)) <|bif (J v1 s25.2).aP then abS (mK p v1 x s25.2 s25.1) λv32=>gd (aai<|0<=s25.2/\s25.2<(s25.1.length:Int)) <|aag (s25.1.set s25.2.toNat v32) else aag s25.1) λs29=>gd (ZU .i64<|s25.2+(1:Int)) <|aag (.inl (s29,(s25.2+(1:Int)))) else aag (.inr s25.1)
def uE(p:List<|List ZW)(x:ZX)(v1:(List ZY)):LS ((LI)×Int) (LI):=λs17=>bif aai (s17.2<(v1.length:Int)) then abS (aA (nL p x v1) (s17.1,(0:Int))) λs21=>gd (ZU .i64<|s17.2+(1:Int)) <|aag (.inl (s21,(s17.2+(1:Int)))) else aag (.inr s17.1)
def uF(v1:(List ZY))(s13:(LI)):LS Int (Unit ⊕ ((LI)×Bool)):=λs42=>bif aai (s42<(v1.length:Int)) then gd (aai<|0<=s42/\s42<(v1.length:Int)) <|abS (bif (J v1 s42).aP then gd (aai<|0<=s42/\s42<(s13.length:Int)) <|aag (aai<|(J s13 s42)<(0:Int)) else aag aaf) λs46=>bif s46 then aag (.inr<|.inr (s13,aaf)) else gd (ZU .i64<|s42+(1:Int)) <|aag (.inl<|s42+(1:Int)) else aag (.inr<|.inl ())
def dY(p:List<|List ZW)(x:ZX):Option ((LI)×Bool):=abS (f9 p) λv1=>abS (aA (vE v1) (([]:LI),(0:Int))) λs2=>abS (aA (uE p x v1) (s2,(0:Int))) λs13=>sumK (aA (uF v1 s13) (0:Int)) λs39=>aag (s13,aae)
def wH(list:LI)(n:Int):LS Int (Unit ⊕ Int):=λs4=>bif aai (s4<(list.length:Int)) then gd (aai<|0<=s4/\s4<(list.length:Int)) <|bif ((J list s4)==n) then aag (.inr<|.inr s4) else gd (ZU .i64<|s4+(1:Int)) <|aag (.inl<|s4+(1:Int)) else aag (.inr<|.inl ())
def mL(list:LI)(n:Int):Option Int:=sumK (aA (wH list n) (0:Int)) λs1=>aag (-1:Int)
def dZ(x:ZX)(loc:Int)(i:Int)(k_:Int):Option Bool:=gd (aai<|0<=loc/\loc<(x.Order.length:Int)) <|abS (mL (J x.Order loc) i) λv2=>abS (mL (J x.Order loc) k_) λv3=>aag<|aai<|v2<v3
def wI(list:List ZW)(to:Int):LS Int (Unit ⊕ Bool):=λs5=>bif aai (s5<to) then gd (aai<|0<=s5/\s5<(list.length:Int)) <|bif (((J list s5).Op)==(4:Int)) then aag (.inr<|.inr aae) else gd (ZU .i64<|s5+(1:Int)) <|aag (.inl<|s5+(1:Int)) else aag (.inr<|.inl ())
def ko(list:List ZW)(from_:Int)(to:Int):Option Bool:=sumK (gd (ZU .i64<|from_+(1:Int)) <|aA (wI list to)<|from_+(1:Int)) λs1=>aag aaf
def fG(p:List<|List ZW)(x:ZX)(events:List ZY)(name:BA)(i:Int)(k_:Int):Option Bool:=gd (aai<|0<=i/\i<(events.length:Int)) <|gd (aai<|0<=k_/\k_<(events.length:Int)) <|abS (bif (((J events i).Thread)==((J events k_).Thread)) then aag (aai<|(0:Int)<=((J events i).Thread)) else aag aaf) λs3=>sumK (bif aai (name=(⟨#[112,111]⟩:BA)) then abS (bif s3 then aag (aai<|((J events i).Index)<((J events k_).Index)) else aag aaf) λs7=>aag (.inr s7) else bif aai (name=(⟨#[108,111,99]⟩:BA)) then aag (.inr<|((J events i).Loc)==((J events k_).Loc)) else bif aai (name=(⟨#[101,120,116]⟩:BA)) then aag (.inr<|!s3) else bif aai (name=(⟨#[114,102]⟩:BA)) then abS (bif (J events k_).Reads then gd (aai<|0<=k_/\k_<(x.From.length:Int)) <|aag ((J x.From k_)==i) else aag aaf) λs12=>aag (.inr s12) else bif aai (name=(⟨#[99,111]⟩:BA)) then abS (bif (J events i).aP then aag ((J events k_).aP) else aag aaf) λs16=>abS (bif s16 then aag (((J events i).Loc)==((J events k_).Loc)) else aag aaf) λs18=>abS (bif s18 then abS (dZ x ((J events i).Loc) i k_) λv22=>aag v22 else aag aaf) λs20=>aag (.inr s20) else bif aai (name=(⟨#[102,114]⟩:BA)) then abS (bif (J events i).Reads then bif (J events k_).aP then bif (((J events i).Loc)==((J events k_).Loc)) then bif (i != k_) then gd (aai<|0<=i/\i<(x.From.length:Int)) <|abS (dZ x ((J events i).Loc) (J x.From i) k_) λv30=>aag v30 else aag aaf else aag aaf else aag aaf else aag aaf) λs24=>aag (.inr s24) else bif aai (name=(⟨#[102,101,110,99,101]⟩:BA)) then abS (bif s3 then bif aai (((J events i).Index)<((J events k_).Index)) then gd (aai<|0<=(J events i).Thread/\(J events i).Thread<(p.length:Int)) <|abS (ko (J p<|(J events i).Thread) ((J events i).Index)<|(J events k_).Index) λv36=>aag v36 else aag aaf else aag aaf) λs32=>aag (.inr s32) else bif aai (name=(⟨#[119,114]⟩:BA)) then abS (bif (J events i).aP then aag (!((J events i).Reads)) else aag aaf) λs38=>abS (bif s38 then aag ((J events k_).Reads) else aag aaf) λs40=>abS (bif s40 then aag (!((J events k_).aP)) else aag aaf) λs42=>aag (.inr s42) else bif aai (name=(⟨#[119,119]⟩:BA)) then abS (bif (J events i).aP then aag (!((J events i).Reads)) else aag aaf) λs45=>abS (bif s45 then aag ((J events k_).aP) else aag aaf) λs47=>abS (bif s47 then aag (!((J events k_).Reads)) else aag aaf) λs49=>aag (.inr s49) else aag (.inl ())) λs5=>abS (bif aai (name=(⟨#[105,100]⟩:BA)) then aag (i==k_) else aag aaf) λs51=>aag s51
def xQ(p:List<|List ZW)(x:ZX)(name:BA)(v1:(List ZY))(s6:(LI)×Int):LS (Int×Int) Int:=λs14=>bif aai (s14.1<(v1.length:Int)) then abS (abS (fG p x v1 name s6.2 s14.1) λv18=>bif v18 then gd (aai<|0<=s14.1) <|aag (bOr .i64 s14.2<|ME .i64 (1:Int) s14.1) else aag s14.2) λs17=>gd (ZU .i64<|s14.1+(1:Int)) <|aag (.inl ((s14.1+(1:Int)),s17)) else aag (.inr s14.2)
def yZ(p:List<|List ZW)(x:ZX)(name:BA)(v1:(List ZY)):LS ((LI)×Int) (LI):=λs6=>bif aai (s6.2<(v1.length:Int)) then abS (abS (aA (xQ p x name v1 s6) ((0:Int),(0:Int))) λs11=>gd (aR (s6.1.length+1) 8) <|aag<|s6.1++[s11]) λs10=>gd (ZU .i64<|s6.2+(1:Int)) <|aag (.inl (s10,(s6.2+(1:Int)))) else aag (.inr s6.1)
def ik(p:List<|List ZW)(x:ZX)(name:BA):Option (LI):=abS (f9 p) λv1=>abS (aA (yZ p x name v1) (([]:LI),(0:Int))) λs2=>aag s2
def jd(r_:LI)(i:Int)(k_:Int):Option Bool:=gd (aai<|0<=i/\i<(r_.length:Int)) <|gd (aai<|0<=k_) <|aag<|(jc .i64 (mZ .i64 (J r_ i) k_) (1:Int))==(1:Int)
def sJ(r_:LI)(s6:(LI)×Int):LS ((LI)×Int) (LI):=λs14=>bif aai (s14.2<(r_.length:Int)) then abS (abS (jd r_ s6.2 s14.2) λv19=>bif v19 then gd (aai<|0<=s14.2/\s14.2<(s14.1.length:Int)) <|gd (aai<|0<=s6.2) <|aag (s14.1.set s14.2.toNat<|bOr .i64 (J s14.1 s14.2)<|ME .i64 (1:Int) s6.2) else aag s14.1) λs18=>gd (ZU .i64<|s14.2+(1:Int)) <|aag (.inl (s18,(s14.2+(1:Int)))) else aag (.inr s14.1)
def uG(r_:LI):LS ((LI)×Int) (LI):=λs6=>bif aai (s6.2<(r_.length:Int)) then abS (aA (sJ r_ s6) (s6.1,(0:Int))) λs10=>gd (ZU .i64<|s6.2+(1:Int)) <|aag (.inl (s10,(s6.2+(1:Int)))) else aag (.inr s6.1)
def m8(r_:LI):Option (LI):=gd (aai<|0<=(r_.length:Int)/\(r_.length:Int)<=(r_.length:Int)/\(r_.length:Int)*((8:Nat):Int)<=140737488355328/\(r_.length:Int)<=140737488355328) <|abS (aA (uG r_) ((abW (r_.length:Int).toNat (aad:Int)),(0:Int))) λs2=>aag s2
def mf(s6:(LI)×Int):LS ((LI)×Int) (LI):=λs14=>bif aai (s14.2<(s14.1.length:Int)) then abS (abS (jd s14.1 s14.2 s6.2) λv19=>bif v19 then gd (aai<|0<=s14.2/\s14.2<(s14.1.length:Int)) <|gd (aai<|0<=s6.2/\s6.2<(s14.1.length:Int)) <|aag (s14.1.set s14.2.toNat<|bOr .i64 (J s14.1 s14.2)<|J s14.1 s6.2) else aag s14.1) λs18=>gd (ZU .i64<|s14.2+(1:Int)) <|aag (.inl (s18,(s14.2+(1:Int)))) else aag (.inr s14.1)
def uH:LS ((LI)×Int) (LI):=λs6=>bif aai (s6.2<(s6.1.length:Int)) then abS (aA (mf s6) (s6.1,(0:Int))) λs10=>gd (ZU .i64<|s6.2+(1:Int)) <|aag (.inl (s10,(s6.2+(1:Int)))) else aag (.inr s6.1)
def jS(r_:LI):Option (LI):=gd (aR (([]:LI).length+r_.length) 8) <|abS (aA uH ((([]:LI)++r_),(0:Int))) λs2=>aag s2
def qi(a:LI)(b:LI):LS ((LI)×Int) (LI):=λs5=>bif aai (s5.2<(a.length:Int)) then gd (aai<|0<=s5.2/\s5.2<(a.length:Int)) <|gd (aai<|0<=s5.2/\s5.2<(b.length:Int)) <|gd (aR (s5.1.length+1) 8) <|gd (ZU .i64<|s5.2+(1:Int)) <|aag (.inl ((s5.1++[(bOr .i64 (J a s5.2)<|J b s5.2)]),(s5.2+(1:Int)))) else aag (.inr s5.1)
def qQ(a:LI)(b:LI):Option (LI):=abS (aA (qi a b) (([]:LI),(0:Int))) λs1=>aag s1
def rV(a:LI)(b:LI):LS ((LI)×Int) (LI):=λs5=>bif aai (s5.2<(a.length:Int)) then gd (aai<|0<=s5.2/\s5.2<(a.length:Int)) <|gd (aai<|0<=s5.2/\s5.2<(b.length:Int)) <|gd (aR (s5.1.length+1) 8) <|gd (ZU .i64<|s5.2+(1:Int)) <|aag (.inl ((s5.1++[(jc .i64 (J a s5.2)<|J b s5.2)]),(s5.2+(1:Int)))) else aag (.inr s5.1)
def sZ(a:LI)(b:LI):Option (LI):=abS (aA (rV a b) (([]:LI),(0:Int))) λs1=>aag s1
def l6(a:LI)(b:LI):LS ((LI)×Int) (LI):=λs5=>bif aai (s5.2<(a.length:Int)) then gd (aai<|0<=s5.2/\s5.2<(a.length:Int)) <|gd (aai<|0<=s5.2/\s5.2<(b.length:Int)) <|gd (aR (s5.1.length+1) 8) <|gd (ZU .i64<|s5.2+(1:Int)) <|aag (.inl ((s5.1++[(p5 .i64 (J a s5.2)<|J b s5.2)]),(s5.2+(1:Int)))) else aag (.inr s5.1)
def mM(a:LI)(b:LI):Option (LI):=abS (aA (l6 a b) (([]:LI),(0:Int))) λs1=>aag s1
def sK(a:LI)(b:LI)(s5:(LI)×Int):LS (Int×Int) Int:=λs13=>bif aai (s13.1<(a.length:Int)) then abS (abS (jd a s5.2 s13.1) λv17=>bif v17 then gd (aai<|0<=s13.1/\s13.1<(b.length:Int)) <|aag (bOr .i64 s13.2<|J b s13.1) else aag s13.2) λs16=>gd (ZU .i64<|s13.1+(1:Int)) <|aag (.inl ((s13.1+(1:Int)),s16)) else aag (.inr s13.2)
def nM(a:LI)(b:LI):LS ((LI)×Int) (LI):=λs5=>bif aai (s5.2<(a.length:Int)) then abS (abS (aA (sK a b s5) ((0:Int),(0:Int))) λs10=>gd (aR (s5.1.length+1) 8) <|aag<|s5.1++[s10]) λs9=>gd (ZU .i64<|s5.2+(1:Int)) <|aag (.inl (s9,(s5.2+(1:Int)))) else aag (.inr s5.1)
def m9(a:LI)(b:LI):Option (LI):=abS (aA (nM a b) (([]:LI),(0:Int))) λs1=>aag s1
def d9(rcf:(List<|List ZW)->ZX->aa->Option (LI))(p:List<|List ZW)(x:ZX)(e_:aa):Option (LI):=bif (e_.Op==(1:Int)) then abS (ik p x e_.Name) λv2=>aag v2 else gd (aai<|0<=(0:Int)/\(0:Int)<(e_.Kids.length:Int)) <|abS (rcf p x<|(J e_.Kids (0:Int)).out) λv4=>bif (e_.Op==(6:Int)) then abS (m8 v4) λv6=>aag v6 else bif (e_.Op==(7:Int)) then abS (jS v4) λv8=>aag v8 else gd (aai<|0<=(1:Int)/\(1:Int)<(e_.Kids.length:Int)) <|abS (rcf p x<|(J e_.Kids (1:Int)).out) λv10=>bif (e_.Op==(2:Int)) then abS (qQ v4 v10) λv12=>aag v12 else bif (e_.Op==(3:Int)) then abS (sZ v4 v10) λv14=>aag v14 else bif (e_.Op==(4:Int)) then abS (mM v4 v10) λv16=>aag v16 else abS (m9 v4 v10) λv17=>aag v17
def eu:Nat->(List<|List ZW)->ZX->aa->Option (LI)
 |0=>λ_ _ _=>aah
 |n+1=>d9 (eu n)
def tj(p:List<|List ZW)(x:ZX)(e_:aa):Option (LI):=HT λnf=>eu nf p x e_
def CU(r_:LI):LS Int (Unit ⊕ Bool):=λs4=>bif aai (s4<(r_.length:Int)) then abS (jd r_ s4 s4) λv7=>bif v7 then aag (.inr<|.inr aaf) else gd (ZU .i64<|s4+(1:Int)) <|aag (.inl<|s4+(1:Int)) else aag (.inr<|.inl ())
def qR(r_:LI):Option Bool:=sumK (aA (CU r_) (0:Int)) λs1=>aag aae
def ng(r_:LI):Option Bool:=abS (jS r_) λv1=>abS (qR v1) λv2=>aag v2
def vF(r_:LI)(s4:Int×Int):LS (Int×Int) Int:=λs10=>bif aai (s10.1<(r_.length:Int)) then abS (abS (jd r_ s4.1 s10.1) λv14=>bif v14 then gd (ZU .i64<|s10.2+(1:Int)) <|aag (s10.2+(1:Int)) else aag s10.2) λs13=>gd (ZU .i64<|s10.1+(1:Int)) <|aag (.inl ((s10.1+(1:Int)),s13)) else aag (.inr s10.2)
def wJ(r_:LI):LS (Int×Int) Int:=λs4=>bif aai (s4.1<(r_.length:Int)) then abS (aA (vF r_ s4) ((0:Int),s4.2)) λs7=>gd (ZU .i64<|s4.1+(1:Int)) <|aag (.inl ((s4.1+(1:Int)),s7)) else aag (.inr s4.2)
def qW(r_:LI):Option Int:=abS (aA (wJ r_) ((0:Int),(0:Int))) λs1=>aag s1
def qX(kind:Int)(r_:LI):Option Bool:=bif (kind==(1:Int)) then abS (ng r_) λv2=>aag v2 else bif (kind==(2:Int)) then abS (qR r_) λv4=>aag v4 else abS (qW r_) λv5=>aag<|v5==(0:Int)
def vG(p:List<|List ZW)(x:ZX)(m:List ah):LS Int (Unit ⊕ Int):=λs4=>bif aai (s4<(m.length:Int)) then gd (aai<|0<=s4/\s4<(m.length:Int)) <|abS (tj p x<|(J m s4).Expr) λv8=>abS (qX ((J m s4).Kind) v8) λv9=>bif !v9 then aag (.inr<|.inr s4) else gd (ZU .i64<|s4+(1:Int)) <|aag (.inl<|s4+(1:Int)) else aag (.inr<|.inl ())
def lj(p:List<|List ZW)(x:ZX)(m:List ah):Option Int:=sumK (aA (vG p x m) (0:Int)) λs1=>aag (-1:Int)
def uI(p:List<|List ZW)(m:List ah)(v1:(List ZX)):LS ((List ZX)×Int) (List ZX):=λs6=>bif aai (s6.2<(v1.length:Int)) then abS (gd (aai<|0<=s6.2/\s6.2<(v1.length:Int)) <|abS (dY p<|J v1 s6.2) λv12=>abS (bif v12.2 then abS (lj p (J v1 s6.2) m) λv15=>aag (aai<|v15<(0:Int)) else aag aaf) λs13=>bif s13 then gd (aR (s6.1.length+1) 48) <|aag (s6.1++[(J v1 s6.2)]) else aag s6.1) λs10=>gd (ZU .i64<|s6.2+(1:Int)) <|aag (.inl (s10,(s6.2+(1:Int)))) else aag (.inr s6.1)
def jT(p:List<|List ZW)(m:List ah):Option (List ZX):=abS (vD p) λv1=>abS (aA (uI p m v1) (([]:List ZX),(0:Int))) λs2=>aag s2
def mg(p:List<|List ZW)(x:ZX)(values:LI)(v1:(List ZY))(s6:(LI)×Int):LS ((LI)×Int) (LI):=λs14=>bif aai (s14.2<=(2:Int)) then abS (gd (aai<|0<=s6.2/\s6.2<(p.length:Int)) <|abS (rI p v1 s6.2 ((J p s6.2).length:Int) s14.2) λv20=>bif aai (v20<(0:Int)) then gd (aR (s14.1.length+1) 8) <|aag (s14.1++[(0:Int)]) else gd (aai<|0<=v20/\v20<(x.From.length:Int)) <|gd (aai<|0<=(J x.From v20)/\(J x.From v20)<(values.length:Int)) <|gd (aR (s14.1.length+1) 8) <|aag<|s14.1++[(J values<|J x.From v20)]) λs18=>gd (ZU .i64<|s14.2+(1:Int)) <|aag (.inl (s18,(s14.2+(1:Int)))) else aag (.inr s14.1)
def nN(p:List<|List ZW)(x:ZX)(values:LI)(v1:(List ZY)):LS ((LI)×Int) (LI):=λs6=>bif aai (s6.2<(p.length:Int)) then abS (aA (mg p x values v1 s6) (s6.1,(0:Int))) λs10=>gd (ZU .i64<|s6.2+(1:Int)) <|aag (.inl (s10,(s6.2+(1:Int)))) else aag (.inr s6.1)
def mh(x:ZX)(values:LI):LS ((LI)×Int) (LI):=λs35=>bif aai (s35.2<=(2:Int)) then gd (aai<|0<=s35.2/\s35.2<(x.Order.length:Int)) <|gd (ZU .i64<|((J x.Order s35.2).length:Int)-(1:Int)) <|gd (aai<|0<=(((J x.Order s35.2).length:Int)-(1:Int))/\(((J x.Order s35.2).length:Int)-(1:Int))<((J x.Order s35.2).length:Int)) <|gd (aai<|0<=(J (J x.Order s35.2)<|((J x.Order s35.2).length:Int)-(1:Int))/\(J (J x.Order s35.2)<|((J x.Order s35.2).length:Int)-(1:Int))<(values.length:Int)) <|gd (aR (s35.1.length+1) 8) <|gd (ZU .i64<|s35.2+(1:Int)) <|aag (.inl ((s35.1++[(J values<|J (J x.Order s35.2)<|((J x.Order s35.2).length:Int)-(1:Int))]),(s35.2+(1:Int)))) else aag (.inr s35.1)
def jV(p:List<|List ZW)(x:ZX)(values:LI):Option (LI):=abS (f9 p) λv1=>abS (aA (nN p x values v1) (([]:LI),(0:Int))) λs2=>abS (aA (mh x values) (s2,(0:Int))) λs31=>aag s31
def xS(a:LI)(b:LI):LS Int (Unit ⊕ Int):=λs4=>abS (bif aai (s4<(a.length:Int)) then aag (aai<|s4<(b.length:Int)) else aag aaf) λs6=>bif s6 then gd (aai<|0<=s4/\s4<(a.length:Int)) <|gd (aai<|0<=s4/\s4<(b.length:Int)) <|bif aai ((J a s4)<(J b s4)) then aag (.inr<|.inr (-1:Int)) else bif aai ((J b s4)<(J a s4)) then aag (.inr<|.inr (1:Int)) else gd (ZU .i64<|s4+(1:Int)) <|aag (.inl<|s4+(1:Int)) else aag (.inr<|.inl ())
def jp(a:LI)(b:LI):Option Int:=sumK (aA (xS a b) (0:Int)) λs1=>aag (0:Int)
def vH(p:List<|List ZW)(o_:LI)(v6:(List ZX)):LS Int (Unit ⊕ (ZX×Bool)):=λs10=>bif aai (s10<(v6.length:Int)) then gd (aai<|0<=s10/\s10<(v6.length:Int)) <|abS (dY p<|J v6 s10) λv14=>abS (jV p (J v6 s10) v14.1) λv15=>abS (jp v15 o_) λv16=>bif (v16==(0:Int)) then aag (.inr<|.inr ((⟨(J v6 s10).From,(J v6 s10).Order⟩:ZX),aae)) else gd (ZU .i64<|s10+(1:Int)) <|aag (.inl<|s10+(1:Int)) else aag (.inr<|.inl ())
def qY(p:List<|List ZW)(m:List ah)(o_:LI):Option (ZX×Bool):=abS (fZ p o_) λv1=>abS (bif !v1 then aag aae else abS (dN m) λv4=>aag<|!v4) λs2=>bif s2 then aag ((⟨([]:LI),([]:LL)⟩:ZX),aaf) else abS (jT p m) λv6=>sumK (aA (vH p o_ v6) (0:Int)) λs7=>aag ((⟨([]:LI),([]:LL)⟩:ZX),aaf)
def wK:LS (ByteArray×Int) (ByteArray×Int):=λs9=>bif aai ((9:Int)<s9.2) then gd (aai<|(10:Int)≠0) <|gd (ZU .i64<|(48:Int)+(s9.2.tmod (10:Int))) <|gd (ZU .u8<|(48:Int)+(s9.2.tmod (10:Int))) <|gd (aai<|(strOfNums ([((48:Int)+(s9.2.tmod (10:Int)))]:LI)).size+s9.1.size<=9223372036854775807) <|gd (ZU .i64<|s9.2.tdiv (10:Int)) <|aag (.inl (((strOfNums ([((48:Int)+(s9.2.tmod (10:Int)))]:LI))++s9.1),(s9.2.tdiv (10:Int)))) else aag (.inr (s9.1,s9.2))
def oO(rcf:Int->Option BA)(n:Int):Option BA:=bif aai (n<(-9223372036854775807:Int)) then aag (⟨#[45,57,50,50,51,51,55,50,48,51,54,56,53,52,55,55,53,56,48,56]⟩:BA) else bif aai (n<(0:Int)) then gd (ZU .i64<|0-n) <|abS (rcf<|0-n) λv4=>gd (aai<|(⟨#[45]⟩:BA).size+v4.size<=9223372036854775807) <|aag ((⟨#[45]⟩:BA)++v4) else abS (aA wK ((⟨#[]⟩:BA),n)) λs6=>gd (ZU .i64<|(48:Int)+s6.2) <|gd (ZU .u8<|(48:Int)+s6.2) <|gd (aai<|(strOfNums ([((48:Int)+s6.2)]:LI)).size+s6.1.size<=9223372036854775807) <|aag<|(strOfNums ([((48:Int)+s6.2)]:LI))++s6.1
def ll:Nat->Int->Option BA
 |0=>λ_=>aah
 |n+1=>oO (ll n)
def oP(n:Int):Option BA:=HT λnf=>ll nf n
def lq(from_:Int)(n:Int):Option BA:=gd (ZU .u8 n) <|gd (ZU .u8<|from_+n) <|aag<|strOfNums ([(from_+n)]:LI)
def tu(x:ZW):Option BA:=abS (lq (120:Int) x.Loc) λv1=>abS (lq (97:Int) x.Reg) λv2=>bif (x.Op==(1:Int)) then gd (aai<|v2.size+(⟨#[61]⟩:BA).size<=9223372036854775807) <|gd (aai<|(v2++(⟨#[61]⟩:BA)).size+v1.size<=9223372036854775807) <|aag ((v2++(⟨#[61]⟩:BA))++v1) else bif (x.Op==(2:Int)) then gd (aai<|v1.size+(⟨#[61]⟩:BA).size<=9223372036854775807) <|abS (oP x.Val) λv8=>gd (aai<|(v1++(⟨#[61]⟩:BA)).size+v8.size<=9223372036854775807) <|aag ((v1++(⟨#[61]⟩:BA))++v8) else bif (x.Op==(3:Int)) then gd (aai<|v1.size+(⟨#[61]⟩:BA).size<=9223372036854775807) <|gd (aai<|(v1++(⟨#[61]⟩:BA)).size+v2.size<=9223372036854775807) <|aag ((v1++(⟨#[61]⟩:BA))++v2) else bif (x.Op==(5:Int)) then gd (aai<|v2.size+(⟨#[61]⟩:BA).size<=9223372036854775807) <|gd (aai<|(v2++(⟨#[61]⟩:BA)).size+v1.size<=9223372036854775807) <|gd (aai<|((v2++(⟨#[61]⟩:BA))++v1).size+(⟨#[58]⟩:BA).size<=9223372036854775807) <|abS (oP x.Val) λv17=>gd (aai<|(((v2++(⟨#[61]⟩:BA))++v1)++(⟨#[58]⟩:BA)).size+v17.size<=9223372036854775807) <|aag ((((v2++(⟨#[61]⟩:BA))++v1)++(⟨#[58]⟩:BA))++v17) else aag (⟨#[102,101,110,99,101]⟩:BA)
def bW(a:LI)(b:LI):Option Bool:=abS (aN a b) λv1=>aag v1
def bL(s8:(LL)×Int):LS ((LL)×Int×Int) ((LL)×Int):=λs25=>bif aai (s25.2.1<((((s8.1.length:Int).toNat-s8.2.toNat):Nat):Int)) then abS (gd (aai<|(0<=s25.2.1/\s25.2.1<((((s8.1.length:Int).toNat-s8.2.toNat):Nat):Int))/\((0+s8.2.toNat)+s25.2.1.toNat)<s25.1.length) <|gd (ZU .i64<|s25.2.1-(1:Int)) <|gd (aai<|(0<=(s25.2.1-(1:Int))/\(s25.2.1-(1:Int))<((((s8.1.length:Int).toNat-s8.2.toNat):Nat):Int))/\((0+s8.2.toNat)+(s25.2.1-(1:Int)).toNat)<s25.1.length) <|abS (bW (s25.1.getD ((0+s8.2.toNat)+s25.2.1.toNat) aad)<|s25.1.getD ((0+s8.2.toNat)+(s25.2.1-(1:Int)).toNat) aad) λv33=>bif !v33 then gd (aai<|0<=s25.2.2/\s25.2.2<(s25.1.length:Int)) <|gd (ZU .i64<|s25.2.2+(1:Int)) <|aag ((s25.1.set s25.2.2.toNat<|s25.1.getD ((0+s8.2.toNat)+s25.2.1.toNat) aad),(s25.2.2+(1:Int))) else aag (s25.1,s25.2.2)) λs29=>gd (ZU .i64<|s25.2.1+(1:Int)) <|aag (.inl (s29.1,(s25.2.1+(1:Int)),s29.2)) else aag (.inr (s25.1,s25.2.2))
def bP:LS ((LL)×Int) ((LL) ⊕ (LL)):=λs8=>bif aai (s8.2<(s8.1.length:Int)) then sumK (gd (aai<|0<=s8.2/\s8.2<(s8.1.length:Int)) <|gd (ZU .i64<|s8.2-(1:Int)) <|gd (aai<|0<=(s8.2-(1:Int))/\(s8.2-(1:Int))<(s8.1.length:Int)) <|abS (bW (J s8.1 s8.2)<|s8.1.getD ((s8.2-(1:Int)).toNat) aad) λv18=>bif v18 then gd (aai<|0<=s8.2/\s8.2<=(s8.1.length:Int)/\(s8.1.length:Int)<=(s8.1.length:Int)) <|abS (aA (bL s8) (s8.1,(1:Int),s8.2)) λs21=>gd (aai<|0<=s21.2/\s21.2<=(s21.1.length:Int)/\(s21.1.length:Int)<=(s21.1.length:Int)) <|gd (aai<|0<=(0:Int)/\(0:Int)<=s21.2/\s21.2<=(s21.1.length:Int)) <|aag (.inr<|.inr<|.inr<|((cpy s21.1 (0+s21.2.toNat) (abW ((s21.1.length:Int).toNat-s21.2.toNat) (aad:LI))<|(s21.1.length:Int).toNat-s21.2.toNat).drop (0:Int).toNat).take<|s21.2.toNat-(0:Int).toNat) else aag (.inl ())) λs14=>gd (ZU .i64<|s8.2+(1:Int)) <|aag (.inl (s8.1,(s8.2+(1:Int)))) else aag (.inr<|.inl s8.1)
def aI(s:LL):Option (LL):=bif aai ((s.length:Int)<(2:Int)) then aag s else sumK (aA bP (s,(1:Int))) λs2=>aag s2
def il(list:LL):Option (LL):=abS (iM list) λv1=>abS (aI v1) λv2=>aag v2
def oQ(p:List<|List ZW)(v2:(List ZX)):LS ((LL)×Int) (LL):=λs8=>bif aai (s8.2<(v2.length:Int)) then gd (aai<|0<=s8.2/\s8.2<(v2.length:Int)) <|abS (di p (⟨(J v2 s8.2).From,(J v2 s8.2).Order⟩:ZX)) λv15=>gd (aR (s8.1.length+1) 24) <|gd (ZU .i64<|s8.2+(1:Int)) <|aag (.inl ((s8.1++[v15.1]),(s8.2+(1:Int)))) else aag (.inr s8.1)
def fu(p:List<|List ZW)(m:List ah):Option (LL):=abS (abS (dM p m) λv2=>aA (oQ p v2) (([]:LL),(0:Int))) λs1=>abS (il s1) λv21=>aag v21
def cn(s:LI)(v:Int):Option Bool:=abS (bQ s v) λv1=>aag<|aai<|(0:Int)<=v1
def sM(x:ZX)(v3:(List ZY)):LS Int (Unit ⊕ Bool):=λs10=>bif aai (s10<(v3.length:Int)) then gd (aai<|0<=s10/\s10<(v3.length:Int)) <|gd (aai<|0<=s10/\s10<(x.From.length:Int)) <|abS (bif !((J v3 s10).Reads) then aag ((J x.From s10) != (-1:Int)) else aag aaf) λs15=>abS (bif s15 then aag aae else abS (bif (J v3 s10).Reads then abS (bif ((J x.From s10)==s10) then aag aae else abS (dc v3<|(J v3 s10).Loc) λv23=>abS (cn v23<|J x.From s10) λv24=>aag<|!v24) λs21=>aag s21 else aag aaf) λs19=>aag s19) λs17=>bif s17 then aag (.inr<|.inr aaf) else gd (ZU .i64<|s10+(1:Int)) <|aag (.inl<|s10+(1:Int)) else aag (.inr<|.inl ())
def sN(x:ZX)(v3:(List ZY)):LS Int (Unit ⊕ Bool):=λs30=>bif aai (s30<(x.Order.length:Int)) then gd (aai<|0<=s30/\s30<(x.Order.length:Int)) <|abS (aH<|J x.Order s30) λv34=>abS (sU v34) λv38=>abS (dc v3 s30) λv39=>abS (aN v38 v39) λv40=>abS (bif !v40 then aag aae else gd (aai<|0<=(0:Int)/\(0:Int)<((J x.Order s30).length:Int)) <|aag<|(J (J x.Order s30) (0:Int)) != s30) λs41=>bif s41 then aag (.inr<|.inr aaf) else gd (ZU .i64<|s30+(1:Int)) <|aag (.inl<|s30+(1:Int)) else aag (.inr<|.inl ())
def jX(p:List<|List ZW)(x:ZX):Option Bool:=abS (aZ p) λv1=>bif !v1 then aag aaf else abS (fD p) λv3=>abS (bif ((x.From.length:Int) != (v3.length:Int)) then aag aae else aag ((x.Order.length:Int) != (3:Int))) λs4=>bif s4 then aag aaf else sumK (aA (sM x v3) (0:Int)) λs7=>sumK (aA (sN x v3) (0:Int)) λs27=>aag aae
def ni(p:List<|List ZW)(x:ZX):Option ((LI)×Bool):=abS (jX p x) λv1=>bif !v1 then aag (([]:LI),aaf) else abS (di p x) λv3=>aag (v3.1,v3.2)
def qj(x:LI)(y:LI):Option Bool:=abS (aN x y) λv1=>aag v1
def aV(s1_:LL)(s2_:LL):LS Int (Unit ⊕ Bool):=λs5=>bif aai (s5<(s1_.length:Int)) then gd (aai<|0<=s5/\s5<(s1_.length:Int)) <|gd (aai<|0<=s5/\s5<(s2_.length:Int)) <|abS (qj (J s1_ s5)<|J s2_ s5) λv10=>bif !v10 then aag (.inr<|.inr aaf) else gd (ZU .i64<|s5+(1:Int)) <|aag (.inl<|s5+(1:Int)) else aag (.inr<|.inl ())
def aJ(s1_:LL)(s2_:LL):Option Bool:=bif ((s1_.length:Int) != (s2_.length:Int)) then aag aaf else sumK (aA (aV s1_ s2_) (0:Int)) λs2=>aag aae
def gb(a:ZX)(b:ZX):Option Bool:=abS (aN a.From b.From) λv1=>abS (bif v1 then abS (aJ a.Order b.Order) λv4=>aag v4 else aag aaf) λs2=>aag s2
def jY(split:Bool):Option Int:=bif split then aag (3:Int) else aag (1:Int)
def qZ(p:List<|List ZW)(qG:Int):Option ZZ:=gd (aai<|0<=(p.length:Int)/\(p.length:Int)<=(p.length:Int)/\(p.length:Int)*((8:Nat):Int)<=140737488355328/\(p.length:Int)<=140737488355328) <|gd (ZU .i64<|(p.length:Int)*(3:Int)) <|gd (aai<|0<=((p.length:Int)*(3:Int))/\((p.length:Int)*(3:Int))<=((p.length:Int)*(3:Int))/\((p.length:Int)*(3:Int))*((8:Nat):Int)<=140737488355328/\((p.length:Int)*(3:Int))<=140737488355328) <|gd (aai<|0<=(3:Int)/\(3:Int)<=(3:Int)/\(3:Int)*((8:Nat):Int)<=140737488355328/\(3:Int)<=140737488355328) <|gd (aai<|0<=qG/\qG<=qG/\qG*((24:Nat):Int)<=140737488355328/\qG<=140737488355328) <|aag (⟨(abW (p.length:Int).toNat (aad:Int)),(abW ((p.length:Int)*(3:Int)).toNat (aad:Int)),(abW (3:Int).toNat (aad:Int)),(abW qG.toNat ([]:LI))⟩:ZZ)
def mN(p:List<|List ZW)(split:Bool):Option ZZ:=abS (jY split) λv1=>gd (ZU .i64<|(p.length:Int)*v1) <|abS (qZ p<|(p.length:Int)*v1) λv3=>aag (⟨v3.at_,v3.regs,v3.mem,v3.buf⟩:ZZ)
def F3(s:ZZ):LS ((LI)×Int) (LI):=λs5=>bif aai (s5.2<(s.at_.length:Int)) then gd (aai<|0<=s5.2/\s5.2<(s.at_.length:Int)) <|gd (ZU .u8<|J s.at_ s5.2) <|gd (aR (s5.1.length+1) 1) <|gd (ZU .i64<|s5.2+(1:Int)) <|aag (.inl ((s5.1++[(J s.at_ s5.2)]),(s5.2+(1:Int)))) else aag (.inr s5.1)
def Ef(s:ZZ):LS ((LI)×Int) (LI):=λs18=>bif aai (s18.2<(s.regs.length:Int)) then gd (aai<|0<=s18.2/\s18.2<(s.regs.length:Int)) <|gd (ZU .u8<|J s.regs s18.2) <|gd (aR (s18.1.length+1) 1) <|gd (ZU .i64<|s18.2+(1:Int)) <|aag (.inl ((s18.1++[(J s.regs s18.2)]),(s18.2+(1:Int)))) else aag (.inr s18.1)
def Eg(s:ZZ):LS ((LI)×Int) (LI):=λs31=>bif aai (s31.2<(s.mem.length:Int)) then gd (aai<|0<=s31.2/\s31.2<(s.mem.length:Int)) <|gd (ZU .u8<|J s.mem s31.2) <|gd (aR (s31.1.length+1) 1) <|gd (ZU .i64<|s31.2+(1:Int)) <|aag (.inl ((s31.1++[(J s.mem s31.2)]),(s31.2+(1:Int)))) else aag (.inr s31.1)
def xU(s:ZZ)(s44:(LI)×Int):LS ((LI)×Int) (LI):=λs53=>gd (aai<|0<=s44.2/\s44.2<(s.buf.length:Int)) <|bif aai (s53.2<((J s.buf s44.2).length:Int)) then gd (aai<|0<=s53.2/\s53.2<((J s.buf s44.2).length:Int)) <|gd (ZU .u8<|J (J s.buf s44.2) s53.2) <|gd (aR (s53.1.length+1) 1) <|gd (ZU .i64<|s53.2+(1:Int)) <|aag (.inl ((s53.1++[(J (J s.buf s44.2) s53.2)]),(s53.2+(1:Int)))) else aag (.inr s53.1)
def xW(s:ZZ):LS ((LI)×Int) (LI):=λs44=>bif aai (s44.2<(s.buf.length:Int)) then abS (gd (aR (s44.1.length+1) 1) <|aA (xU s s44) ((s44.1++[(255:Int)]),(0:Int))) λs48=>gd (ZU .i64<|s44.2+(1:Int)) <|aag (.inl (s48,(s44.2+(1:Int)))) else aag (.inr s44.1)
def je(s:ZZ):Option BA:=abS (aA (F3 s) (([]:LI),(0:Int))) λs1=>abS (aA (Ef s) (s1,(0:Int))) λs14=>abS (aA (Eg s) (s14,(0:Int))) λs27=>abS (aA (xW s) (s27,(0:Int))) λs40=>aag<|strOfNums s40
def xX(s:BA):LS (Int×Int) Int:=λs4=>bif aai (s4.1<(s.size:Int)) then gd (ZU .i64<|s4.2*(31:Int)) <|gd (aai<|0<=s4.1/\s4.1<(s.size:Int)) <|gd (ZU .i64 ((s.data.getD s4.1.toNat 0).toNat:Int)) <|gd (ZU .i64<|(s4.2*(31:Int))+((s.data.getD s4.1.toNat 0).toNat:Int)) <|gd (aai<|(4096:Int)≠0) <|gd (ZU .i64<|s4.1+(1:Int)) <|aag (.inl ((s4.1+(1:Int)),(((s4.2*(31:Int))+((s.data.getD s4.1.toNat 0).toNat:Int)).tmod (4096:Int)))) else aag (.inr s4.2)
def bX(s:BA):Option Int:=abS (aA (xX s) ((0:Int),(0:Int))) λs1=>aag s1
def wL(table:List<|List BA)(s:BA)(v1:Int):LS Int (Unit ⊕ Bool):=λs6=>bif aai (s6<((J table v1).length:Int)) then gd (aai<|0<=s6/\s6<((J table v1).length:Int)) <|bif aai ((J (J table v1) s6)=s) then aag (.inr<|.inr aae) else gd (ZU .i64<|s6+(1:Int)) <|aag (.inl<|s6+(1:Int)) else aag (.inr<|.inl ())
def fP(table:List<|List BA)(s:BA):Option Bool:=abS (bX s) λv1=>gd (aai<|0<=v1/\v1<(table.length:Int)) <|sumK (aA (wL table s v1) (0:Int)) λs3=>aag aaf
def wM(s:ZZ)(t:Int)(v1:Int):LS Int (Unit ⊕ Bool):=λs5=>bif aai (s5<v1) then gd (ZU .i64<|t*v1) <|gd (ZU .i64<|(t*v1)+s5) <|gd (aai<|0<=((t*v1)+s5)/\((t*v1)+s5)<(s.buf.length:Int)) <|bif aai ((0:Int)<((J s.buf<|(t*v1)+s5).length:Int)) then aag (.inr<|.inr aaf) else gd (ZU .i64<|s5+(1:Int)) <|aag (.inl<|s5+(1:Int)) else aag (.inr<|.inl ())
def rf(s:ZZ)(t:Int)(split:Bool):Option Bool:=abS (jY split) λv1=>sumK (aA (wM s t v1) (0:Int)) λs2=>aag aae
def jf(p:List<|List ZW)(s:ZZ)(split:Bool)(move:Int):Option Bool:=abS (bif aai (move<(0:Int)) then aag aae else gd (ZU .i64<|(p.length:Int)+(s.buf.length:Int)) <|aag<|aai<|((p.length:Int)+(s.buf.length:Int))<=move) λs1=>bif s1 then aag aaf else bif aai ((p.length:Int)<=move) then gd (ZU .i64<|move-(p.length:Int)) <|gd (aai<|0<=(move-(p.length:Int))/\(move-(p.length:Int))<(s.buf.length:Int)) <|aag (aai<|(0:Int)<((J s.buf<|move-(p.length:Int)).length:Int)) else gd (aai<|0<=move/\move<(s.at_.length:Int)) <|gd (aai<|0<=move/\move<(p.length:Int)) <|bif ((J s.at_ move)==((J p move).length:Int)) then aag aaf else gd (aai<|0<=(J s.at_ move)/\(J s.at_ move)<((J p move).length:Int)) <|abS (bif (((J (J p move)<|J s.at_ move).Op) != (4:Int)) then aag (((J (J p move)<|J s.at_ move).Op) != (5:Int)) else aag aaf) λs12=>abS (bif s12 then aag aae else abS (rf s move split) λv16=>aag v16) λs14=>aag s14
def xY(p:List<|List ZW)(s:ZZ):LS Int (Unit ⊕ Bool):=λs4=>bif aai (s4<(p.length:Int)) then gd (aai<|0<=s4/\s4<(s.at_.length:Int)) <|gd (aai<|0<=s4/\s4<(p.length:Int)) <|bif aai ((J s.at_ s4)<((J p s4).length:Int)) then aag (.inr<|.inr aaf) else gd (ZU .i64<|s4+(1:Int)) <|aag (.inl<|s4+(1:Int)) else aag (.inr<|.inl ())
def tz(p:List<|List ZW)(s:ZZ):Option Bool:=sumK (aA (xY p s) (0:Int)) λs1=>aag aae
def xZ(s:ZZ):LS Int (Unit ⊕ Bool):=λs4=>bif aai (s4<(s.buf.length:Int)) then gd (aai<|0<=s4/\s4<(s.buf.length:Int)) <|bif aai ((0:Int)<((J s.buf s4).length:Int)) then aag (.inr<|.inr aaf) else gd (ZU .i64<|s4+(1:Int)) <|aag (.inl<|s4+(1:Int)) else aag (.inr<|.inl ())
def jq(p:List<|List ZW)(s:ZZ):Option Bool:=sumK (aA (xZ s) (0:Int)) λs1=>abS (tz p s) λv10=>aag v10
def dm(s:ZZ):Option (LI):=gd (aR (([]:LI).length+s.regs.length) 8) <|gd (aR ((([]:LI)++s.regs).length+s.mem.length) 8) <|aag<|(([]:LI)++s.regs)++s.mem
def za(list:LL)(o_:LI):LS Int Int:=λs4=>abS (bif aai (s4<(list.length:Int)) then gd (aai<|0<=s4/\s4<(list.length:Int)) <|abS (jp (J list s4) o_) λv9=>aag (aai<|v9<(0:Int)) else aag aaf) λs6=>bif s6 then gd (ZU .i64<|s4+(1:Int)) <|aag (.inl<|s4+(1:Int)) else aag (.inr s4)
def jg(list:LL)(o_:LI):Option (LL):=abS (aA (za list o_) (0:Int)) λs1=>abS (bif aai (s1<(list.length:Int)) then gd (aai<|0<=s1/\s1<(list.length:Int)) <|abS (jp (J list s1) o_) λv15=>aag (v15==(0:Int)) else aag aaf) λs12=>bif s12 then aag list else gd (aai<|0<=(0:Int)/\(0:Int)<=s1/\s1<=(list.length:Int)) <|gd (aR (([]:LL).length+((list.drop (0:Int).toNat).take<|s1.toNat-(0:Int).toNat).length) 24) <|gd (aR ((([]:LL)++((list.drop (0:Int).toNat).take<|s1.toNat-(0:Int).toNat)).length+1) 24) <|gd (aai<|0<=s1/\s1<=(list.length:Int)/\(list.length:Int)<=(list.length:Int)) <|gd (aR (((([]:LL)++((list.drop (0:Int).toNat).take<|s1.toNat-(0:Int).toNat))++[o_]).length+((list.drop s1.toNat).take<|(list.length:Int).toNat-s1.toNat).length) 24) <|aag<|((([]:LL)++((list.drop (0:Int).toNat).take<|s1.toNat-(0:Int).toNat))++[o_])++((list.drop s1.toNat).take<|(list.length:Int).toNat-s1.toNat)
def fQ(t:Int)(loc:Int)(split:Bool):Option Int:=bif split then gd (ZU .i64<|t*(3:Int)) <|gd (ZU .i64<|(t*(3:Int))+loc) <|aag ((t*(3:Int))+loc) else aag t
def yc(s:ZZ)(loc:Int)(v1:Int):LS Int (Unit ⊕ Int):=λs7=>bif aai ((0:Int)<=s7) then gd (aai<|0<=s7/\s7<((J s.buf v1).length:Int)) <|bif ((J (J s.buf v1) s7)==loc) then gd (ZU .i64<|s7+(1:Int)) <|gd (aai<|0<=(s7+(1:Int))/\(s7+(1:Int))<((J s.buf v1).length:Int)) <|aag (.inr<|.inr<|J (J s.buf v1)<|s7+(1:Int)) else gd (ZU .i64<|s7-(2:Int)) <|aag (.inl<|s7-(2:Int)) else aag (.inr<|.inl ())
def oU(s:ZZ)(t:Int)(loc:Int)(split:Bool):Option Int:=abS (fQ t loc split) λv1=>gd (aai<|0<=v1/\v1<(s.buf.length:Int)) <|sumK (gd (ZU .i64<|((J s.buf v1).length:Int)-(2:Int)) <|aA (yc s loc v1)<|((J s.buf v1).length:Int)-(2:Int)) λs3=>gd (aai<|0<=loc/\loc<(s.mem.length:Int)) <|aag<|J s.mem loc
def lu(t:Int)(reg:Int):Option Int:=gd (ZU .i64<|t*(3:Int)) <|gd (ZU .i64<|(t*(3:Int))+reg) <|aag<|(t*(3:Int))+reg
def kr(s:ZZ)(t:Int)(x:ZW):Option Int:=bif (x.Op==(3:Int)) then abS (lu t x.Reg) λv2=>gd (aai<|0<=v2/\v2<(s.regs.length:Int)) <|aag (J s.regs v2) else aag x.Val
def Z1{α:Type}(x:Option α)(P:α->Prop):Prop:=∃v,x=aag v/\P v
section
variable{α β S E:Type}{P:α->Prop}{Q:β->Prop}{x y:Option α}
theorem Z1.pure{v:α}(h:P v):Z1 (aag v) P:=⟨v,rfl,h⟩
theorem Z1.mono{P':α->Prop}(h:Z1 x P)(k:∀v,P v->P' v):Z1 x P':=by
 obtain⟨v,e,p⟩:=h;exact⟨v,e,k v p⟩
theorem Z1.bind{o:Option α}{f:α->Option β}(h:Z1 o P)(k:∀v,P v->Z1 (f v) Q):Z1 (o.bind f) Q:=by
 obtain⟨v,rfl,p⟩:=h;exact k v p
theorem Z1.gd{b:Bool}(hb:b=aae)(h:Z1 x P):Z1 (gd b x) P:=by rw[gJ hb];exact h
theorem Z1.gdD{A:Prop}[Decidable A](hb:A)(h:Z1 x P):Z1 (Go.Proofs.YtoagamanbofngaaGreatDoor.gd (decide A) x) P:=Z1.gd (decide_eq_true hb) h
theorem Z1.gdI{n:Int}(hb : -9223372036854775808<=n/\n<=9223372036854775807)(h:Z1 x P):Z1 (Go.Proofs.YtoagamanbofngaaGreatDoor.gd (ZU .i64 n) x) P:=Z1.gd (DX hb) h
theorem Z1.gdY{n:Int}(hb:0<=n/\n<=255)(h:Z1 x P):Z1 (Go.Proofs.YtoagamanbofngaaGreatDoor.gd (ZU .u8 n) x) P:=Z1.gd (W8 hb) h
theorem Tx{n m:Nat}(hn:n<=1048576)(hm:Nat.ble m 1000=aae):aR n m=aae:=by
 have h1:=nlb hm;have h2:n*m<=1048576*1000:=ab8 hn h1;exact decide_eq_true ⟨by omega,by omega⟩
theorem Z1.gdC{n m:Nat}(hn:n<=1048576)(hm:Nat.ble m 1000=aae)(h:Z1 x P):Z1 (Go.Proofs.YtoagamanbofngaaGreatDoor.gd (aR n m) x) P:=Z1.gd (Tx hn hm) h
theorem Z1.bif{b:Bool}(h1:b=aae->Z1 x P)(h2:b=aaf->Z1 y P):Z1 (bif b then x else y) P:=by
 cases b with
 |true=>exact h1 rfl
 |false=>exact h2 rfl
theorem Z1.bifD{A:Prop}[Decidable A](h1:A->Z1 x P)(h2 : ¬ A->Z1 y P):Z1 (_root_.cond (decide A) x y) P:=
 Z1.bif (λh=>h1<|of_decide_eq_true h) (λh=>h2<|of_decide_eq_false h)
theorem Z1.sum{W:Type}{PS:S->Prop}{PW:W->Prop}{a:Option (S ⊕ W)}{f:S->Option W}(h:Z1 a λz=>match z with
  | .inl s=>PS s
  | .inr w=>PW w)(k:∀s,PS s->Z1 (f s) PW):Z1 (sumK a f) PW:=by
 obtain⟨v,rfl,p⟩:=h
 match v,p with
 | .inl s,p=>exact k s p
 | .inr w,p=>exact⟨w,rfl,p⟩
theorem Z1.loop{step:S->Option (S ⊕ E)}{R:E->Prop}(J:S->Prop)(mu:S->Nat){s0:S}(h0:J s0)(h:∀s,J s->Z1 (step s) λz=>match z with
  | .inl s'=>J s'/\mu s'<mu s
  | .inr x=>R x):Z1 (aA step s0) R:=by
 have key:∀(n:Nat)(s:S),mu s=n->J s->Z1 (aA step s) R:=by
  intro n
  induction n using Nat.strongRecOn with
  |_ n ih=>
   intro s hs hj;obtain⟨z,e,hz⟩:=h s hj;rw[Bz,e]
   match z,hz with
   | .inl s',hz=>exact ih (mu s') (by omega) s' rfl hz.1
   | .inr x,hz=>exact⟨x,rfl,hz⟩
 exact key _ s0 rfl h0
theorem Z1.eq{v:α}(h:Z1 x (· =v)):x=aag v:=by
 obtain⟨u,e,rfl⟩:=h;exact e
theorem Z1.of{v:α}(h:x=aag v)(p:P v):Z1 x P:=⟨v,h,p⟩
end
structure Mac(σ:Type) where
 mv:σ->LI
 af:σ->Int->σ
 ky:σ->BA
 dn:σ->Bool
 oc:σ->LI
section
variable{σ:Type}(M:Mac σ)
inductive Rea(s0:σ):σ->Prop
 |base:Rea s0 s0
 |step {s:σ} {m:Int} (h:Rea s0 s) (hm:m∈M.mv s):Rea s0 (M.af s m)
def Xi(s0:σ)(o:LI):Prop:=∃s,Rea M s0 s/\M.dn s=aae/\M.oc s=o
structure Mok(s0:σ)(N:Nat):Prop where
 key:∀s t,Rea M s0 s->Rea M s0 t->M.ky s=M.ky t->s=t
 cnt:∀V:List σ,V.Nodup->(∀v∈V,Rea M s0 v)->V.length<=N
variable{M}{s0:σ}{N:Nat}
def Done(M:Mac σ)(V:List σ)(outs:LL)(v:σ):Prop:=(∀m∈M.mv v,M.af v m∈V)/\(M.dn v=aae->M.oc v∈outs)
structure Srch(M:Mac σ)(s0:σ)(V stack:List σ)(outs:List (List Int))(cur:Option (σ×Nat)):Prop where
 rea:∀v∈V,Rea M s0 v
 base:s0∈V
 nd:V.Nodup
 sub:∀v∈stack,v∈V
 all:∀v∈V,v∈stack\/(∃n,cur=aag (v,n))\/Done M V outs v
 out:∀o∈outs,∃v∈V,M.dn v=aae/\M.oc v=o
 len:outs.length+stack.length<=V.length
 cur_:∀s n,cur=aag (s,n)->s∈V/\(M.dn s=aae->M.oc s∈outs)/\∀j,j<n->∀m,(M.mv s)[j]?=aag m->M.af s m∈V
theorem Srch.start:Srch M s0 [s0] [s0] [] aah where
 rea:=λv hv=>by rw[abX.1 hv];exact .base
 base:=abX.2 rfl
 nd:=by simp
 sub:=λv hv=>hv
 all:=λv hv=>.inl hv
 out:=nofun
 len:=by simp
 cur_:=nofun
theorem Srch.pop{V stack:List σ}{s:σ}{outs:LL}(h:Srch M s0 V (stack++[s]) outs aah){GQ:LL}(ho:GQ=if M.dn s then outs++[M.oc s] else outs):Srch M s0 V stack GQ (aag (s,0)) where
 rea:=h.rea
 base:=h.base
 nd:=h.nd
 sub:=λv hv=>h.sub v<|ab0 _ hv
 all:=λv hv=>by
  rcases h.all v hv with h1|⟨n,h1⟩|⟨h1,h2⟩
  .rcases ab1.1 h1 with h1|h1
   .exact .inl h1
   rw[abX.1 h1];exact .inr<|.inl ⟨0,rfl⟩
  .cases h1
  refine .inr<|.inr ⟨h1,λhd=>?_⟩;rw[ho]
  split
  .exact ab0 _<|h2 hd
  exact h2 hd
 out:=λo hm=>by
  rw[ho] at hm
  split at hm
  .rename_i hd;rcases ab1.1 hm with hm|hm
   .exact h.out o hm
   rw[abX.1 hm];exact⟨s,h.sub s<|ace _<|abX.2 rfl,hd,rfl⟩
  exact h.out o hm
 len:=by
  have:=h.len;rw[lla,acf] at this;rw[ho]
  split
  .rw[lla,acf];omega
  omega
 cur_:=λt n e=>by
  injection e with e;injection e with e1 e2;subst e1 e2;refine⟨h.sub s<|ace _<|abX.2 rfl,λhd=>?_,λj hj=>absurd hj<|by omega⟩;rw[ho,if_pos hd];exact ace _<|abX.2 rfl
theorem Srch.old{V stack:List σ}{s:σ}{outs:LL}{n:Nat}{m:Int}(h:Srch M s0 V stack outs<|aag (s,n))(hm:(M.mv s)[n]?=aag m)(hv:M.af s m∈V):Srch M s0 V stack outs (aag (s,n+1)) where
 rea:=h.rea
 base:=h.base
 nd:=h.nd
 sub:=h.sub
 all:=λv hv=>by
  rcases h.all v hv with h1|⟨k,h1⟩|h1
  .exact .inl h1
  .injection h1 with h1;injection h1 with h1 _;subst h1;exact .inr<|.inl ⟨n+1,rfl⟩
  exact .inr<|.inr h1
 out:=h.out
 len:=h.len
 cur_:=λt k e=>by
  injection e with e;injection e with e1 e2;subst e1 e2;obtain⟨g1,g2,g3⟩:=h.cur_ s n rfl;refine⟨g1,g2,λj hj m' hm'=>?_⟩;rcases ab4 j n with h'|h'
  .exact g3 j h' m' hm'
  obtain rfl:j=n:=by omega
  rw[hm] at hm';obtain rfl:=osl hm';exact hv
theorem Srch.new{V stack:List σ}{s:σ}{outs:LL}{n:Nat}{m:Int}(h:Srch M s0 V stack outs<|aag (s,n))(hm:(M.mv s)[n]?=aag m)(hv:M.af s m∉V):Srch M s0 (V++[M.af s m]) (stack++[M.af s m]) outs (aag (s,n+1)) where
 rea:=λv hv=>by
  rcases ab1.1 hv with hv|hv
  .exact h.rea v hv
  rw[abX.1 hv];exact .step (h.rea s (h.cur_ s n rfl).1)<|List.mem_of_getElem? hm
 base:=ab0 _ h.base
 nd:=by
  rw[List.nodup_append];exact⟨h.nd,by simp,λa ha b hb e=>hv<|by rw[<- abX.1 hb,<- e];exact ha⟩
 sub:=λv hv=>by
  rcases ab1.1 hv with hv|hv
  .exact ab0 _<|h.sub v hv
  exact ace _ hv
 all:=λv hv=>by
  rcases ab1.1 hv with hv|hv
  .rcases h.all v hv with h1|⟨k,h1⟩|⟨h1,h2⟩
   .exact .inl<|ab0 _ h1
   .injection h1 with h1;injection h1 with h1 _;subst h1;exact .inr<|.inl ⟨n+1,rfl⟩
   exact .inr<|.inr ⟨λm hm=>ab0 _<|h1 m hm,h2⟩
  exact .inl<|ace _ hv
 out:=λo ho=>by
  obtain⟨v,g1,g2⟩:=h.out o ho;exact⟨v,ab0 _ g1,g2⟩
 len:=by
  have:=h.len;simp only[lla,acf];omega
 cur_:=λt k e=>by
  injection e with e;injection e with e1 e2;subst e1 e2;obtain⟨g1,g2,g3⟩:=h.cur_ s n rfl;refine⟨ab0 _ g1,g2,λj hj m' hm'=>?_⟩;rcases ab4 j n with h'|h'
  .exact ab0 _<|g3 j h' m' hm'
  obtain rfl:j=n:=by omega
  rw[hm] at hm';obtain rfl:=osl hm';exact ace _<|abX.2 rfl
theorem Srch.fin{V stack:List σ}{s:σ}{outs:LL}{n:Nat}(h:Srch M s0 V stack outs<|aag (s,n))(hn:(M.mv s).length<=n):Srch M s0 V stack outs aah where
 rea:=h.rea
 base:=h.base
 nd:=h.nd
 sub:=h.sub
 all:=λv hv=>by
  rcases h.all v hv with h1|⟨k,h1⟩|h1
  .exact .inl h1
  .injection h1 with h1;injection h1 with h1 _;subst h1;obtain⟨_,g2,g3⟩:=h.cur_ s n rfl;refine .inr<|.inr ⟨λm hm=>?_,g2⟩;obtain⟨j,hj⟩:=List.getElem?_of_mem hm;exact g3 j (by have:=(ges hj).1;omega) m hj
  exact .inr<|.inr h1
 out:=h.out
 len:=h.len
 cur_:=nofun
theorem Srch.ends{V:List σ}{outs:LL}(h:Srch M s0 V [] outs aah):(∀o,o∈outs↔Xi M s0 o)/\∀v,v∈V↔Rea M s0 v:=by
 have all:∀v,Rea M s0 v->v∈V:=λv hv=>by
  induction hv with
  |base=>exact h.base
  |step _ hm ih=>
   rcases h.all _ ih with h1|⟨_,h1⟩|h1
   .cases h1
   .cases h1
   exact h1.1 _ hm
 refine⟨λo=>⟨λho=>?_,λ⟨s,h1,h2,h3⟩=>?_⟩,λv=>⟨h.rea v,all v⟩⟩
 .obtain⟨v,g1,g2,g3⟩:=h.out o ho;exact⟨v,h.rea v g1,g2,g3⟩
 rcases h.all s (all s h1) with h4|⟨_,h4⟩|h4
 .cases h4
 .cases h4
 rw[<- h3];exact h4.2 h2
end
section
variable{σ:Type}[Inhabited σ](mv:σ->Option (LI))(af:σ->Int->Option σ)(ky:σ->Option BA)(dn:σ->Option Bool)(oc:σ->Option (LI))(srt:LL->Option (LL))
variable{mv af ky dn oc srt}{M:Mac σ}{s0:σ}{N:Nat}
theorem Yt{n m:Nat}(hn:n<=1099511627776)(hm:Nat.ble m 32=aae):aR n m=aae:=by
 have h1:=nlb hm;have h2:n*m<=1099511627776*32:=ab8 hn h1;exact decide_eq_true ⟨by omega,by omega⟩
end
theorem IP:∀{l k:LI},(∀x∈l,0<=x/\x<=255)->(∀x∈k,0<=x/\x<=255)->strOfNums l=strOfNums k->l=k:=λ{l k}hl hk h=>by
 have h1:(l.map λn=>UInt8.ofNat n.toNat)=k.map λn=>UInt8.ofNat n.toNat:=by
  rw[<- strOfNums_data,<- strOfNums_data,h]
 have h2:(l.map λn=>UInt8.ofNat n.toNat).map (λb=>(b.toNat:Int))=(k.map λn=>UInt8.ofNat n.toNat).map (λb=>(b.toNat:Int)):=by rw[h1]
 have back:∀l:LI,(∀x∈l,0<=x/\x<=255)->(l.map λn=>UInt8.ofNat n.toNat).map (λb=>(b.toNat:Int))=l:=λl hl=>by
  rw[List.map_map]
  conv=>rhs;rw[<- List.map_id l]
  refine acC λx hx=>?_;have:=hl x hx;simp only[Function.comp,UInt8.toNat_ofNat',id];omega
 rwa [back l hl,back k hk] at h2
theorem Ty{σ:Type}(f:σ->Nat)(m:Nat):∀(V:List σ),V.Nodup->(∀v∈V,f v<m)->(∀u∈V,∀v∈V,f u=f v->u=v)->V.length<=m:=λV hn hl hi=>by
 have h1:(V.map f).Nodup:=by
  rw[List.nodup_iff_pairwise_ne] at hn ⊢;rw[List.pairwise_map];exact hn.imp_of_mem λ{a b}ha hb hne e=>hne<|hi a ha b hb e
 have:=acG h1 (l₂:=abT m) λx hx=>by
  obtain⟨v,hv,rfl⟩:=ab2.1 hx;exact ab9.2<|hl v hv
 simpa using this
def rdX(x:ZW):Bool:=x.Op==1||x.Op==5
def wrX(x:ZW):Bool:=x.Op==2||x.Op==3||x.Op==5
theorem Xj(x:ZW):Z1 (cT x) (· =rdX x):=by
 unfold cT rdX;exact Z1.bind (P:=(· =(x.Op==1||x.Op==5))) (.bif (λh=>.pure<|by rw[h];rfl) λh=>.pure<|by rw[h];rfl) λv hv=>.pure hv
theorem VC(x:ZW):Z1 (cF x) (· =wrX x):=by
 unfold cF wrX;exact Z1.bind (P:=(· =(x.Op==2||x.Op==3))) (.bif (λh=>.pure<|by rw[h];rfl) λh=>.pure<|by rw[h];rfl) λv hv=>Z1.bind (P:=(· =(x.Op==2||x.Op==3||x.Op==5))) (.bif (λh=>.pure<|by rw[<- hv,h];rfl) λh=>.pure<|by rw[<- hv,h];rfl) λv hv=>.pure hv
def Vs(p:List<|List ZW):Prop:=p.length<=3/\∀n,(p.getD n aad).length<=7
theorem Vs.of{p:List (List ZW)}(h:bh (p.map λr=>r.map cm)=aae):Vs p/\∀t k:Nat,t<p.length->k<(p.getD t aad).length->pQ (cm<|(p.getD t aad).getD k aad)=aae:=by
 simp only[bh,uk,bae,dte,List.all_eq_true,rowOk] at h;have hl:p.length<=3:=by simpa using h.1.1.1.1
 have hr:=h.1.1.1.2;refine⟨⟨hl,λn=>?_⟩,λt k ht hk=>?_⟩
 .by_cases hn:n<p.length
  .have e:p.getD n aad=p[n]:=by simp[hn]
   rw[e];have:=(hr (p[n].map cm)<|ab2.2 ⟨p[n],abZ hn,rfl⟩).1;simpa using this
  rw[gdq,gen (by omega)];exact abY _
 have e:p.getD t aad=p[t]:=by simp[ht]
 rw[e] at hk ⊢;have h1:=(hr (p[t].map cm)<|ab2.2 ⟨p[t],abZ ht,rfl⟩).2;have e2:p[t].getD k aad=p[t][k]:=by simp[hk]
 rw[e2];exact h1 _<|ab2.2 ⟨_,abZ hk,rfl⟩
def InR(x:ZW):Prop:=0<=x.Loc/\x.Loc<=2/\0<=x.Reg/\x.Reg<=2/\0<=x.Val/\x.Val<=3
theorem Qt{x:ZW}(h:pQ (cm x)=aae):InR x:=by
 obtain⟨o,l,r,v⟩:=x;unfold InR;simp only;unfold pQ cm at h;simp only[Z0] at h
 split at h
 .simp only[bae,dte,beq_iff_eq] at h;omega
 split at h
 .simp only[bae,dte,beq_iff_eq] at h;omega
 split at h
 .simp only[bae,dte,beq_iff_eq] at h;omega
 split at h
 .simp only[bae,dte] at h;omega
 cases h
structure PV(p:List (List ZW)):Prop where
 vs:Vs p
 pos:0<p.length
 ins:∀t k:Nat,t<p.length->k<(p.getD t aad).length->InR ((p.getD t aad).getD k aad)
theorem PV.of{p:List (List ZW)}(h:bh (p.map λr=>r.map cm)=aae):PV p:=by
 have h1:=Vs.of h;refine⟨h1.1,?_,λt k ht hk=>Qt<|h1.2 t k ht hk⟩;simp only[bh,bae,dte,llm] at h;exact h.1.2
theorem aK{n m:Nat}(hn:n<=4000000)(hm:Nat.ble m 1000=aae):aR n m=aae:=by
 have h1:=nlb hm;have h2:n*m<=4000000*1000:=ab8 hn h1;exact decide_eq_true ⟨by omega,by omega⟩
theorem MO(a:Z3b)(q i v:Int)(hq:0<=q/\q<=2)(hi:0<=i/\i<=2):Z3b.get (Z3b.set a q v) i=if i=q then v else Z3b.get a i:=by
 obtain⟨x,y,z⟩:=a;have h1:q=0\/q=1\/q=2:=by omega
 have h2:i=0\/i=1\/i=2:=by omega
 rcases h1 with rfl|rfl|rfl <;> rcases h2 with rfl|rfl|rfl <;> rfl
theorem Qu(a:Z33)(q i:Int)(v:Z3b)(hq:0<=q/\q<=2)(hi:0<=i/\i<=2):Z33.get (Z33.set a q v) i=if i=q then v else Z33.get a i:=by
 obtain⟨x,y,z⟩:=a;have h1:q=0\/q=1\/q=2:=by omega
 have h2:i=0\/i=1\/i=2:=by omega
 rcases h1 with rfl|rfl|rfl <;> rcases h2 with rfl|rfl|rfl <;> rfl
theorem Z1.sumR{S W:Type}{a:Option (S ⊕ W)}{f:S->Option W}{w:W}(h:Z1 a (· = .inr w)):Z1 (sumK a f) (· =w):=by
 obtain⟨v,rfl,rfl⟩:=h;exact⟨w,rfl,rfl⟩
def ltL(x y:LI):Prop:=cmpL x y<0
theorem VD{x y:LI}:leL x y=aae↔ltL x y\/x=y:=by
 unfold leL ltL;rw[dte];rcases xa x y with h|h|h
 .exact⟨λ_=>.inl h,λ_=>by have:=zM x y;omega⟩
 .exact⟨λ_=>.inr h,λ_=>by rw[h,uo];decide⟩
 refine⟨λg=>absurd h g,λg=>?_⟩;rcases g with g|g
 .have:=zM x y;omega
 rw[g,uo] at h;exact absurd h (by decide)
structure Sor(l q:List (List Int)):Prop where
 lt:q.Pairwise ltL
 mem:∀o,o∈q↔o∈l
 len:q.length<=l.length
theorem MP{l c:LL}{n:Nat}(hs:l.Pairwise λx y=>leL x y=aae)(h:c.Pairwise ltL)(hm:∀o,o∈c↔o∈l.take n)(h0:0<n)(hn:n<l.length)(hne:l.getD n aad≠l.getD (n-1) aad) :
  (c++[l.getD n aad]).Pairwise ltL/\∀o,o∈c++[l.getD n aad]↔o∈l.take (n+1):=by
 have e1:l.getD n aad=l[n]:=by simp[hn]
 have e2:l.getD (n-1) aad=l[n-1]:=by simp[List.getD,show n-1<l.length by omega]
 rw[e1] at hne ⊢;rw[e2] at hne;have hp:=List.pairwise_iff_getElem.1 hs;refine⟨acH.2 ⟨h,by simp,λy hy x hx=>?_⟩,λo=>?_⟩
 .rw[abX.1 hx];obtain⟨j,hj,rfl⟩:=acn<|(hm y).1 hy;have hjn:j<n:=Nat.lt_of_lt_of_le (show j<min n l.length by simpa using hj)<|Nat.min_le_left _ _;rw[List.getElem_take];rcases VD.1 (hp j n (by omega) hn hjn) with g|g
  .exact g
  exfalso;apply hne
  by_cases hj1:j=n-1
  .subst hj1;exact g.symm
  exact MN _ _ (g ▸ hp j (n-1) (by omega) (by omega) (by omega))<|hp (n-1) n (by omega) hn (by omega)
 rw[ab1,hm,acp,ab1,geq hn];simp
theorem MQ{l:LL}{n:Nat}(h0:0<n)(hn:n<l.length)(he:l.getD n aad=l.getD (n-1) aad)(o:LI):o∈l.take (n+1)↔o∈l.take n:=by
 have e1:l.getD n aad=l[n]:=by simp[hn]
 have e2:l.getD (n-1) aad=l[n-1]:=by simp[List.getD,show n-1<l.length by omega]
 rw[e1,e2] at he;rw[acp,ab1,geq hn];refine⟨λh=>h.elim id λh=>?_,.inl⟩;have : o=l[n-1]:=by simpa [he] using h
 rw[this];exact List.mem_iff_getElem.2 ⟨n-1,by simp;omega,by simp⟩
theorem Qv(a b:LI)(ha:a.length<=1048576):Z1 (aN a b) (· =aai (a=b)):=by
 unfold aN;refine .bif (λh=>.pure ?_) λh=>?_
 .have h:a.length≠b.length:=by
   intro e;rw[e] at h;simp at h
  rw[decide_eq_false (λe=>h<|by rw[e])]
 have h:a.length=b.length:=by
  have : (a.length:Int)=(b.length:Int):=by simpa using h
  omega
 refine Z1.sum (PS:=λ_=>a=b) (PW:=λv=>v=aai (a=b)) ?_ λ_ he=>.pure (by rw[decide_eq_true he]);refine Z1.loop (λi=>0<=i/\i<=(a.length:Int)/\∀j:Nat,(j:Int)<i->a[j]?=b[j]?) (λi=>((a.length:Int)-i).toNat) ⟨ab3 _,by omega,λj hj=>absurd hj<|by omega⟩ λi ⟨h1,h2,h3⟩=>?_;unfold dV J;refine .bifD (λhlt=>.gdD ⟨h1,hlt⟩<|.gdD ⟨h1,by omega⟩ ?_) λhge=>.pure ?_
 .have hi:i.toNat<a.length:=by omega
  have hib:i.toNat<b.length:=by omega
  have ea:a.getD i.toNat aad=a[i.toNat]:=by simp[hi]
  have eb:b.getD i.toNat aad=b[i.toNat]:=by simp[hib]
  rw[ea,eb];refine .bif (λhb=>.pure ?_) λhb=>.gdI (by omega)<|.pure ⟨⟨by omega,by omega,λj hj=>?_⟩,by omega⟩
  .simp only[bne_iff_ne] at hb;have : a≠b:=λe=>hb (by simp[e]);simp only[];rw[decide_eq_false this]
  by_cases ej:j=i.toNat
  .subst ej;rw[geq hi,geq hib];have : a[i.toNat]=b[i.toNat]:=by simpa using hb
   rw[this]
  exact h3 j (by omega)
 simp only[];apply List.ext_getElem?;intro j;rcases ab4 j a.length with g|g
 .exact h3 j (by omega)
 rw[gen g,gen (by omega)]
theorem Qw(a b:LI)(ha:a.length<=1048576):Z1 (bW a b) (· =aai (a=b)):=by
 unfold bW;exact(Qv a b ha).bind λv hv=>.pure hv
theorem Lg{l:LL}(hs:l.Pairwise λx y=>leL x y=aae)(hl:l.length<=1099511627776)(hr:∀r∈l,r.length<=1048576):Z1 (aI l) (Sor l):=by
 have hrD:∀n,(l.getD n aad).length<=1048576:=λn=>by
  by_cases hn:n<l.length
  .have : l.getD n aad=l[n]:=by simp[hn]
   rw[this];exact hr _<|abZ hn
  rw[gdq,gen (by omega)];exact abY _
 unfold aI;refine .bifD (λh=>.pure ⟨?_,λ_=>Iff.rfl,abV _⟩) λh=>?_
 .match l,h with
  |[],_=>exact .nil
  |[x],_=>simp
  |_::_::_,h=>simp at h;omega
 have h2:2<=l.length:=by omega
 refine Z1.sum (PS:=λq=>Sor l q) (PW:=λq=>Sor l q) ?_ λq hq=>.pure hq;refine Z1.loop (λs=>s.1=l/\1<=s.2/\s.2<=(l.length:Int)/\(l.take s.2.toNat).Pairwise ltL) (λs=>((l.length:Int)-s.2).toNat) ⟨rfl,ab3 _,by simp only[];omega,?_⟩ λs ⟨e,h1,h3,h4⟩=>?_
 .match l,h2 with
  |x::_,_=>simp
 obtain⟨c,k⟩:=s;simp only at e h1 h3 h4;subst e;unfold bP;simp only[];refine .bifD (λhlt=>?_) λhge=>.pure ?_
 rotate_left
 .have : k.toNat=c.length:=by omega
  rw[this,ack] at h4;exact⟨h4,λ_=>Iff.rfl,abV _⟩
 have hk1:(k-1).toNat=k.toNat-1:=by omega
 refine Z1.sum (PS:=λ_=>c.getD k.toNat aad≠c.getD (k.toNat-1) aad) ?_ λ_ hne=>.gdI (by omega)<|.pure ⟨⟨rfl,by simp only[];omega,by simp only[];omega,?_⟩,by simp only[];omega⟩
 rotate_left
 .have:=(MP hs h4 (λ_=>Iff.rfl) (by omega) (by omega) hne).1;simp only[];rw[show(k+1).toNat=k.toNat+1 by omega,acp,geq (by omega)];rw[show c.getD k.toNat aad=c[k.toNat]'(by omega) by simp[show k.toNat<c.length by omega]] at this;simpa using this
 refine .gdD ⟨by omega,hlt⟩<|.gdI (by omega)<|.gdD ⟨by omega,by omega⟩<|(Qw _ _<|hrD _).bind λv hv=>?_;subst hv;rw[hk1];refine .bifD (λhe=>?_) λhne=>.pure hne;refine .gdD ⟨by omega,by omega,ab3 _⟩ ?_;refine Z1.bind (P:=λz=>(k<=z.2/\z.2<=(c.length:Int))/\z.1.length=c.length/\(z.1.take z.2.toNat).Pairwise ltL/\∀o,o∈z.1.take z.2.toNat↔o∈c) ?_ λz ⟨⟨z1,z2⟩,z3,z4,z5⟩=>.gdD ⟨by omega,by omega,ab3 _⟩<|.gdD ⟨ab3 _,by omega,by omega⟩<|.pure ?_
 rotate_left
 .have e1:(((cpy z.1 (0+z.2.toNat) (abW ((z.1.length:Int).toNat-z.2.toNat) (aad:LI))<|(z.1.length:Int).toNat-z.2.toNat).drop (0:Int).toNat).take<|z.2.toNat-(0:Int).toNat)=z.1.take z.2.toNat:=by
   simp only[cpy,acv,show(0:Int).toNat=0 from rfl,List.drop_zero,Nat.sub_zero];rw[if_pos (by omega),acg,List.take_append_of_le_length (by rw[aca];omega),List.take_take,Nat.min_self]
  simp only[];rw[e1];exact⟨z4,z5,by simp;omega⟩
 refine Z1.loop (λs=>(1<=s.2.1/\k+s.2.1<=(c.length:Int))/\(k<=s.2.2/\s.2.2<=k+s.2.1-1)/\s.1.length=c.length/\(∀j:Nat,k+s.2.1-1<=(j:Int)->s.1[j]?=c[j]?)/\(s.1.take s.2.2.toNat).Pairwise ltL/\∀o,o∈s.1.take s.2.2.toNat↔o∈c.take (k+s.2.1).toNat) (λs=>((c.length:Int)-k-s.2.1).toNat) ⟨⟨ab3 _,by simp only[];omega⟩,⟨ab3 _,by simp only[];omega⟩,rfl,λ_ _=>rfl,h4,λo=>?_⟩ λs ⟨⟨a1,a2⟩,⟨a3,a4⟩,a5,a6,a7,a8⟩=>?_
 .simp only[];rw[show(k+1).toNat=k.toNat+1 by omega];exact(MQ (by omega) (by omega) he o).symm
 obtain⟨d,k2,kk⟩:=s;simp only at a1 a2 a3 a4 a5 a6 a7 a8;unfold bL;simp only[];have hz:((((c.length:Int).toNat-k.toNat:Nat)):Int)=(c.length:Int)-k:=by omega
 rw[hz];refine .bifD (λhlt2=>?_) λhge=>.pure ⟨⟨a3,by simp only[];omega⟩,a5,a7,λo=>?_⟩
 rotate_left
 .rw[a8,show(k+k2).toNat=c.length by omega,ack]
 have g1:d.getD (0+k.toNat+k2.toNat) aad=c.getD (k+k2).toNat aad:=by
  rw[gdq,gdq,a6 _ (by omega),show 0+k.toNat+k2.toNat=(k+k2).toNat by omega]
 have g2:d.getD (0+k.toNat+(k2-1).toNat) aad=c.getD ((k+k2).toNat-1) aad:=by
  rw[gdq,gdq,a6 _ (by omega),show 0+k.toNat+(k2-1).toNat=(k+k2).toNat-1 by omega]
 have hn1:(k+(k2+1)).toNat=(k+k2).toNat+1:=by omega
 refine Z1.bind (P:=λz=>(k<=z.2/\z.2<=k+k2)/\z.1.length=c.length/\(∀j:Nat,k+k2<=(j:Int)->z.1[j]?=c[j]?)/\(z.1.take z.2.toNat).Pairwise ltL/\∀o,o∈z.1.take z.2.toNat↔o∈c.take ((k+k2).toNat+1)) ?_ λz ⟨⟨z1,z2⟩,z3,z4,z5,z6⟩=>.gdI (by omega)<|.pure ⟨⟨⟨by simp only[];omega,by simp only[];omega⟩,⟨z1,by simp only[];omega⟩,z3,λj hj=>z4 j (by simp only[] at hj;omega),z5,by simp only[hn1];exact z6⟩,by simp only[];omega⟩;refine .gdD ⟨⟨by omega,by omega⟩,by omega⟩<|.gdI (by omega)<|.gdD ⟨⟨by omega,by omega⟩,by omega⟩ ?_;rw[g1,g2];refine(Qw _ _<|hrD _).bind λv hv=>?_;subst hv;rw[<- decide_not];refine .bifD (λhne=>?_) λhe2=>.pure ⟨⟨a3,by simp only[];omega⟩,a5,λj hj=>a6 j (by omega),a7,λo=>?_⟩
 .have hkl:kk.toNat<d.length:=by omega
  refine .gdD ⟨by omega,by omega⟩<|.gdI (by omega)<|.pure ⟨⟨by simp only[];omega,by simp only[];omega⟩,by simp[a5],λj hj=>?_,?_⟩
  .simp only[];rw[List.getElem?_set_ne (by omega)];exact a6 j (by omega)
  have e:(d.set kk.toNat<|c.getD (k+k2).toNat aad).take (kk+1).toNat=d.take kk.toNat++[c.getD (k+k2).toNat aad]:=by
   rw[show(kk+1).toNat=kk.toNat+1 by omega,acp,List.getElem?_set_self hkl,List.take_set_of_le (abV _)]
   rfl
  simp only[];rw[e];exact MP hs a7 a8 (by omega) (by omega) hne
 simp only[];rw[a8];exact(MQ (by omega) (by omega) (Decidable.not_not.1 he2) o).symm
theorem Oc{l:LL}(hl:l.length<=1099511627776)(hr:∀r∈l,r.length<=1048576):Z1 (il l) (Sor l):=by
 unfold il;refine Z1.bind (P:=(· =JU l)) ?_ λv hv=>?_
 .unfold iM;exact .gdD (by omega)<|.pure rfl
 subst hv;have hp:=uq l;refine(Lg (FY l) (by rw[hp.length_eq];exact hl) λr h=>hr r<|hp.mem_iff.1 h).bind λv ⟨v1,v2,v3⟩=>.pure ⟨v1,λo=>(v2 o).trans hp.mem_iff,by rw[<- hp.length_eq];exact v3⟩
def evX(t k:Nat)(x:ZW):List ZY:=if x.Op=4 then [] else [⟨t,k,x.Loc,rdX x,wrX x⟩]
def evR(t:Nat)(row:List ZW):Nat->List ZY
 |0=>[]
 |n+1=>evR t row n++evX t n (row.getD n aad)
def ev0:List ZY:=[⟨-1,0,0,aaf,aae⟩,⟨-1,1,1,aaf,aae⟩,⟨-1,2,2,aaf,aae⟩]
def evP(p:List<|List ZW):Nat->List ZY
 |0=>ev0
 |n+1=>evP p n++evR n (p.getD n aad) (p.getD n aad).length
def evs(p:List<|List ZW):List ZY:=evP p p.length
theorem Qx(t k:Nat)(x:ZW):(evX t k x).length<=1:=by unfold evX;grind
theorem Lh(t:Nat)(row:List ZW)(n:Nat):(evR t row n).length<=n:=by
 induction n with
 |zero=>exact abV _
 |succ n ih=>
  have:=Qx t n<|row.getD n aad;simp only[evR,lla];omega
theorem Li{p:List (List ZW)}(h:Vs p)(n:Nat):(evP p n).length<=3+7*n:=by
 induction n with
 |zero=>exact abV _
 |succ n ih=>
  have h1:=Lh n (p.getD n aad) (p.getD n aad).length;have h2:=h.2 n;simp only[evP,lla];omega
theorem Xk(x:ZW):Z1 (bN x) (· =rdX x):=by
 unfold bN rdX;exact Z1.bind (P:=(· =(x.Op==1||x.Op==5))) (.bif (λh=>.pure<|by simp_all) λh=>.pure<|by simp_all) λv hv=>.pure hv
theorem VE(x:ZW):Z1 (bF x) (· =wrX x):=by
 unfold bF wrX;exact Z1.bind (P:=(· =(x.Op==2||x.Op==3))) (.bif (λh=>.pure<|by simp_all) λh=>.pure<|by simp_all) λv hv=>Z1.bind (P:=(· =(x.Op==2||x.Op==3||x.Op==5))) (.bif (λh=>.pure<|by simp_all) λh=>.pure<|by simp_all) λv hv=>.pure hv
theorem F4{p:List (List ZW)}(hp:Vs p):Z1 (fD p) (· =evs p):=by
 have hpl:=hp.1;unfold fD;refine Z1.bind (P:=(· =ev0)) ?_ λl hl=>Z1.bind (P:=(· =evs p)) ?_ λv hv=>.pure hv
 .refine Z1.loop (λs=>∃n:Nat,n<=3/\s=(ev0.take n,(n:Int))) (λs=>(3-s.2).toNat) ⟨0,by omega,rfl⟩ λs ⟨n,h1,h2⟩=>?_;subst h2;unfold xP;refine .bifD (λh=>?_) λh=>.pure ?_
  .match n,h1,h with
   |0,_,_=>exact .gdC (by decide) rfl (.gdI (by decide)<|.pure ⟨⟨1,by omega,rfl⟩,by decide⟩)
   |1,_,_=>exact .gdC (by decide) rfl (.gdI (by decide)<|.pure ⟨⟨2,by omega,rfl⟩,by decide⟩)
   |2,_,_=>exact .gdC (by decide) rfl (.gdI (by decide)<|.pure ⟨⟨3,by omega,rfl⟩,by decide⟩)
   |3,_,h=>omega
  have : n=3:=by simp only[] at h;omega
  subst this
  rfl
 subst hl;refine Z1.loop (λs=>∃n:Nat,n<=p.length/\s=(evP p n,(n:Int))) (λs=>((p.length:Int)-s.2).toNat) ⟨0,by omega,rfl⟩ λs ⟨n,h1,h2⟩=>?_;subst h2;unfold wF;refine .bifD (λh=>?_) λh=>.pure ?_
 .have hlen:=Li hp n;have hrow:=hp.2 n;simp only[] at h;refine Z1.bind (P:=(· =evP p (n+1))) (.gdD ⟨by omega,h⟩ ?_) λv hv=>.gdI (by omega)<|.pure ⟨⟨n+1,by omega,by simp_all⟩,by omega⟩;refine Z1.loop (λt=>∃k:Nat,k<=(p.getD n aad).length/\t=(evP p n++evR n (p.getD n aad) k,(k:Int))) (λt=>(((p.getD n aad).length:Int)-t.2).toNat) ⟨0,by omega,by simp[evR]⟩ λt ⟨k,k1,k2⟩=>?_;subst k2;unfold wE J;simp only[tnn];refine .bifD (λhk=>?_) λhk=>.pure ?_
  .have hl2:=Lh n (p.getD n aad) k;refine Z1.bind (P:=(· =evP p n++evR n (p.getD n aad) (k+1))) (.gdD ⟨by omega,hk⟩ ?_) λv hv=>.gdI (by omega)<|.pure ⟨⟨k+1,by omega,by simp_all⟩,by omega⟩;refine .bif (λho=>?_) λho=>.pure ?_
   .refine(Xj _).bind λa ha=>(VC _).bind λb hb=>.gdC (by grind) rfl<|.pure ?_;have h4 : ¬ ((p.getD n aad).getD k aad).Op=4:=by simpa using ho
    subst ha hb;simp only[evR,evX,if_neg h4,acg]
   have h4:((p.getD n aad).getD k aad).Op=4:=by simpa using ho
   simp only[evR,evX,if_pos h4,List.append_nil]
  have : k=(p.getD n aad).length:=by omega
  subst this
  rfl
 have : n=p.length:=by simp only[] at h;omega
 subst this
 rfl
theorem IQ{p:List (List ZW)}(hp:Vs p):Z1 (f9 p) (· =evs p):=by
 have hpl:=hp.1;unfold f9;refine Z1.bind (P:=(· =ev0)) ?_ λl hl=>Z1.bind (P:=(· =evs p)) ?_ λv hv=>.pure hv
 .refine Z1.loop (λs=>∃n:Nat,n<=3/\s=(ev0.take n,(n:Int))) (λs=>(3-s.2).toNat) ⟨0,by omega,rfl⟩ λs ⟨n,h1,h2⟩=>?_;subst h2;unfold vB;refine .bifD (λh=>?_) λh=>.pure ?_
  .match n,h1,h with
   |0,_,_=>exact .gdC (by decide) rfl (.gdI (by decide)<|.pure ⟨⟨1,by omega,rfl⟩,by decide⟩)
   |1,_,_=>exact .gdC (by decide) rfl (.gdI (by decide)<|.pure ⟨⟨2,by omega,rfl⟩,by decide⟩)
   |2,_,_=>exact .gdC (by decide) rfl (.gdI (by decide)<|.pure ⟨⟨3,by omega,rfl⟩,by decide⟩)
   |3,_,h=>omega
  have : n=3:=by simp only[] at h;omega
  subst this
  rfl
 subst hl;refine Z1.loop (λs=>∃n:Nat,n<=p.length/\s=(evP p n,(n:Int))) (λs=>((p.length:Int)-s.2).toNat) ⟨0,by omega,rfl⟩ λs ⟨n,h1,h2⟩=>?_;subst h2;unfold uC;refine .bifD (λh=>?_) λh=>.pure ?_
 .have hlen:=Li hp n;have hrow:=hp.2 n;simp only[] at h;refine Z1.bind (P:=(· =evP p (n+1))) ?_ λv hv=>.gdI (by omega)<|.pure ⟨⟨n+1,by omega,by simp_all⟩,by omega⟩;refine Z1.loop (λt=>∃k:Nat,k<=(p.getD n aad).length/\t=(evP p n++evR n (p.getD n aad) k,(k:Int))) (λt=>(((p.getD n aad).length:Int)-t.2).toNat) ⟨0,by omega,by simp[evR]⟩ λt ⟨k,k1,k2⟩=>?_;subst k2;unfold uB J;simp only[tnn];refine .gdD ⟨by omega,h⟩<|.bifD (λhk=>?_) λhk=>.pure ?_
  .have hl2:=Lh n (p.getD n aad) k;refine Z1.bind (P:=(· =evP p n++evR n (p.getD n aad) (k+1))) (.gdD ⟨by omega,hk⟩ ?_) λv hv=>.gdI (by omega)<|.pure ⟨⟨k+1,by omega,by simp_all⟩,by omega⟩;refine .bif (λho=>?_) λho=>.pure ?_
   .refine(Xk _).bind λa ha=>(VE _).bind λb hb=>.gdC (by grind) rfl<|.pure ?_;have h4 : ¬ ((p.getD n aad).getD k aad).Op=4:=by simpa using ho
    subst ha hb;simp only[evR,evX,if_neg h4,acg]
   have h4:((p.getD n aad).getD k aad).Op=4:=by simpa using ho
   simp only[evR,evX,if_pos h4,List.append_nil]
  have : k=(p.getD n aad).length:=by omega
  subst this
  rfl
 have : n=p.length:=by simp only[] at h;omega
 subst this
 rfl
theorem F5{l:LI}{i:Nat}(h:i<l.length):l.getD i aad∈l:=by
 simp_all
section
variable{p:List (List ZW)}{u:ZVa}{z:ZZ}
theorem JV(s:LI)(v:Int)(hs:s.length<=1048576):Z1 (cn s v) (· =aai (v∈s)):=by
 unfold cn;refine Z1.bind (P:=λr:Int=>0<=r↔v∈s) ?_ λr hr=>.pure<|decide_eq_decide.2 hr;unfold bQ;refine Z1.sum (PS:=λ_=>v∉s) (PW:=λr:Int=>0<=r↔v∈s) ?_ λ_ hn=>.pure ⟨λh=>absurd h (by decide),λh=>absurd h hn⟩;refine Z1.loop (λi=>0<=i/\i<=(s.length:Int)/\∀j:Nat,(j:Int)<i->s[j]? ≠ aag v) (λi=>((s.length:Int)-i).toNat) ⟨ab3 _,by omega,λj hj=>absurd hj<|by omega⟩ λi ⟨h1,h2,h3⟩=>?_;unfold iA J;refine .bifD (λhlt=>.gdD ⟨h1,hlt⟩ ?_) λhge=>.pure λhm=>?_
 .have hi:i.toNat<s.length:=by omega
  have e:s.getD i.toNat aad=s[i.toNat]:=by rw[gdq,geq hi];rfl
  rw[e];refine .bif (λhb=>.pure ⟨λ_=>?_,λ_=>h1⟩) λhb=>.gdI (by omega)<|.pure ⟨⟨by omega,by omega,λj hj=>?_⟩,by omega⟩
  .have : v=s[i.toNat]:=by simpa using hb
   rw[this];exact abZ _
  grind
 obtain⟨j,hj,rfl⟩:=acn hm
 grind
def Good(p:List<|List ZW)(s:LI)(n:Nat):Prop:=∀j,j<n->(0<=s.getD j aad/\s.getD j aad<(p.length:Int))/\(s.take j).count (s.getD j aad)<(p.getD (s.getD j aad).toNat aad).length
theorem Od{s:LI}{i:Nat}(h:i<s.length)(v:Int):(s.take<|i+1).count v=(s.take i).count v+if s.getD i aad=v then 1 else 0:=by
 have e:s.getD i aad=s[i]:=by rw[gdq,geq h];rfl
 rw[<- acI h,List.count_append,List.count_singleton,e]
 simp_all
end

section
variable{α β W:Type}[Inhabited α]
theorem UK{a b:List α}[DecidableEq α](hl:a.length=b.length){bad:W}{step:Int->Option (Int ⊕ (Unit ⊕ W))}
  (hs:∀i:Int,0<=i->i<(a.length:Int)->Z1 (step i) (· =if a.getD i.toNat aad=b.getD i.toNat aad then .inl (i+1) else .inr (.inr bad)))
  (he:∀i:Int,¬ i<(a.length:Int)->step i=aag (.inr<|.inl ())):Z1 (aA step 0) (· =if a=b then .inl () else .inr bad):=by
 refine Z1.loop (λi=>0<=i/\i<=(a.length:Int)/\∀j:Nat,(j:Int)<i->a[j]?=b[j]?) (λi=>((a.length:Int)-i).toNat) ⟨ab3 _,by omega,λi hi=>absurd hi<|by omega⟩ λi ⟨h1,h2,h3⟩=>?_
 by_cases h:i<(a.length:Int)
 .refine(hs i h1 h).mono ?_
  grind
 rw[he i h];refine .pure ?_;show _=_;rw[if_pos];refine List.ext_getElem? λj=>?_
 grind
end
instance:DecidableEq ZW:=λa b=>decidable_of_iff (a.Op=b.Op/\a.Loc=b.Loc/\a.Reg=b.Reg/\a.Val=b.Val) ⟨λ⟨h1,h2,h3,h4⟩=>by cases a;cases b;simp only at h1 h2 h3 h4;subst h1 h2 h3 h4;rfl,λh=>by subst h;exact⟨rfl,rfl,rfl,rfl⟩⟩
section
variable{p:List (List ZW)}
def base(p:List<|List ZW)(t k:Nat):Nat:=(evP p t).length+(evR t (p.getD t aad) k).length
theorem VF(t:Nat)(row:List ZW):∀{n m:Nat},n<=m->evR t row n <+: evR t row m:=by
 intro n m h
 induction h with
 |refl=>simp_all
 |step _ ih=>exact ih.trans (List.prefix_append _ _)
theorem Lj(p:List<|List ZW):∀{n m:Nat},n<=m->evP p n <+: evP p m:=by
 intro n m h
 induction h with
 |refl=>simp_all
 |step _ ih=>exact ih.trans (List.prefix_append _ _)
theorem MR{l m:List ZY}(h:l <+: m){i:Nat}(hi:i<l.length):m.getD i aad=l.getD i aad/\i<m.length:=by
 obtain⟨r,rfl⟩:=h
 grind
theorem Xl{t k:Nat}(ht:t<p.length)(hk:k<(p.getD t aad).length)(ho : ¬ ((p.getD t aad).getD k aad).Op=4) :
  (evs p).getD (base p t k) aad=⟨t,k,((p.getD t aad).getD k aad).Loc,rdX<|(p.getD t aad).getD k aad,wrX<|(p.getD t aad).getD k aad⟩/\base p t k<(evs p).length:=by
 have h1:evP p t++(evR t (p.getD t aad) k++[⟨t,k,((p.getD t aad).getD k aad).Loc,rdX<|(p.getD t aad).getD k aad,wrX<|(p.getD t aad).getD k aad⟩]) <+: evs p:=by
  refine acJ ?_<|Lj p (show t+1<=p.length by omega);refine(List.prefix_append_right_inj _).2 ?_;refine acJ ?_<|VF t (p.getD t aad) (show k+1<=(p.getD t aad).length by omega);show _ <+: evR t (p.getD t aad) k++evX t k ((p.getD t aad).getD k aad);unfold evX;rw[if_neg ho];exact List.prefix_refl _
 obtain⟨e1,e2⟩:=MR h1 (i:=base p t k) (by simp only[base,lla,acf];omega);refine⟨e1.trans ?_,e2⟩;rw[gdq,base,gar (by omega),Nat.add_sub_cancel_left,gar (by omega),Nat.sub_self]
 rfl
def fnd(t k:Int):Nat->List ZY->LI
 |_,[]=>[]
 |b,e::l=>(if e.Thread=t/\e.Index=k then [(b:Int)] else [])++fnd t k (b+1) l
def Tz(p:List<|List ZW)(t k:Nat):LI:=if ((p.getD t aad).getD k aad).Op=4 then [] else [(base p t k:Int)]
def sTh(s:LI)(j:Nat):Nat:=(s.getD j aad).toNat
def stK(s:LI)(j:Nat):Nat:=(s.take j).count<|s.getD j aad
def VG(p:List<|List ZW)(s:LI):Nat->LI
 |0=>[]
 |n+1=>VG p s n++Tz p (sTh s n) (stK s n)
theorem kE{p:List (List ZW)}(h:Vs p):(evs p).length<=24:=by
 have h1:=Li h p.length;have h2:=h.1;unfold evs;omega
end
section
variable{p:List (List ZW)}
theorem TA(l:LL)(i:Nat):l.getD i aad=l.getD i []:=rfl
theorem Qy{l:LL}{i j:Nat}{v:LI}(hi:i<l.length):(l.set i v).getD j []=if j=i then v else l.getD j []:=by
 grind
abbrev XS:=List Int×LL
def stX(p:List<|List ZW)(st:XS)(n:Int):XS:=
  (if ((evs p).getD n.toNat aad).Reads=aae then st.1.set n.toNat ((st.2.getD ((evs p).getD n.toNat aad).Loc.toNat []).getD (((st.2.getD ((evs p).getD n.toNat aad).Loc.toNat []).length:Int)-1).toNat aad) else st.1,
   st.2.set ((evs p).getD n.toNat aad).Loc.toNat (if ((evs p).getD n.toNat aad).aP=aae then st.2.getD ((evs p).getD n.toNat aad).Loc.toNat []++[n] else st.2.getD ((evs p).getD n.toNat aad).Loc.toNat []))
def x0(p:List<|List ZW):XS:=(abW (evs p).length<|-1,[[0],[1],[2]])
def Zr(p:List<|List ZW)(l:LI):XS:=l.foldl (stX p)<|x0 p
def OkN(p:List<|List ZW)(n:Int):Prop:=(0<=n/\n<((evs p).length:Int))/\0<=((evs p).getD n.toNat aad).Loc/\((evs p).getD n.toNat aad).Loc<=2
structure InX(p:List (List ZW))(m:Nat)(st:XS):Prop where
 f:st.1.length=(evs p).length
 o:st.2.length=3
 r:∀i:Nat,i<3->1<=(st.2.getD i []).length/\(st.2.getD i []).length<=m+1
theorem InX.x0:InX p 0 (x0 p):=⟨by simp[YtoagamanbofngaaGreatDoor.x0],rfl,λi hi=>by
 match i,hi with
 |0,_=>exact⟨abV 1,abV 1⟩
 |1,_=>exact⟨abV 1,abV 1⟩
 |2,_=>exact⟨abV 1,abV 1⟩⟩
theorem InX.step{m:Nat}{st:XS}{n:Int}(h:InX p m st)(hn:OkN p n):InX p (m+1) (stX p st n):=by
 obtain⟨_,h2,h3⟩:=hn;unfold stX;refine⟨?_,by simp only[List.length_set];exact h.o,λi hi=>?_⟩
 .simp only[]
  split
  .rw[List.length_set];exact h.f
  exact h.f
 simp only[];rw[Qy (by rw[h.o];omega)];have hr:=h.r ((evs p).getD n.toNat aad).Loc.toNat (by omega);have hi':=h.r i hi
 grind
theorem InX.runs:∀{l:LI}{m:Nat}{st:XS},InX p m st->(∀n∈l,OkN p n)->InX p (m+l.length) (l.foldl (stX p) st)
 |[],_,_,h,_=>h
 |n::l,m,st,h,k=>by
  have:=InX.runs (h.step<|k n<|acd) λx hx=>k x<|acy _ hx
  grind
theorem InX.run{l:LI}(h:∀n∈l,OkN p n):InX p l.length (Zr p l):=by
 have:=InX.runs InX.x0 h
 rwa [acv] at this
theorem VH{s:LI}(hg:Good p s s.length){j:Nat}(hj:j<s.length):sTh s j<p.length/\((sTh s j:Nat):Int)=s.getD j aad/\stK s j<(p.getD (sTh s j) aad).length:=by
 obtain⟨g1,g2⟩:=hg j hj;unfold sTh stK;omega
end
theorem zN{a b:LI}(h:a.length<=4000000):Z1 (aN a b) (· =aai (a=b)):=by
 unfold aN;refine .bif (λhn=>.pure ?_) λhn=>?_
 .grind
 have hl:a.length=b.length:=by
  have : (a.length:Int)=(b.length:Int):=by simpa using hn
  omega
 refine Z1.sum (PS:=λ_=>a=b) (PW:=(· =aai (a=b))) ((UK hl (bad:=false) (λi h1 h2=>?_) λi hi=>?_).mono λv hv=>?_) λ_ e=>.pure (decide_eq_true e).symm
 .unfold dV J;refine .bifD (λ_=>.gdD ⟨h1,h2⟩<|.gdD ⟨h1,by omega⟩<|.bif (λhb=>.pure ?_) λhb=>.gdI (by omega)<|.pure ?_) λh=>absurd h2 h
  .rw[if_neg (by simpa using hb)]
  rw[if_pos (by simpa using hb)]
 .unfold dV J;rw[decide_eq_false hi]
  rfl
 grind
theorem Oe{a b:LL}(h:a.length<=4000000)(hr:∀i:Nat,(a.getD i aad).length<=4000000):Z1 (aJ a b) (· =aai (a=b)):=by
 unfold aJ;refine .bif (λhn=>.pure ?_) λhn=>?_
 .rw[decide_eq_false];rintro rfl;simp at hn
 have hl:a.length=b.length:=by
  have : (a.length:Int)=(b.length:Int):=by simpa using hn
  omega
 refine Z1.sum (PS:=λ_=>a=b) (PW:=(· =aai (a=b))) ((UK hl (bad:=false) (λi h1 h2=>?_) λi hi=>?_).mono λv hv=>?_) λ_ e=>.pure (decide_eq_true e).symm
 .unfold aV J;refine .bifD (λ_=>.gdD ⟨h1,h2⟩<|.gdD ⟨h1,by omega⟩ ?_) λh=>absurd h2 h;refine Z1.bind (P:=(· =aai (a.getD i.toNat aad=b.getD i.toNat aad))) (by unfold qj;exact(zN<|hr _).bind λv hv=>.pure hv) λv hv=>?_;subst hv;refine .bif (λhb=>.pure ?_) λhb=>.gdI (by omega)<|.pure ?_
  .rw[if_neg (by intro e;rw[decide_eq_true e] at hb;cases hb)]
  rw[if_pos (by refine of_decide_eq_true ?_;revert hb;cases aai (a.getD i.toNat aad=b.getD i.toNat aad) <;> simp)]
 .unfold aV J;rw[decide_eq_false hi]
  rfl
 subst hv
 by_cases e:a=b
 .rw[if_pos e];exact e
 rw[if_neg e];exact(decide_eq_false e).symm
def EB(e:ZX):Prop:=e.From.length<=4000000/\e.Order.length<=4000000/\∀i:Nat,(e.Order.getD i aad).length<=4000000
def same(a b:ZX):Bool:=aai (a.From=b.From)&&aai (a.Order=b.Order)
theorem Qz{a b:ZX}(h:EB a):Z1 (gb a b) (· =same a b):=by
 unfold gb same;refine(zN h.1).bind λv hv=>?_;subst hv;refine Z1.bind (P:=(· =(aai (a.From=b.From)&&aai (a.Order=b.Order)))) (.bif (λhb=>(Oe h.2.1 h.2.2).bind λv hv=>.pure<|by rw[hv,hb];rfl) λhb=>.pure<|by rw[hb];rfl) λv hv=>.pure hv
theorem MS{α:Type}{Q:List α->Prop}(h0:Q [])(hs:∀l a,Q l->Q (l++[a]))(l:List α):Q l:=by
 have key:∀m:List α,Q m.reverse:=λm=>by
  induction m with
  |nil=>exact h0
  |cons a m ih=>rw[List.reverse_cons];exact hs _ _ ih
 have h:=key l.reverse
 simp_all
section
variable{p:List (List ZW)}
def ev(p:List<|List ZW)(n:Int):ZY:=(evs p).getD n.toNat aad
def Wl(p:List<|List ZW)(l:Int)(n:Int):Bool:=(ev p n).aP&&aai ((ev p n).Loc=l)
theorem QA(t:Nat)(row:List ZW):∀(r j:Nat),j<(evR t row r).length->∃k,k<r /\ ¬ (row.getD k aad).Op=4/\j=(evR t row k).length
 |0,j,h=>by simp[evR] at h
 |r+1,j,h=>by
  rcases ab4 j (evR t row r).length with hj|hj
  .obtain⟨k,h1,h2,h3⟩:=QA t row r j hj
   grind
  simp only[evR,lla] at h;have h1:=Qx t r<|row.getD r aad;refine⟨r,by omega,λho=>?_,by omega⟩;have : (evX t r<|row.getD r aad).length=0:=by unfold evX;rw[if_pos ho];rfl
  omega
theorem QB:∀(m n:Nat),n<(evP p m).length->n<3\/∃t k,t<m/\k<(p.getD t aad).length /\ ¬ ((p.getD t aad).getD k aad).Op=4/\n=base p t k
 |0,n,h=>.inl h
 |m+1,n,h=>by
  rcases ab4 n (evP p m).length with hn|hn
  .rcases QB m n hn with h1|⟨t,k,h1,h2,h3,h4⟩
   .exact .inl h1
   grind
  simp only[evP,lla] at h;obtain⟨k,h1,h2,h3⟩:=QA m (p.getD m aad) (p.getD m aad).length (n-(evP p m).length) (by omega);exact .inr ⟨m,k,by omega,h1,h2,by unfold base;omega⟩
structure Isn(p:List (List ZW))(a b:Nat):Prop where
 t:a<p.length
 k:b<(p.getD a aad).length
 o : ¬ ((p.getD a aad).getD b aad).Op=4
def ins(p:List<|List ZW)(t k:Nat):ZW:=(p.getD t aad).getD k aad
theorem Isn.ev{t k:Nat}(h:Isn p t k):ev p (base p t k:Int)=⟨t,k,(ins p t k).Loc,rdX<|ins p t k,wrX<|ins p t k⟩/\base p t k<(evs p).length:=by
 have:=Xl h.t h.k h.o;exact⟨by unfold Go.Proofs.YtoagamanbofngaaGreatDoor.ev;rw[tnn];exact this.1,this.2⟩
theorem CV{l:Nat}(hl:l<3):ev p (l:Int)=⟨-1,l,l,aaf,aae⟩/\l<(evs p).length:=by
 obtain⟨h1,h2⟩:=MR (Lj p<|abY p.length) (i:=l) (by exact hl);refine⟨?_,h2⟩;unfold ev;rw[tnn];refine h1.trans ?_
 match l,hl with
 |0,_=>rfl
 |1,_=>rfl
 |2,_=>rfl
theorem BG{n:Int}(h0:0<=n)(h:n<((evs p).length:Int)):n<3\/∃t k,Isn p t k/\n=(base p t k:Int):=by
 rcases QB p.length n.toNat (by show _<(evs p).length;omega) with h1|⟨t,k,h1,h2,h3,h4⟩
 .omega
 exact .inr ⟨t,k,⟨h1,h2,h3⟩,by omega⟩
theorem TB{t k t' k':Nat}(h:Isn p t k)(h':Isn p t' k')(e:base p t k=base p t' k'):t=t'/\k=k':=by
 have h1:=h.ev.1;rw[e,h'.ev.1] at h1
 grind
structure OrdI(p:List (List ZW))(s:List Int)(m:Nat):Prop where
 mem:∀n:Int,n∈VG p s m↔∃t k:Nat,Isn p t k/\k<(s.take m).count (t:Int)/\n=(base p t k:Int)
 pw:(VG p s m).Pairwise λi k=>i≠k/\((ev p i).Thread=(ev p k).Thread->(ev p i).Index<(ev p k).Index)
theorem OrdI.all{s:LI}(hg:Good p s s.length):∀{m:Nat},m<=s.length->OrdI p s m
 |0,_=>⟨λn=>⟨λh=>by simp[VG] at h,λ⟨t,k,_,h,_⟩=>by grind⟩,by simp[VG]⟩
 |m+1,hm=>by
  have ih:=OrdI.all hg (m:=m) (by omega);obtain⟨g1,g2,g3⟩:=VH hg (j:=m) (by omega);have hc:∀v:Int,(s.take<|m+1).count v=(s.take m).count v+if s.getD m aad=v then 1 else 0:=λv=>Od (by omega) v;have hk:stK s m=(s.take m).count ((sTh s m:Nat):Int):=by rw[g2];rfl
  have new:∀n:Int,n∈Tz p (sTh s m) (stK s m)↔Isn p (sTh s m) (stK s m)/\n=(base p (sTh s m) (stK s m):Int):=λn=>by
   unfold Tz
   split
   .rename_i ho;exact⟨λh=>by grind,λh=>absurd ho h.1.o⟩
   rename_i ho;rw[abX];exact⟨λh=>⟨⟨g1,g3,ho⟩,h⟩,λh=>h.2⟩
  refine⟨λn=>?_,?_⟩
  .simp only[VG,ab1,new,ih.mem]
   grind
  simp only[VG];refine acH.2 ⟨ih.pw,?_,λa ha b hb=>?_⟩
  .unfold Tz
   split <;> simp
  obtain⟨t,k,h1,h2,rfl⟩:=(ih.mem a).1 ha;obtain⟨h3,rfl⟩:=(new b).1 hb;have key:t=sTh s m->k<stK s m:=λe=>by simp_all
  refine⟨λe=>?_,λe=>?_⟩
  .obtain⟨e1,e2⟩:=TB h1 h3 (by omega);omega
  rw[h1.ev.1,h3.ev.1] at e ⊢
  simp_all
theorem W3:∀l:Nat,l<3->([0,1,2]:LI).filter (Wl p (l:Int))=[(l:Int)]:=λl hl=>by
 have w:∀j:Nat,j<3->Wl p (l:Int) (j:Int)=aai ((j:Int)=(l:Int)):=λj hj=>by
  unfold Wl;rw[(CV (p:=p) hj).1];simp
 have w0:Wl p (l:Int) 0=aai ((0:Int)=(l:Int)):=w 0 (by omega);have w1:Wl p (l:Int) 1=aai ((1:Int)=(l:Int)):=w 1 (by omega)
 grind
end
section
variable{p:List (List ZW)}{x:XS}{F:LI}
def dn(p:List<|List ZW)(a:Nat->Nat)(n:Int):Bool:=aai ((ev p n).Thread<0)||aai ((ev p n).Index<(a (ev p n).Thread.toNat:Int))
def od(x:XS)(l:Int):LI:=x.2.getD l.toNat []
def plc(l:LI)(n:Int):Int:=if n∈l then (l.idxOf n:Int) else -1
def poB(p:List<|List ZW)(i k:Int):Bool:=(aai ((ev p i).Thread=(ev p k).Thread)&&aai (0<=(ev p i).Thread))&&aai ((ev p i).Index<(ev p k).Index)
def rfB(p:List<|List ZW)(x:XS)(i k:Int):Bool:=(ev p k).Reads&&aai (x.1.getD k.toNat aad=i)
def coB(p:List<|List ZW)(x:XS)(i k:Int):Bool:=(((ev p i).aP&&(ev p k).aP)&&aai ((ev p i).Loc=(ev p k).Loc))&&aai (plc (od x (ev p i).Loc) i<plc (od x (ev p i).Loc) k)
def frB(p:List<|List ZW)(x:XS)(i k:Int):Bool:=((((ev p i).Reads&&(ev p k).aP)&&aai ((ev p i).Loc=(ev p k).Loc)) && !decide (i=k))&&aai (plc (od x (ev p i).Loc) (x.1.getD i.toNat aad)<plc (od x (ev p i).Loc) k)
def bef(p:List<|List ZW)(x:XS)(i k:Int):Bool:=((poB p i k||rfB p x i k)||coB p x i k)||frB p x i k
theorem sO(hp:PV p){n:Int}(h0:0<=n)(h:n<((evs p).length:Int)):0<=(ev p n).Loc/\(ev p n).Loc<=2:=by
 rcases BG h0 h with h3|⟨t,k,h3,rfl⟩
 .have:=(CV (p:=p) (l:=n.toNat)<|by omega).1
  grind
 rw[h3.ev.1];have:=hp.ins t k h3.t h3.k;exact⟨this.1,this.2.1⟩
structure OdC(p:List (List ZW))(F L:List Int)(l:Int):Prop where
 nd:L.Nodup
 mem:∀n,n∈L↔n∈F/\(ev p n).aP=aae/\(ev p n).Loc=l
structure Cand(p:List (List ZW))(x:XS)(F:List Int):Prop where
 mem:∀n:Int,n∈F↔0<=n/\n<((evs p).length:Int)
 flen:x.1.length=(evs p).length
 olen:x.2.length=3
 ods:∀l:Int,0<=l/\l<=2->OdC p F (od x l) l
 hd:∀l:Nat,l<3->∃t,od x (l:Int)=(l:Int)::t
 rdc:∀i:Int,i∈F->(ev p i).Reads=aae->x.1.getD i.toNat aad∈od x (ev p i).Loc
 ne:∀i:Int,i∈F->(ev p i).Reads=aae->x.1.getD i.toNat aad≠i
 frN:∀i:Int,i∈F->(ev p i).Reads=aaf->x.1.getD i.toNat aad=-1
def UL(p:List<|List ZW)(x:XS)(F:LI)(a:Nat->Nat)(n:Int):Prop:=∀i:Int,i∈F->bef p x i n=aae->dn p a i=aae
def adv(a:Nat->Nat)(t:Nat):Nat->Nat:=λu=>if u=t then a t+1 else a u
def YE(p:List<|List ZW)(t k:Nat):Prop:=((p.getD t aad).getD k aad).Op=4
instance(t k:Nat):Decidable (YE p t k):=by unfold YE;infer_instance
def StA(p:List<|List ZW)(a:Nat->Nat):Prop:=∀t,t<p.length->a t<=(p.getD t aad).length
def nxt(p:List<|List ZW)(a:Nat->Nat)(t:Nat):Option Int:=if YE p t (a t) then aah else aag (base p t (a t):Int)
def JW(p:List<|List ZW)(x:XS)(F:LI)(a:Nat->Nat)(t:Nat):Prop:=t<p.length/\a t<(p.getD t aad).length/\∀n,nxt p a t=aag n->UL p x F a n
def Zt(p:List<|List ZW)(a:Nat->Nat):Prop:=∀t,t<p.length->a t=(p.getD t aad).length
inductive Gr(p:List (List ZW))(x:XS)(F:List Int):(Nat->Nat)->List Int->Prop
 |nil {a:Nat->Nat} (h:Zt p a):Gr p x F a []
 |cons {a:Nat->Nat} {t:Nat} {r:LI} (h:JW p x F a t) (hl:∀u,u<t -> ¬ JW p x F a u) (k:Gr p x F (adv a t) r):Gr p x F a ((t:Int)::r)
end
theorem Og(a b:Int):(a==b)=aai (a=b):=by grind
theorem zO{n:Nat}(h:n<9223372036854775808):IntKind.wrap .i64 (n:Int)=(n:Int):=by
 simp only[IntKind.wrap];show(let m:=(n:Int) % 18446744073709551616;if aae&&m>=(9223372036854775808:Int) then m-18446744073709551616 else m)=n
 grind
theorem xc{a b:Nat}(ha:a<9223372036854775808)(hb:b<9223372036854775808):bOr .i64 (a:Int) (b:Int)=((a|||b:Nat):Int):=by
 have hlt:(a|||b)<2 ^ 63:=Nat.or_lt_two_pow ha hb;show IntKind.wrap .i64 (((ab6 64 (a:Int)|||ab6 64 (b:Int)).toNat:Nat):Int)=_;have h1:(ab6 64 (a:Int)).toNat=a:=by rw[acz,acA];omega
 have h2:(ab6 64 (b:Int)).toNat=b:=by rw[acz,acA];omega
 rw[BitVec.toNat_or,h1,h2];exact zO hlt
theorem IR{k:Nat}(h:k<62):ME .i64 1 (k:Int)=((2 ^ k:Nat):Int):=by
 show IntKind.wrap .i64 (1*2 ^ (min (k:Int).toNat 64))=_;have hm:min (k:Int).toNat 64=k:=by omega
 rw[hm,Int.one_mul,show(2:Int) ^ k=((2 ^ k:Nat):Int) by simp];refine zO ?_;have:=Nat.pow_lt_pow_right (a:=2) (by omega) (show k<63 by omega);omega
theorem Xm{m k:Nat}(hm:m<9223372036854775808)(hk:k<62):jc .i64 (mZ .i64 (m:Int) (k:Int)) 1=if m.testBit k then 1 else 0:=by
 have h1:mZ .i64 (m:Int) (k:Int)=((m / 2 ^ k:Nat):Int):=by
  show(m:Int).fdiv (2 ^ (min (k:Int).toNat 64))=_;have hm:min (k:Int).toNat 64=k:=by omega
  rw[hm,show(2:Int) ^ k=((2 ^ k:Nat):Int) by simp,Int.fdiv_eq_ediv_of_nonneg _ (Int.natCast_nonneg _)]
  rfl
 have hlt:m / 2 ^ k<9223372036854775808:=Nat.lt_of_le_of_lt (Nat.div_le_self _ _) hm;rw[h1];show IntKind.wrap .i64 (((ab6 64 ((m / 2 ^ k:Nat):Int)&&&ab6 64 (1:Int)).toNat:Nat):Int)=_;rw[Nat.testBit_eq_decide_div_mod_eq];generalize m / 2 ^ k=d at hlt;have h2:(ab6 64 ((d:Nat):Int)).toNat=d:=by rw[acz,acA];omega
 rw[BitVec.toNat_and,h2,show(ab6 64 (1:Int)).toNat=1 from rfl,Nat.and_one_is_mod]
 by_cases h:d % 2=1
 .rw[h,if_pos (by simp)];exact zO (by omega)
 rw[show d % 2=0 by omega,if_neg (by simp)];exact zO (by omega)
def Z2(f:Nat->Bool):Nat->Nat
 |0=>0
 |n+1=>if f n then Z2 f n|||2 ^ n else Z2 f n
theorem rW(f:Nat->Bool):∀(n j:Nat),(Z2 f n).testBit j=(aai (j<n)&&f j)
 |0,j=>by simp[Z2]
 |n+1,j=>by
  have ih:=rW f n j;unfold Z2
  grind
theorem MU(f:Nat->Bool):∀n:Nat,Z2 f n<2 ^ n
 |0=>by simp[Z2]
 |n+1=>by
  have ih:=MU f n;have h2:(2:Nat) ^ (n+1)=2*2 ^ n:=by omega
  unfold Z2
  split
  .exact Nat.or_lt_two_pow (by omega) (by omega)
  omega
theorem H5(f g:Nat->Bool)(n:Nat):Z2 f n|||Z2 g n=Z2 (λj=>f j||g j) n:=by
 apply Nat.eq_of_testBit_eq;intro j;rw[Nat.testBit_or,rW,rW,rW]
 grind
theorem bU{f:Nat->Bool}{n:Nat}(h:n<=62):Z2 f n<9223372036854775808:=by
 have h1:=MU f n;have h2:(2:Nat) ^ n<=2 ^ 62:=Nat.pow_le_pow_right (by omega) h;omega
theorem JX{l:LI}(hl:l.length<=4000000)(n:Int):Z1 (mL l n) (· =plc l n):=by
 unfold mL;refine Z1.sum (PS:=λ_=>n∉l) (PW:=(· =plc l n)) ?_ λ_ hn=>.pure (by unfold plc;simp_all);refine Z1.loop (λz=>∃i:Nat,i<=l.length/\z=(i:Int)/\∀j,j<i->l.getD j aad≠n) (λz=>((l.length:Int)-z).toNat) ⟨0,by omega,rfl,λj hj=>by omega⟩ λz ⟨i,h1,h2,h3⟩=>?_;subst h2;unfold wH J;refine .bifD (λhk=>.gdD ⟨by omega,hk⟩<|.bif (λhe=>.pure ?_) λhe=>.gdI (by omega)<|.pure ⟨⟨i+1,by omega,rfl,λj hj=>?_⟩,by omega⟩) λhk=>.pure ?_
 .simp only[tnn,beq_iff_eq] at he;have hi:i<l.length:=by omega
  have hm:n∈l:=by rw[<- he];exact F5 hi
  unfold plc;rw[if_pos hm]
  congr 1
  have h4:=acr hm;rcases Nat.lt_trichotomy i (l.idxOf n) with h5|h5|h5
  .exfalso;have : l.idxOf n<=i:=by
    have e:l=l.take i++l.drop i:=(acm i l).symm;rw[e,List.idxOf_append]
    split
    .have:=acr (by assumption:n∈l.take i);rw[aca] at this;omega
    rw[List.drop_eq_getElem_cons hi,show l[i]=n by rw[<- he,gdq,geq hi];rfl,List.idxOf_cons_self,aca];omega
   omega
  .exact h5
  grind
 .grind
 intro hm;have h4:=acr hm
 grind
section
variable{p:List (List ZW)}{x:XS}{F:LI}
structure XOk(p:List (List ZW))(x:XS):Prop where
 f:x.1.length=(evs p).length
 o:x.2.length=3
 r:∀i:Nat,(x.2.getD i aad).length<=4000000
theorem H6(hx:XOk p x){l:Int}(hl:0<=l/\l<=2)(i k:Int):Z1 (dZ ⟨x.1,x.2⟩ l i k) (· =aai (plc (od x l) i<plc (od x l) k)):=by
 unfold dZ J;refine .gdD ⟨hl.1,by simp only[];rw[hx.o];omega⟩ ((JX (hx.r _) i).bind λv hv=>(JX (hx.r _) k).bind λw hw=>.pure ?_);subst hv hw
 rfl
theorem TC(hp:PV p)(hx:XOk p x){i k:Nat}(hi:i<(evs p).length)(hk:k<(evs p).length)(name:BA)(f:Int->Int->Bool)
  (h:(name=⟨#[112,111]⟩/\f=poB p)\/(name=⟨#[114,102]⟩/\f=rfB p x)\/(name=⟨#[99,111]⟩/\f=coB p x)\/(name=⟨#[102,114]⟩/\f=frB p x)):Z1 (fG p ⟨x.1,x.2⟩ (evs p) name (i:Int) (k:Int)) (· =f i k):=by
 have ei:(evs p).getD i aad=ev p (i:Int):=by unfold ev;simp_all
 have ek:(evs p).getD k aad=ev p (k:Int):=by unfold ev;simp_all
 have hl:=sO hp (n:=(i:Int)) (by omega) (by omega);unfold fG J;simp only[tnn,ei,ek];refine .gdD ⟨by omega,by omega⟩ (.gdD ⟨by omega,by omega⟩ (Z1.bind (P:=(· =(aai ((ev p i).Thread=(ev p k).Thread)&&aai (0<=(ev p i).Thread)))) (.bif (λh=>.pure ?_) λh=>.pure ?_) λsame hs=>?_))
 .simp_all
 .simp_all
 subst hs;rcases h with⟨rfl,rfl⟩|⟨rfl,rfl⟩|⟨rfl,rfl⟩|⟨rfl,rfl⟩
 .refine Z1.sumR ?_;refine .bif (λ_=>Z1.bind (P:=(· =poB p i k)) (.bif (λh=>.pure ?_) λh=>.pure ?_) λv hv=>.pure<|by rw[hv]) λh=>absurd h (by decide)
  .unfold poB;grind
  unfold poB;grind
 .refine Z1.sumR<|.bif (λh=>absurd h<|by decide) λ_=>.bif (λh=>absurd h<|by decide) λ_=>.bif (λh=>absurd h<|by decide) λ_=>.bif (λ_=>?_) λh=>absurd h (by decide);refine Z1.bind (P:=(· =rfB p x i k)) (.bif (λh=>.gdD ⟨by omega,by rw[hx.f];omega⟩<|.pure ?_) λh=>.pure ?_) λv hv=>.pure (by rw[hv])
  .unfold rfB;grind
  unfold rfB;simp_all
 .refine Z1.sumR<|.bif (λh=>absurd h<|by decide) λ_=>.bif (λh=>absurd h<|by decide) λ_=>.bif (λh=>absurd h<|by decide) λ_=>.bif (λh=>absurd h<|by decide) λ_=>.bif (λ_=>?_) λh=>absurd h (by decide);refine Z1.bind (P:=(· =((ev p i).aP&&(ev p k).aP))) (.bif (λh=>.pure<|by simp_all) λh=>.pure<|by simp_all) λv1 h1=>?_;refine Z1.bind (P:=(· =(((ev p i).aP&&(ev p k).aP)&&aai ((ev p i).Loc=(ev p k).Loc)))) (.bif (λh=>.pure<|by grind) λh=>.pure<|by simp_all) λv2 h2=>?_;refine Z1.bind (P:=(· =coB p x i k)) (.bif (λh=>(H6 hx hl _ _).bind λv hv=>.pure<|by unfold coB;simp_all) λh=>.pure<|by unfold coB;simp_all) λv hv=>.pure (by rw[hv])
 refine Z1.sumR<|.bif (λh=>absurd h<|by decide) λ_=>.bif (λh=>absurd h<|by decide) λ_=>.bif (λh=>absurd h<|by decide) λ_=>.bif (λh=>absurd h<|by decide) λ_=>.bif (λh=>absurd h<|by decide) λ_=>.bif (λ_=>?_) λh=>absurd h (by decide);refine Z1.bind (P:=(· =frB p x i k)) (.bif (λh1=>.bif (λh2=>.bif (λh3=>.bif (λh4=>.gdD ⟨by omega,by rw[hx.f];omega⟩<|(H6 hx hl _ _).bind λv hv=>.pure ?_) λh4=>.pure ?_) λh3=>.pure ?_) λh2=>.pure ?_) λh1=>.pure ?_) λv hv=>.pure (by rw[hv])
 .have h4 : ¬ (i:Int)=(k:Int):=by simpa using h4
  unfold frB
  simp_all
 .have h4:(i:Int)=(k:Int):=by simpa using h4
  unfold frB
  simp_all
 .unfold frB
  simp_all
 .unfold frB;simp_all
 unfold frB;simp_all
def IU(p:List<|List ZW)(f:Int->Int->Bool)(n:Nat):LI:=(abT n).map λ(i:Nat)=>((Z2 (λk=>f (i:Int) k) (evs p).length:Nat):Int)
theorem Oh(f:Int->Int->Bool)(n:Nat):IU p f (n+1)=IU p f n++[((Z2 (λk=>f n k) (evs p).length:Nat):Int)]:=by
 unfold IU;rw[acs,ab7]
 rfl
theorem QC(f:Int->Int->Bool)(n:Nat):(IU p f n).length=n:=by simp[IU]
theorem Ll(hp:PV p)(l:Int):Z1 (gT (evs p) l) (· =((abT (evs p).length).map λ(i:Nat)=>(i:Int)).filter (Wl p l)):=by
 have hel:=kE hp.vs;unfold gT;refine Z1.bind (P:=(· =((abT (evs p).length).map λ(i:Nat)=>(i:Int)).filter (Wl p l))) ?_ λv hv=>.pure hv;refine Z1.loop (λz=>∃n:Nat,n<=(evs p).length/\z=(((abT n).map λ(i:Nat)=>(i:Int)).filter<|Wl p l,(n:Int))) (λz=>(((evs p).length:Int)-z.2).toNat) ⟨0,by omega,rfl⟩ λz ⟨n,h1,h2⟩=>?_;subst h2;unfold uD J;have en:(evs p).getD n aad=ev p (n:Int):=by unfold ev;rw[tnn]
 simp only[tnn,en];refine .bifD (λhk=>?_) λhk=>.pure ?_
 .have hsl:(((abT n).map λ(i:Nat)=>(i:Int)).filter<|Wl p l).length<=n:=abU (acK _ _) (by simp);have hst:((abT<|n+1).map λ(i:Nat)=>(i:Int)).filter (Wl p l)=((abT n).map λ(i:Nat)=>(i:Int)).filter (Wl p l)++if Wl p l (n:Int) then [(n:Int)] else []:=by
   rw[acs,ab7,ach]
   congr 1
   by_cases h:Wl p l (n:Int)=aae
   .rw[if_pos h];simp[h]
   rw[if_neg h];simp[h]
  refine Z1.bind (P:=(· =((abT<|n+1).map λ(i:Nat)=>(i:Int)).filter (Wl p l))) (.gdD ⟨by omega,hk⟩ (Z1.bind (P:=(· =Wl p l (n:Int))) (.bif (λh=>.pure ?_) λh=>.pure ?_) λb hb=>.bif (λh=>.gd (aK (by omega) rfl)<|.pure ?_) λh=>.pure ?_)) λv hv=>.gdI (by omega)<|.pure ⟨⟨n+1,by omega,by rw[hv];rfl⟩,by simp only[];omega⟩
  .unfold Wl;rw[h,Bool.true_and];exact Og _ _
  .unfold Wl;rw[h];rfl
  .rw[hst,<- hb,h];rfl
  rw[hst,<- hb,h];simp
 grind
theorem YF(hp:PV p)(R:Cand p x F):XOk p x:=by
 refine⟨R.flen,R.olen,λi=>?_⟩;rcases ab4 i 3 with hi|hi
 .have O:=R.ods (i:Int) (by omega);have h2:=kE hp.vs;have:=acG (l₂:=(abT (evs p).length).map λ(i:Nat)=>(i:Int)) O.nd λn hn=>by
   obtain⟨a,b⟩:=(R.mem n).1 ((O.mem n).1 hn).1;exact ab2.2 ⟨n.toNat,ab9.2 (by omega),by omega⟩
  rw[llm,aci] at this;have e:x.2.getD i aad=od x (i:Int):=by unfold od;rw[tnn,TA]
  grind
 rw[gdq,gen (by rw[R.olen];exact hi)];exact abY _
end
section
variable{p:List (List ZW)}{x:XS}{F:LI}
def Z3(p:List<|List ZW)(l:Int):LI:=((abT (evs p).length).map λ(i:Nat)=>(i:Int)).filter<|Wl p l
theorem IV(n:Int):n∈(abT (evs p).length).map (λ(i:Nat)=>(i:Int))↔0<=n/\n<((evs p).length:Int):=by
 rw[ab2]
 constructor
 .grind
 rintro⟨h1,h2⟩;exact⟨n.toNat,ab9.2 (by omega),by omega⟩
theorem Xn:((abT (evs p).length).map λ(i:Nat)=>(i:Int)).Nodup:=List.pairwise_map.2<|List.nodup_range.imp λh e=>h (by omega)
theorem MV{l:Nat}(hl:l<3):∃t,Z3 p (l:Int)=(l:Int)::t:=by
 have h3:3<=(evs p).length:=(Lj p<|abY p.length).length_le;refine⟨((acB 3<|(evs p).length-3).map λ(i:Nat)=>(i:Int)).filter<|Wl p (l:Int),?_⟩;have e:abT (evs p).length=[0,1,2]++acB 3 ((evs p).length-3):=by
  rw[List.range_eq_range',show [0,1,2]=acB 0 3 from rfl];have:=List.range'_append (s:=0) (m:=3) (n:=(evs p).length-3) (step:=1);rw[show 3+((evs p).length-3)=(evs p).length by omega] at this;exact this.symm
 unfold Z3;rw[e,ab7,ach];have:=W3 (p:=p) l hl
 simp_all
theorem StA.adv{a:Nat->Nat}{t:Nat}(h:StA p a)(hk:a t<(p.getD t aad).length):StA p (Go.Proofs.YtoagamanbofngaaGreatDoor.adv a t):=λu hu=>by
 unfold Go.Proofs.YtoagamanbofngaaGreatDoor.adv
 by_cases e:u=t
 .grind
 rw[if_neg e];exact h u hu
end
section
variable{p:List (List ZW)}{x:XS}{F:LI}
def wq(p:List<|List ZW)(t:Nat)(l:Int)(k:Nat):Bool:=wrX (ins p t k)&&aai ((ins p t k).Loc=l)
def cwr(p:List<|List ZW)(t:Nat)(l:Int)(m:Nat):Nat:=((abT m).filter<|wq p t l).length
def cnt(p:List<|List ZW)(a:Nat->Nat)(l:Int)(n:Nat):Nat:=((abT n).map λt=>cwr p t l<|a t).sum
theorem JY{α:Type}(P:α->Bool)(d:α)(L:List α):((abT L.length).filter λi=>P<|L.getD i d).length=(L.filter P).length:=by
 induction L using MS with
 |h0=>rfl
 |hs L b ih=>
  rw[lla,acf,acs,ach,lla,ach,lla];have e1:(abT L.length).filter (λi=>P<|(L++[b]).getD i d)=(abT L.length).filter λi=>P (L.getD i d):=List.filter_congr λi hi=>by
   rw[gdq,gdq,gal (ab9.1 hi)]
  grind
end
def LeO{α:Type}(x y:Option α):Prop:=∀r,x=aag r->y=aag r
section
variable{α β S E:Type}
theorem LeO.refl(x:Option α):LeO x x:=λ_ h=>h
theorem LeO.bind{x y:Option α}{f g:α->Option β}(h:LeO x y)(k:∀v,LeO (f v)<|g v):LeO (x.bind f) (y.bind g):=λr hr=>by
 obtain⟨v,e,hv⟩:=ve hr;rw[h v e];exact k v r hv
theorem LeO.gd{b:Bool}{x y:Option α}(h:LeO x y):LeO (Go.Proofs.YtoagamanbofngaaGreatDoor.gd b x) (Go.Proofs.YtoagamanbofngaaGreatDoor.gd b y):=by
 cases b
 .exact λ_ h=>h
 exact h
theorem LeO.sumK{x y:Option (S ⊕ E)}{f g:S->Option E}(h:LeO x y)(k:∀v,LeO (f v)<|g v):LeO (Go.Proofs.YtoagamanbofngaaGreatDoor.sumK x f) (Go.Proofs.YtoagamanbofngaaGreatDoor.sumK y g):=λr hr=>by
 cases hx:x with
 |none=>rw[hx] at hr;cases hr
 |some v=>
  rw[hx] at hr;rw[h v hx]
  cases v with
  |inl s=>exact k s r hr
  |inr w=>exact hr
end

section
variable{p:List (List ZW)}{x:XS}{F:LI}
theorem Gr.congr{F':LI}(hF:∀n:Int,n∈F↔n∈F'){a:Nat->Nat}{r:LI}(h:Gr p x F a r):Gr p x F' a r:=by
 have key:∀{a:Nat->Nat}{t:Nat},JW p x F a t↔JW p x F' a t:=λ{a t}=>by
  unfold JW UL;refine⟨λh=>⟨h.1,h.2.1,λn hn i hi hb=>h.2.2 n hn i ((hF i).2 hi) hb⟩,λh=>⟨h.1,h.2.1,λn hn i hi hb=>h.2.2 n hn i ((hF i).1 hi) hb⟩⟩
 induction h with
 |nil h=>exact .nil h
 |cons h hl _ ih=>exact .cons (key.1 h) (λu hu hr=>hl u hu<|key.2 hr) ih
end

section
variable{α β:Type}
theorem cK{step:List α×Int->Option ((List α×Int) ⊕ List α)}(n:Nat)(a:List α)(h:Nat->List α)(hs:∀k,k<n->Z1 (step (a++(abT k).flatMap h,(k:Int))) (· = .inl (a++(abT<|k+1).flatMap h,((k+1:Nat):Int))))
  (he:Z1 (step (a++(abT n).flatMap h,(n:Int))) (· = .inr (a++(abT n).flatMap h))):Z1 (aA step (a,(0:Int))) (· =a++(abT n).flatMap h):=by
 refine Z1.loop (λs=>∃k:Nat,k<=n/\s=(a++(abT k).flatMap h,(k:Int))) (λs=>((n:Int)-s.2).toNat) ⟨0,abY _,by simp⟩ λs ⟨k,hk,e⟩=>?_;subst e
 by_cases hlt:k<n
 .refine(hs k hlt).mono λv hv=>?_;subst hv;exact⟨⟨k+1,hlt,rfl⟩,by simp only[];omega⟩
 grind
theorem bu(h:Nat->List α)(k:Nat):(abT<|k+1).flatMap h=(abT k).flatMap h++h k:=by
 rw[acs,acL];simp
theorem wN(h:Nat->List α){k n:Nat}(hk:k<=n):((abT k).flatMap h).length<=((abT n).flatMap h).length:=by
 induction hk with
 |refl=>omega
 |step _ ih=>rw[bu,lla];omega
theorem zP{l:List α}{f g:α->List β}(h:∀a∈l,f a=g a):l.flatMap f=l.flatMap g:=by
 induction l with
 |nil=>rfl
 |cons a l ih=>
  simp_all
theorem cf[Inhabited α](l:List α)(f:α->List β):(abT l.length).flatMap (λk=>f<|l.getD k aad)=l.flatMap f:=by
 induction l using MS with
 |h0=>rfl
 |hs l a ih=>
  have e:(l++[a]).getD l.length aad=a:=by rw[gdq,gar (abV _)];simp
  rw[lla,acf,bu,e,acL,<- ih]
  congr 1
  .refine zP λk hk=>?_
   grind
  simp
theorem oZ(l:List α)(f:α->β):l.flatMap (λa=>[f a])=l.map f:=by
 induction l with
 |nil=>rfl
 |cons a l ih=>simp_all
theorem ez{l:List α}{f:α->List β}{m:Nat}(h:∀a∈l,(f a).length=m):(l.flatMap f).length=l.length*m:=by
 induction l with
 |nil=>simp
 |cons a l ih=>
  grind
def uJ:List (List α)->List (List α)
 |[]=>[[]]
 |c::cs=>c.flatMap λy=>(uJ cs).map (y :: ·)
theorem BH(cs:List<|List α)(c:List α):uJ (cs++[c])=(uJ cs).flatMap λx=>c.map λy=>x++[y]:=by
 induction cs with
 |nil=>
  show c.flatMap (λy=>[[y]])=[[]].flatMap λx=>c.map λy=>x++[y];rw[oZ];simp
 |cons d ds ih=>
  show d.flatMap (λz=>(uJ<|ds++[c]).map (z :: ·))=(d.flatMap λz=>(uJ ds).map (z :: ·)).flatMap λx=>c.map λy=>x++[y];rw[ih,List.flatMap_assoc];refine zP λz _=>?_;rw[List.map_flatMap,List.flatMap_map];refine zP λx _=>?_
  simp_all
theorem rq:∀{cs:List (List α)}{x:List α},x∈uJ cs↔x.length=cs.length/\∀(i:Nat)(h:i<cs.length),∃y∈cs[i],x[i]?=aag y
 |[],x=>by
  show x∈[[]]↔_;rw[abX]
  constructor
  .rintro rfl;exact⟨rfl,λi h=>by simp at h⟩
  rintro⟨h,_⟩;exact acM h
 |c::cs,x=>by
  show x∈c.flatMap (λy=>(uJ cs).map (y :: ·))↔_;simp only[List.mem_flatMap,ab2]
  constructor
  .rintro⟨y,hy,z,hz,rfl⟩;obtain⟨h1,h2⟩:=rq.1 hz;refine⟨by simp[h1],λi hi=>?_⟩
   match i with
   |0=>exact⟨y,hy,rfl⟩
   |i+1=>exact h2 i (by simpa using hi)
  rintro⟨h1,h2⟩
  match x,h1 with
  |y::z,h1=>
   obtain⟨y',hy',e⟩:=h2 0 (by simp);obtain rfl:y=y':=by simpa using e
   exact⟨y,hy',z,rq.2 ⟨by simpa using h1,λi hi=>h2 (i+1)<|by simpa using hi⟩,rfl⟩
def rJ(l:List Nat):Nat:=l.foldr (· * ·) 1
theorem xd:∀cs:List (List α),(uJ cs).length=rJ (cs.map List.length)
 |[]=>rfl
 |c::cs=>by
  show(c.flatMap λy=>(uJ cs).map (y :: ·)).length=c.length*rJ (cs.map List.length);rw[<- xd cs];exact ez λy _=>llm _
theorem D5(l k:List Nat):rJ (l++k)=rJ l*rJ k:=by
 induction l with
 |nil=>show rJ k=1*_;omega
 |cons a l ih=>
  show a*rJ (l++k)=a*rJ l*rJ k
  grind
theorem H7{l k:List Nat}(hl:l.length=k.length)(h:∀i:Nat,i<l.length->l.getD i 0<=k.getD i 0):rJ l<=rJ k:=by
 induction l generalizing k with
 |nil=>
  grind
 |cons a l ih=>
  match k,hl with
  |b::k,hl=>
   refine ab8 ?_<|ih (by grind) λi hi=>?_
   .have:=h 0 (by simp)
    grind
   have:=h (i+1) (by simpa using hi)
   simp_all
theorem BI{l:List Nat}(h:∀a∈l,1<=a):1<=rJ l:=by
 induction l with
 |nil=>exact abV _
 |cons a l ih=>exact acb (h a acd) (ih λb hb=>h b<|acy _ hb)
theorem H8{l:List Nat}(h:∀a∈l,1<=a)(k:Nat):rJ (l.take k)<=rJ l:=by
 have e:=D5 (l.take k)<|l.drop k;rw[acm] at e;have:=BI (l:=l.drop k) λa ha=>h a<|List.mem_of_mem_drop ha;rw[e];exact ab5 _ this
theorem H9{l:List Nat}(h:∀a∈l,1<=a)(k:Nat):rJ (l.drop k)<=rJ l:=by
 have e:=D5 (l.take k)<|l.drop k;rw[acm] at e;have:=BI (l:=l.take k) λa ha=>h a<|List.mem_of_mem_take ha;rw[e];exact acl _ this
end
theorem dO{α:Type}[Inhabited α]{l:List α}{k:Nat}(h:k<l.length):l.take (k+1)=l.take k++[l.getD k aad]:=by
 simp_all
theorem VI{n m:Nat}(hn:n<=1000000000)(hm:Nat.ble m 1000=aae):aR n m=aae:=by
 have h1:=nlb hm;have h2:n*m<=1000000000*1000:=ab8 hn h1;exact decide_eq_true ⟨by omega,by omega⟩
theorem BJ{s:LI}(h:s.length<=4000000):Z1 (aH s) (· =s):=by
 unfold aH nilK;have hc:gd (aR (([]:LI).length+s.length) 8) (aag<|([]:LI)++s)=aag s:=gJ<|aK (by simpa using h) rfl;rw[hc]
 cases s with
 |nil=>exact .of (by simp) rfl
 |cons a s=>exact .pure rfl
theorem zX(chs:LL)(hn:chs.length<=100)(hb:∀k,k<=chs.length->(uJ<|chs.take k).length<=100000):Z1 (gZ chs) (· =uJ chs):=by
 unfold gZ;refine Z1.bind (P:=(· =uJ chs)) ?_ λv hv=>.pure hv;refine Z1.loop (λs=>∃k:Nat,k<=chs.length/\s=((k:Int),uJ<|chs.take k)) (λs=>((chs.length:Int)-s.1).toNat) ⟨0,abY _,rfl⟩ λs ⟨k,hk,e⟩=>?_;subst e;unfold rF;simp only[];refine .bifD (λhlt=>?_) λhge=>.pure (by rw[show k=chs.length by omega,ack]);have hlt:k<chs.length:=by omega
 have hb1:=hb (k+1) (by omega);have hb0:=hb k (by omega);rw[dO hlt,BH] at hb1;refine Z1.bind (P:=(· =uJ (chs.take<|k+1))) (.gdD ⟨by omega,by omega⟩ (Z1.bind (P:=(· =uJ (chs.take<|k+1))) ?_ λv hv=>.pure hv)) λv hv=>.gdI (by omega)<|.pure ⟨⟨k+1,by omega,by rw[hv];rfl⟩,by simp only[];omega⟩;rw[dO hlt,BH];generalize hall:uJ (chs.take k)=all at *;have hrow:∀j,(all.getD j aad).length<=100:=λj=>by
  by_cases hj:j<all.length
  .have hm:all.getD j aad∈all:=by rw[gdq,geq hj];exact abZ _
   rw[<- hall] at hm;have:=(rq.1 hm).1;rw[<- hall,this,aca];omega
  rw[gdq,gen (by omega)];exact abY _
 have hch:((chs.getD k aad)).length<=100000\/all=[]:=by
  cases all with
  |nil=>exact .inr rfl
  |cons a l=>
   left
   rw[List.flatMap_cons,lla,llm] at hb1;omega
 have hch':0<all.length->(chs.getD k aad).length<=100000:=λh0=>by
  rcases hch with h|h
  .exact h
  rw[h] at h0;cases h0
 have hFl:=hb1;rw[<- cf all] at hFl;refine(cK all.length [] (λj=>(chs.getD k aad).map λy=>all.getD j aad++[y]) (λj hj=>?_) ?_).mono λv hv=>?_
 .unfold kD;simp only[acj,tnn];refine .bifD (λ_=>?_) λh=>absurd (show(j:Int)<(all.length:Int) by omega) h;refine Z1.bind (P:=(· =(abT<|j+1).flatMap λj=>(chs.getD k aad).map λy=>all.getD j aad++[y])) (.gdD ⟨by omega,by omega⟩ ?_) λv hv=>.gdI (by omega)<|.pure (by rw[hv];rfl);have hc:=hch' (by omega);have hF1:=abU (wN (λj=>(chs.getD k aad).map λy=>all.getD j aad++[y])<|show j<=all.length by omega) hFl;refine(cK (chs.getD k aad).length _ (λi=>[all.getD j aad++[(chs.getD k aad).getD i aad]]) (λi hi=>?_) ?_).mono λv hv=>?_
  .unfold kC J;simp only[tnn];have hil:((abT i).flatMap λi=>[all.getD j aad++[(chs.getD k aad).getD i aad]]).length=i*1:=by rw[ez (m:=1) λ_ _=>rfl,aci]
   refine .bifD (λ_=>?_) λh=>absurd (show(i:Int)<((chs.getD k aad).length:Int) by omega) h;refine .gdD ⟨by omega,by omega⟩<|(BJ (by have:=hrow j;omega)).bind λv35 h35=>?_;subst h35;refine .gd (aK (by have:=hrow j;omega) rfl) (.gd (aK (by simp only[lla];omega) rfl)<|.gdI (by omega)<|.pure ?_);simp only[bu,acg]
   rfl
  .unfold kC J;exact .bifD (λh=>absurd h<|by simp only[tnn];omega) λ_=>.pure rfl
  rw[hv,bu,cf (chs.getD k aad) λy=>[all.getD j aad++[y]],oZ]
 .unfold kD;exact .bifD (λh=>absurd h<|by simp only[];omega) λ_=>.pure rfl
 rw[hv,acj];exact cf all λx=>(chs.getD k aad).map λy=>x++[y]
theorem Oi{s:LL}(h:s.length<=4000000):Z1 (oq s) (· =s):=by
 unfold oq nilK;have hc:gd (aR (([]:LL).length+s.length) 24) (aag<|([]:LL)++s)=aag s:=gJ<|aK (by simpa using h) rfl;rw[hc]
 cases s with
 |nil=>exact .of (by simp) rfl
 |cons a s=>exact .pure rfl
theorem CW(chs:List<|LL)(hn:chs.length<=100)(hb:∀k,k<=chs.length->(uJ<|chs.take k).length<=100000):Z1 (iQ chs) (· =uJ chs):=by
 unfold iQ;refine Z1.bind (P:=(· =uJ chs)) ?_ λv hv=>.pure hv;refine Z1.loop (λs=>∃k:Nat,k<=chs.length/\s=((k:Int),uJ<|chs.take k)) (λs=>((chs.length:Int)-s.1).toNat) ⟨0,abY _,rfl⟩ λs ⟨k,hk,e⟩=>?_;subst e;unfold vw;simp only[];refine .bifD (λhlt=>?_) λhge=>.pure (by rw[show k=chs.length by omega,ack]);have hlt:k<chs.length:=by omega
 have hb1:=hb (k+1) (by omega);have hb0:=hb k (by omega);rw[dO hlt,BH] at hb1;refine Z1.bind (P:=(· =uJ (chs.take<|k+1))) (.gdD ⟨by omega,by omega⟩ (Z1.bind (P:=(· =uJ (chs.take<|k+1))) ?_ λv hv=>.pure hv)) λv hv=>.gdI (by omega)<|.pure ⟨⟨k+1,by omega,by rw[hv];rfl⟩,by simp only[];omega⟩;rw[dO hlt,BH];generalize hall:uJ (chs.take k)=all at *;have hrow:∀j,(all.getD j aad).length<=100:=λj=>by
  by_cases hj:j<all.length
  .have hm:all.getD j aad∈all:=by rw[gdq,geq hj];exact abZ _
   rw[<- hall] at hm;have:=(rq.1 hm).1;rw[<- hall,this,aca];omega
  rw[gdq,gen (by omega)];exact abY _
 have hch:((chs.getD k aad)).length<=100000\/all=[]:=by
  cases all with
  |nil=>exact .inr rfl
  |cons a l=>
   left
   rw[List.flatMap_cons,lla,llm] at hb1;omega
 have hch':0<all.length->(chs.getD k aad).length<=100000:=λh0=>by
  rcases hch with h|h
  .exact h
  rw[h] at h0;cases h0
 have hFl:=hb1;rw[<- cf all] at hFl;refine(cK all.length [] (λj=>(chs.getD k aad).map λy=>all.getD j aad++[y]) (λj hj=>?_) ?_).mono λv hv=>?_
 .unfold nD;simp only[acj,tnn];refine .bifD (λ_=>?_) λh=>absurd (show(j:Int)<(all.length:Int) by omega) h;refine Z1.bind (P:=(· =(abT<|j+1).flatMap λj=>(chs.getD k aad).map λy=>all.getD j aad++[y])) (.gdD ⟨by omega,by omega⟩ ?_) λv hv=>.gdI (by omega)<|.pure (by rw[hv];rfl);have hc:=hch' (by omega);have hF1:=abU (wN (λj=>(chs.getD k aad).map λy=>all.getD j aad++[y])<|show j<=all.length by omega) hFl;refine(cK (chs.getD k aad).length _ (λi=>[all.getD j aad++[(chs.getD k aad).getD i aad]]) (λi hi=>?_) ?_).mono λv hv=>?_
  .unfold nC J;simp only[tnn];have hil:((abT i).flatMap λi=>[all.getD j aad++[(chs.getD k aad).getD i aad]]).length=i*1:=by rw[ez (m:=1) λ_ _=>rfl,aci]
   refine .bifD (λ_=>?_) λh=>absurd (show(i:Int)<((chs.getD k aad).length:Int) by omega) h;refine .gdD ⟨by omega,by omega⟩<|(Oi (by have:=hrow j;omega)).bind λv35 h35=>?_;subst h35;refine .gd (aK (by have:=hrow j;omega) rfl) (.gd (aK (by simp only[lla];omega) rfl)<|.gdI (by omega)<|.pure ?_);simp only[bu,acg]
   rfl
  .unfold nC J;exact .bifD (λh=>absurd h<|by simp only[tnn];omega) λ_=>.pure rfl
  rw[hv,bu,cf (chs.getD k aad) λy=>[all.getD j aad++[y]],oZ]
 .unfold nD;exact .bifD (λh=>absurd h<|by simp only[];omega) λ_=>.pure rfl
 rw[hv,acj];exact cf all λx=>(chs.getD k aad).map λy=>x++[y]
def prm:Nat->LI->LL
 |0,_=>[[]]
 |n+1,l=>(abT l.length).flatMap λi=>(prm n<|l.take i++l.drop (i+1)).map (l.getD i aad :: ·)
theorem IW:∀(n:Nat)(l:LI),l.length=n->(prm n l).length=fct n
 |0,_,_=>rfl
 |n+1,l,h=>by
  show((abT l.length).flatMap λi=>(prm n<|l.take i++l.drop (i+1)).map (l.getD i aad :: ·)).length=fct n*(n+1);rw[ez (m:=fct n) λi hi=>?_,aci,h,Nat.mul_comm];have:=ab9.1 hi;rw[llm,IW n _ (by grind)]
theorem MW{l:LI}{i:Nat}(h:i<l.length):(l.getD i aad::(l.take i++l.drop (i+1))).Perm l:=by
 have e:l=l.take i++(l.getD i aad::l.drop (i+1)):=by
  rw[gdq,geq h];simp
 grind
theorem AC:∀{n:Nat}{l:LI},l.length=n->∀{o:LI},o∈prm n l↔o.Perm l
 |0,l,h,o=>by
  obtain rfl:=acM h;show o∈[[]]↔_
  simp_all
 |n+1,l,h,o=>by
  show o∈(abT l.length).flatMap (λi=>(prm n<|l.take i++l.drop (i+1)).map (l.getD i aad :: ·))↔_;simp only[List.mem_flatMap,ab2,ab9]
  constructor
  .rintro⟨i,hi,r,hr,rfl⟩;have:=(AC<|by grind).1 hr;exact(this.cons _).trans<|MW hi
  intro hp
  match o,hp.length_eq with
  |[],e=>simp_all
  |a::r,e=>
   have ha:a∈l:=hp.mem_iff.1 acd;have hi:=acr ha;have hg:l.getD (l.idxOf a) aad=a:=by
    rw[gdq,geq hi];exact List.getElem_idxOf hi
   refine⟨l.idxOf a,hi,r,(AC<|by grind).2 ?_,by rw[hg]⟩;have h2:=MW hi;rw[hg] at h2;exact(hp.trans h2.symm).cons_inv
theorem MX{a b:Nat}(h:a<=b):fct a<=fct b:=by
 induction h with
 |refl=>omega
 |step _ ih=>exact abU ih (ab5 _<|by omega)
theorem Ia{n:Nat}{l:LI}(hl:l.length=n+1)(hn:n+1<=12){acc:Nat}(hacc:acc<l.length){step:LL×Int->Option ((LL×Int) ⊕ LL)}{r:LL}(hr:r=prm n (l.take acc++l.drop (acc+1)))
  (hs:∀s,step s=bif aai (s.2<(r.length:Int)) then
   gd (aai<|0<=s.2/\s.2<(r.length:Int)) <|
   gd (aR (([l.getD acc aad]:LI).length+(r.getD s.2.toNat aad).length) 8) <|
   gd (aR (s.1.length+1) 24) <|
   gd (ZU .i64<|s.2+(1:Int)) <|
   aag (.inl ((s.1++[(([l.getD acc aad]:LI)++(r.getD s.2.toNat aad))]),(s.2+(1:Int)))) else aag (.inr s.1)) :
  Z1 (aA step ((abT acc).flatMap (λi=>(prm n<|l.take i++l.drop (i+1)).map (l.getD i aad :: ·)),(0:Int))) (· =(abT<|acc+1).flatMap (λi=>(prm n<|l.take i++l.drop (i+1)).map (l.getD i aad :: ·))):=by
 have hrl:r.length=fct n:=by rw[hr];exact IW n _ (by grind)
 have hf:fct n<=fct 11:=MX (by omega);have h11:fct 11=39916800:=by decide
 have hrow:∀k,(r.getD k aad).length<=12:=λk=>by
  by_cases hk:k<r.length
  .have hm:r.getD k aad∈r:=by rw[gdq,geq hk];exact abZ _
   have hll:(l.take acc++l.drop (acc+1)).length=n:=by rw[lla,aca,List.length_drop];omega
   have:=((AC hll).1<|show r.getD k aad∈prm n (l.take acc++l.drop (acc+1)) by rw[<- hr];exact hm).length_eq;omega
  rw[gdq,gen (by omega)];exact abY _
 have hpre:((abT acc).flatMap (λi=>(prm n<|l.take i++l.drop (i+1)).map (l.getD i aad :: ·))).length<=12*39916800:=by
  have e:=ez (l:=abT acc) (f:=λi=>(prm n<|l.take i++l.drop (i+1)).map (l.getD i aad :: ·)) (m:=fct n) λi hi=>by
   have:=ab9.1 hi;rw[llm,IW n _ (by grind)]
  rw[e,aci];exact ab8 (by omega) (by omega)
 refine(cK r.length _ (λk=>[l.getD acc aad::r.getD k aad]) (λk hk=>?_) ?_).mono λv hv=>?_
 .rw[hs];have hkl:((abT k).flatMap λk=>[l.getD acc aad::r.getD k aad]).length=k*1:=by rw[ez (m:=1) λ_ _=>rfl,aci]
  refine .bifD (λ_=>.gdD ⟨by omega,by omega⟩<|.gd (aK (by grind) rfl)<|.gd (VI (by grind) rfl)<|.gdI (by omega)<|.pure ?_) λh=>absurd (show(k:Int)<(r.length:Int) by omega) h;simp only[tnn,bu,acg]
  rfl
 .rw[hs];exact .bifD (λh=>absurd h<|by omega) λ_=>.pure rfl
 rw[hv,bu,cf r λx=>[l.getD acc aad::x],oZ,<- hr]
theorem Ib:∀(n:Nat)(l:LI),l.length=n->n<=12->∀m,n<m->Z1 (lc m l) (· =prm n l)
 |_,_,_,_,0,h=>by omega
 |0,l,hl,hn,m+1,_=>by
  show Z1 (iP _ l) _;unfold iP;exact .bif (λ_=>.pure rfl) λh=>by simp_all
 |n+1,l,hl,hn,m+1,hm=>by
  show Z1 (iP _ l) _;unfold iP;refine .bif (λh=>by grind) λ_=>Z1.bind (P:=(· =prm (n+1) l)) ?_ λv hv=>.pure hv;refine(cK l.length [] (λi=>(prm n<|l.take i++l.drop (i+1)).map (l.getD i aad :: ·)) (λk hk=>?_) ?_).mono λv hv=>?_
  .unfold rS;simp only[acj,tnn];refine .bifD (λ_=>?_) λh=>absurd (show(k:Int)<(l.length:Int) by omega) h;refine Z1.bind (P:=(· =(abT<|k+1).flatMap λi=>(prm n<|l.take i++l.drop (i+1)).map (l.getD i aad :: ·))) ?_ λv hv=>.gdI (by omega)<|.pure (by simp_all);refine .gdD ⟨by omega,by omega⟩<|(BJ<|by omega).bind λv16 h16=>.gdI (by omega) ?_;subst v16;refine Z1.bind (P:=(· =l.take k++l.drop (k+1))) ?_ λv21 h21=>?_
   .unfold ul;refine .gdD ⟨by omega,by omega,by omega,by omega⟩<|.pure ?_
    simp_all
   subst v21;refine(Ib n _ (by grind) (by omega) m<|by omega).bind λv25 h25=>?_;exact Ia hl hn hk h25 λs=>by unfold wG J;rfl
  .unfold rS;exact .bifD (λh=>absurd h<|by omega) λ_=>.pure rfl
  rw[hv]
  rfl
theorem JZ:∀(n:Nat)(l:LI),l.length=n->n<=12->∀m,n<m->Z1 (jJ m l) (· =prm n l)
 |_,_,_,_,0,h=>by omega
 |0,l,hl,hn,m+1,_=>by
  show Z1 (gW _ l) _;unfold gW;exact .bif (λ_=>.pure rfl) λh=>by simp_all
 |n+1,l,hl,hn,m+1,hm=>by
  show Z1 (gW _ l) _;unfold gW;refine .bif (λh=>by grind) λ_=>Z1.bind (P:=(· =prm (n+1) l)) ?_ λv hv=>.pure hv;refine(cK l.length [] (λi=>(prm n<|l.take i++l.drop (i+1)).map (l.getD i aad :: ·)) (λk hk=>?_) ?_).mono λv hv=>?_
  .unfold qh;simp only[acj,tnn];refine .bifD (λ_=>?_) λh=>absurd (show(k:Int)<(l.length:Int) by omega) h;refine Z1.bind (P:=(· =(abT<|k+1).flatMap λi=>(prm n<|l.take i++l.drop (i+1)).map (l.getD i aad :: ·))) ?_ λv hv=>.gdI (by omega)<|.pure (by simp_all);have e1:((l.drop (0:Int).toNat).take<|k-(0:Int).toNat)=l.take k:=by simp
   have e2:((l.drop ((k:Int)+1).toNat).take<|l.length-((k:Int)+1).toNat)=l.drop (k+1):=by
    rw[show((k:Int)+1).toNat=k+1 by omega];exact acu (by simp_all)
   rw[e1,e2];have g1:(l.take k).length<=12:=by rw[aca];omega
   have g2:(l.drop<|k+1).length<=12:=by rw[List.length_drop];omega
   refine .gdD ⟨by omega,by omega,by omega⟩<|.gd (aK (by grind) rfl)<|.gdI (by omega)<|.gdD ⟨by omega,by omega,by omega⟩<|.gd (aK (by omega) rfl) ?_;refine(JZ n _ (by grind) (by omega) m<|by omega).bind λv25 h25=>?_;refine Ia hl hn hk h25 λs=>?_;unfold vC J;simp only[tnn];rw[gJ (decide_eq_true<|show 0<=(k:Int)/\(k:Int)<(l.length:Int) by omega)]
  .unfold qh;exact .bifD (λh=>absurd h<|by omega) λ_=>.pure rfl
  rw[hv]
  rfl
theorem ru{α:Type}{f:Nat->Option α}{v:α}(n:Nat)(h:∀m,n<m->Z1 (f m) (· =v)):Z1 (HT f) (· =v):=Z1.of (yQ (n+1) λm hm=>(h m hm).eq) rfl
theorem VJ(l:LI)(h:l.length<=12):Z1 (xb l) (· =prm l.length l):=ru l.length λm hm=>Ib l.length l rfl h m hm
theorem Xo(l:LI)(h:l.length<=12):Z1 (vS l) (· =prm l.length l):=ru l.length λm hm=>JZ l.length l rfl h m hm
section
variable{p:List (List ZW)}
def chE(p:List<|List ZW)(i:Nat):LI:=if (ev p (i:Int)).Reads=aae then (Z3 p (ev p (i:Int)).Loc).filter (λn=>!decide (n=(i:Int))) else [-1]
def chF(p:List<|List ZW):LL:=(abT (evs p).length).map<|chE p
def chL(p:List<|List ZW)(l:Nat):LL:=(prm (Z3 p (l:Int)).tail.length (Z3 p (l:Int)).tail).map ((l:Int) :: ·)
def chO(p:List<|List ZW):List (LL):=[chL p 0,chL p 1,chL p 2]
def aY(p:List<|List ZW):List ZX:=(uJ<|chF p).flatMap λf=>(uJ<|chO p).map λo=>⟨f,o⟩
abbrev Z4(p:List<|List ZW):List (List Ins):=p.map λr=>r.map cm
theorem J0(q:ZY->Bool)(f:Ins->Bool)(h:∀t k x,x.Op≠4->q ⟨t,k,x.Loc,rdX x,wrX x⟩=f (cm x))(h4:∀x:ZW,x.Op=4->f (cm x)=aaf)(t:Nat)(row:List ZW):∀r:Nat,r<=row.length->((evR t row r).filter q).length=((row.take r).map cm).countP f
 |0,_=>by simp[evR]
 |r+1,hr=>by
  have ih:=J0 q f h h4 t row r (by omega);have e:row.getD r aad=row[r]:=by rw[gdq,geq (by omega)];rfl
  rw[evR,ach,lla,ih,<- acI (show r<row.length by omega),ab7,List.countP_append,e]
  congr 1
  unfold evX
  grind
theorem F6(q:ZY->Bool)(f:Ins->Bool)(h:∀(t k:Int)x,x.Op≠4->q ⟨t,k,x.Loc,rdX x,wrX x⟩=f (cm x))(h4:∀x:ZW,x.Op=4->f (cm x)=aaf):((evs p).filter q).length=(ev0.filter q).length+Fs f (Z4 p):=by
 have key:∀n:Nat,n<=p.length->((evP p n).filter q).length=(ev0.filter q).length+Fs f ((Z4 p).take n):=λn=>by
  induction n with
  |zero=>intro _;simp[evP,Fs]
  |succ n ih=>
   intro hn;have e:p.getD n aad=p[n]:=by rw[gdq,geq (by omega)];rfl
   have hn':n<(Z4 p).length:=by rw[llm];omega
   rw[evP,ach,lla,ih (by omega),J0 q f (λt k=>h t k) h4 n _ _ (abV _),Ak f (Z4 p) n hn',ack,Nat.add_assoc,e]
   simp_all
 have:=key p.length<|abV _;rw[show(Z4 p).take p.length=Z4 p from acu (by simp)] at this;exact this
theorem Lm{l:Nat}(hl:l<3):(Z3 p (l:Int)).length=cw (Z4 p) (l:Int)+1:=by
 have h1:(Z3 p (l:Int)).length=((evs p).filter λe=>e.aP&&aai (e.Loc=(l:Int))).length:=by
  rw[<- JY (λe:ZY=>e.aP&&aai (e.Loc=(l:Int))) aad (evs p)];unfold Z3;rw[List.filter_map,llm]
  congr 2
 rw[h1,F6 _ (jb (l:Int) wrB) (λt k x ho=>?_) (λx ho=>?_)]
 .have : (ev0.filter λe=>e.aP&&aai (e.Loc=(l:Int))).length=1:=by
   match l,hl with
   |0,_=>rfl
   |1,_=>rfl
   |2,_=>rfl
  rw[this];unfold cw;omega
 .unfold jb cm wrB wrO wrX
  grind
 unfold jb cm wrB wrO
 grind
theorem Lp{l:Nat}(hl:l<3):((evs p).filter λe=>e.Reads&&aai (e.Loc=(l:Int))).length=cr (Z4 p) (l:Int):=by
 rw[F6 _ (jb (l:Int) rdB) (λt k x ho=>?_) (λx ho=>?_)]
 .have : (ev0.filter λe=>e.Reads&&aai (e.Loc=(l:Int))).length=0:=by
   match l,hl with
   |0,_=>rfl
   |1,_=>rfl
   |2,_=>rfl
  rw[this];unfold cr;omega
 .unfold jb cm rdB rdO rdX
  grind
 unfold jb cm rdB rdO
 grind
def gE(w:Nat->Nat)(e:ZY):Nat:=if e.Reads=aae then w e.Loc.toNat+1 else 1
theorem VK(w:Nat->Nat)(L:List ZY)(h:∀e∈L,e.Reads=aae->0<=e.Loc/\e.Loc<=2):rJ (L.map<|gE w)=(w 0+1) ^ (L.filter λe=>e.Reads&&aai (e.Loc=((0:Nat):Int))).length*(w 1+1) ^ (L.filter λe=>e.Reads&&aai (e.Loc=((1:Nat):Int))).length*(w 2+1) ^ (L.filter λe=>e.Reads&&aai (e.Loc=((2:Nat):Int))).length:=by
 induction L with
 |nil=>rfl
 |cons e L ih=>
  have ih:=ih λa ha=>h a<|acy _ ha;show gE w e*rJ (L.map<|gE w)=_;rw[ih];unfold gE
  by_cases hr:e.Reads=aae
  .obtain⟨h0,h2⟩:=h e acd hr;have hc:e.Loc=0\/e.Loc=1\/e.Loc=2:=by omega
   rcases hc with hc|hc|hc <;> simp[hr,hc,Nat.pow_succ] <;> ac_rfl
  simp_all
theorem VM(hp:PV p){e:ZY}(h:e∈evs p):0<=e.Loc/\e.Loc<=2:=by
 obtain⟨i,hi,rfl⟩:=acn h;have:=sO hp (n:=(i:Int)) (by omega) (by omega);unfold ev at this
 simp_all
theorem VN(hp:PV p){i:Nat}(hi:i<(evs p).length):(chE p i).length<=gE (λl=>cw (Z4 p) (l:Int)) ((evs p).getD i aad):=by
 have he:(evs p).getD i aad=ev p (i:Int):=by unfold ev;rw[tnn]
 have hl:=sO hp (n:=(i:Int)) (by omega) (by omega);rw[he];unfold chE gE
 split
 .have:=Lm (p:=p) (l:=(ev p (i:Int)).Loc.toNat) (by omega);rw[Int.toNat_of_nonneg hl.1] at this;have h2:=acK (λn=>!decide (n=(i:Int)))<|Z3 p (ev p (i:Int)).Loc;simp only[Int.toNat_of_nonneg hl.1];omega
 simp_all
theorem zb{l:Nat}(hl:l<3):(chL p l).length=fct (cw (Z4 p) (l:Int)):=by
 unfold chL;rw[llm,IW _ _ rfl,List.length_tail,Lm hl,Nat.add_sub_cancel]
theorem TD(hv:bh (Z4 p)=aae):rJ ((evs p).map<|gE λl=>cw (Z4 p) (l:Int))*(fct (cw (Z4 p) 0)*fct (cw (Z4 p) 1)*fct (cw (Z4 p) 2))<=3000:=by
 have hp:=PV.of hv;simp only[bh,bae,dte] at hv;have h3:=hv.2;rw[VK _ _ λe he _=>VM hp he,Lp (by omega),Lp (by omega),Lp (by omega)];refine abU (Nat.le_of_eq ?_) h3;show _=1*Xh (Z4 p) 0*Xh (Z4 p) 1*Xh (Z4 p) 2;unfold Xh
 grind
structure Few(p:List (List ZW)):Prop where
 f:∀k,(uJ<|(chF p).take k).length<=3000/\(uJ<|(chF p).drop k).length<=3000
 o:∀k,(uJ<|(chO p).take k).length<=3000/\(uJ<|(chO p).drop k).length<=3000
 all:(uJ<|chF p).length*(uJ<|chO p).length<=3000
 w:∀l:Nat,l<3->(Z3 p (l:Int)).length<=8/\(chL p l).length<=3000
theorem few(hv:bh (Z4 p)=aae):Few p:=by
 have hp:=PV.of hv;have hE:=TD hv;have hgs:∀a∈(evs p).map (gE λl=>cw (Z4 p) (l:Int)),1<=a:=λa ha=>by
  obtain⟨e,_,rfl⟩:=ab2.1 ha;unfold gE
  grind
 have f0:=Ld<|cw (Z4 p) 0;have f1:=Ld<|cw (Z4 p) 1;have f2:=Ld<|cw (Z4 p) 2;have g0:=BI hgs;have hfs:∀a∈(chO p).map List.length,1<=a:=λa ha=>by
  simp only[chO,List.map_cons,List.map_nil,acx,List.not_mem_nil,or_false] at ha;rcases ha with rfl|rfl|rfl
  .rw[zb (by omega)];omega
  .rw[zb (by omega)];omega
  rw[zb (by omega)];omega
 have hO:rJ ((chO p).map List.length)=fct (cw (Z4 p) 0)*fct (cw (Z4 p) 1)*fct (cw (Z4 p) 2):=by
  show(chL p 0).length*((chL p 1).length*((chL p 2).length*1))=_;rw[zb (by omega),zb (by omega),zb (by omega),Nat.mul_one,Nat.mul_assoc]
  rfl
 have hOpos:=BI hfs;have hA:rJ ((evs p).map<|gE λl=>cw (Z4 p) (l:Int))<=3000:=abU (ab5 _<|by omega) hE;have hB:rJ ((chO p).map List.length)<=3000:=by rw[hO];exact abU (acl _ g0) hE
 have hmono:∀k,rJ (((chF p).map List.length).take k)<=rJ (((evs p).map<|gE λl=>cw (Z4 p) (l:Int)).take k)/\rJ (((chF p).map List.length).drop k)<=rJ (((evs p).map<|gE λl=>cw (Z4 p) (l:Int)).drop k):=λk=>by
  have hlen:(chF p).length=(evs p).length:=by simp[chF]
  have hget:∀i:Nat,i<(evs p).length->((chF p).map List.length).getD i 0<=((evs p).map<|gE λl=>cw (Z4 p) (l:Int)).getD i 0:=λi hi=>by
   have:=VN hp hi;rw[gdq,geq hi] at this;rw[gdq,gdq,List.getElem?_map,List.getElem?_map,geq hi];unfold chF
   simp_all
  constructor
  .refine H7 (by simp[hlen]) λi hi=>?_
   grind
  refine H7 (by simp[hlen]) λi hi=>?_
  grind
 refine⟨λk=>⟨?_,?_⟩,λk=>⟨?_,?_⟩,?_,λl hl=>?_⟩
 .rw[xd,List.map_take];exact abU (hmono k).1<|abU (H8 hgs k) hA
 .rw[xd,List.map_drop];exact abU (hmono k).2<|abU (H9 hgs k) hA
 .rw[xd,List.map_take];exact abU (H8 hfs k) hB
 .rw[xd,List.map_drop];exact abU (H9 hfs k) hB
 .rw[xd,xd,hO];have:=(hmono (evs p).length).1;rw[acu (by simp[chF]),acu (by simp)] at this;exact abU (Nat.mul_le_mul_right _ this) hE
 have hf:fct (cw (Z4 p) (l:Int))<=3000:=by
  rw[<- zb hl];have h0:(chL p l).length∈(chO p).map List.length:=by
   match l,hl with
   |0,_=>simp[chO]
   |1,_=>simp[chO]
   |2,_=>simp[chO]
  refine abU ?_ hB
  match l,hl with
  |0,_=>exact ab5 _ (acb (hfs _<|by simp[chO])<|acb (hfs _<|by simp[chO]) Nat.one_pos)
  |1,_=>
   refine abU ?_<|acl _<|hfs _ (by simp[chO]);exact ab5 _<|acb (hfs _<|by simp[chO]) Nat.one_pos
  |2,_=>
   refine abU ?_<|acl _<|hfs _ (by simp[chO]);refine abU ?_<|acl _<|hfs _ (by simp[chO])
   simp_all
 refine⟨?_,by rw[zb hl];exact hf⟩;rw[Lm hl];rcases ab4 (cw (Z4 p) (l:Int)) 7 with h|h
 .omega
 have:=MX h;have h7:fct 7=5040:=by decide
 omega
end
end
end Go.Proofs.YtoagamanbofngaaGreatDoor
