/- Texts joined. No conditions. -/
import Derived.OpenShut
import Derived.BigRegion
import Derived.Deep.RegionHeld3
import Derived.Test.YtlmjnhnpahicmaaGreatY11
namespace Go.Proofs.YtlmjnhnpahicmaaGreat
noncomputable section
open Go.ChangeShapes Go.WideShapes Go.ChangeAt Go.RowKit
set_option maxRecDepth 100000
def mk1 (k:Int):Ins:=⟨k,k+1,k+1+1,k+1+1+1⟩
def marked (k:Int) (n:Nat):List Ins:=(List.range n).map fun (i:Nat)=>mk1 (k+4*(i:Int))
theorem gV (k:Int) (n:Nat):(marked k n).length=n:=by simp [marked]
theorem AY (k:Int) (n i:Nat) (h:i<(marked k n).length):(marked k n)[i]=mk1 (k+4*i):=by simp [marked]
theorem uj {t:TypeId} {lo hi:Nat} {v:Value} {xs:List Ins} {k:Int} {w:World} (hu:Ow Ins.cells 4 t w lo hi v xs) (hk0:0<=k) (hk1:k+4*xs.length<=1000000000) :
  Calls Tryz.prog 36 #[v,.int .i64 k] w fun e w'=>e = .returned (.int .i64 (k+4*xs.length))/\Ow Ins.cells 4 t w' lo hi v (marked k xs.length)/\w.grownBy w' (if 0<xs.length then v.ownBlock else none):=by
 obtain ⟨A,c,rfl,hc,hm,hA⟩:=hu
 by_cases hn:0<xs.length
 ·obtain ⟨g,cur,rfl,hg1,hg2,hB,hsz,hcur⟩:=hA hn;clear hA hcur;rw [if_pos hn];have HB0:=Lib.hid hB;clear hB;have HS0:=Lib.hid hsz;clear hsz
  go_enter Tryz.func36,Tryz.ntmps36
  go_wp2
  go_loopw [5,1] (fun i m wr=>∃ (j:Nat) (cs:Array Value),j<=xs.length/\i = .int .i64 j/\m = .int .i64 (k+4*j)/\Jl wr g t cs/\cs.size=c*4/\(∀ i,i<j->jR cs (i*4) (mk1 (k+4*i)))/\w.grownBy wr (some g)) (fun i _ _=>xs.length-(intOf i).toNat)
  case atStart=>exact ⟨0,cur,Nat.zero_le _,rfl,by simp,HB0.out,HS0.out,fun i h=>absurd h (by omega),World.grownBy.refl w _⟩
  case round=>
   obtain ⟨j,cs,hj,rfl,rfl,hB,hcs,hin,hgr⟩:=hrel;have HI:=Lib.hid hin;clear hin;have HB:=Lib.hid hB;have HCS:=Lib.hid hcs;have HG:=Lib.hid hgr;clear hgr;clear hB hcs
   by_cases hlt:j<xs.length
   ·have hz:j*4+4<=cs.size:=by rw [HCS.out];omega
    have f0:=HB.out.frozen (j*4);have f1:=HB.out.frozen (j*4+1);have f2:=HB.out.frozen (j*4+2);have f3:=HB.out.frozen (j*4+3);have e0:=HB.out.cell (j*4);have e1:=HB.out.cell (j*4+1);have e2:=HB.out.cell (j*4+2);have e3:=HB.out.cell (j*4+3);rw [Array.getElem?_eq_getElem (by omega)] at e0 e1 e2 e3
    go_wp2_with fail
    go_roundw
    case rel=>
     refine ⟨j+1,qB cs (j*4) (mk1 (k+4*j)),by omega,by go_num,by rw [show (k+4*(j:Int)+1+1+1+1)=k+4*((j+1:Nat):Int) from by omega],(((HB.out.set_ _ _).set_ _ _).set_ _ _).set_ _ _,?_,?_,?_⟩
     ·rw [sj];exact HCS.out
     ·intro i hi
      by_cases e:i=j
      ·subst e;exact jR.same hz
      ·exact (HI.out i (by omega)).far (by omega)
     ·exact jS (jS (jS (jS HG.out rfl _) rfl _) rfl _) rfl _
    case measure=>simp [intOf];omega
   ·have hjx:j=xs.length:=by omega
    have hml:(marked k xs.length).length=xs.length:=gV _ _
    go_wp2
    go_ret
    refine ⟨ik (by rw [hjx]),⟨_,c,by rw [hml],by rw [hml];exact hc,hm,fun _=>⟨g,cs,rfl,hg1,hg2,HB.out,HCS.out,fun i hi q u hu=>?_⟩⟩,HG.out⟩;rw [AY] at hu;exact (HI.out i (by omega)).cells q u hu
 ·have hx:xs.length=0:=by omega
  rw [if_neg hn];have hml:(marked k xs.length).length=xs.length:=gV _ _;have HML:=Lib.hid hml;clear hml;have h0:decide ((0:Int)<(xs.length:Int))=false:=decide_eq_false (by omega);have hfin:Ow Ins.cells 4 t w lo hi (.slice A xs.length c) (marked k xs.length):=by
   have h1:=HML.out;exact ⟨A,c,by rw [h1],by rw [h1];exact hc,hm,fun h=>absurd h (by rw [h1];omega)⟩
  have HF:=Lib.hid hfin;clear hfin hA;clear hn HML
  go_enter Tryz.func36,Tryz.ntmps36
  go_wp2
  refine wp_loop_rounds 1 ?_;rw [rounds_succ]
  go_wp2
  go_ret
  exact ⟨ik (by omega),HF.out,World.grownBy.refl w _⟩
def nM (k:Int) (p:List (List Ins)):List (List Ins):=p.mapIdx fun j r=>marked (k+4*(total (p.take j):Int)) r.length
def qd (k:Int) (p:List (List Ins)) (i j:Nat) (h:j<p.length):List Ins:=if j<i then marked (k+4*(total (p.take j):Int)) p[j].length else p[j]
theorem qK (k:Int) (p:List (List Ins)) (i j:Nat) (h:j<p.length):(qd k p i j h).length=p[j].length:=by
 unfold qd
 split
 ·exact gV _ _
 ·rfl
theorem iG (k:Int) (p:List (List Ins)):(nM k p).length=p.length:=by simp [nM]
theorem nN (k:Int) (p:List (List Ins)) (j:Nat) (h:j<(nM k p).length) (h':j<p.length):(nM k p)[j]=marked (k+4*(total (p.take j):Int)) p[j].length:=by simp [nM]
theorem tF {to ti:TypeId} {lo hi:Nat} {v:Value} {p:List (List Ins)} {k:Int} {w:World} (hu:su Ins.cells 4 to ti w lo hi v p) (hto:to≠ti) (hk0:0<=k) (hk1:k+4*total p<=1000000000) (hpl:p.length<=1000000000) :
  Calls Tryz.prog 12 #[v,.int .i64 k] w fun e w'=>e = .returned (.int .i64 (k+4*total p))/\su Ins.cells 4 to ti w' lo hi v (nM k p)/\Fr lo hi w w':=by
 obtain ⟨vs,⟨A,c,rfl,hc,hm,hA⟩,hvl,hrow,hsep⟩:=hu;have HVL:=Lib.hid hvl;have hvle:vs.length<=1000000000:=by omega
 clear hvl;have HSEP:=Lib.hid hsep;clear hsep
 by_cases hn:0<vs.length
 ·obtain ⟨g,cur,rfl,hg1,hg2,hB,hsz,hcur⟩:=hA hn;have HB0:=Lib.hid hB;clear hB;have HS0:=Lib.hid hsz;clear hsz;have HCUR:Hid (∀ (j:Nat) (h:j<vs.length),cur[j]? = some vs[j]):=by
   intro j h;have := hcur j h 0 vs[j] rfl;simpa using this
  clear hcur hA;have HR0:=Lib.hid hrow;clear hrow
  go_enter Tryz.func12,Tryz.ntmps12
  go_wp2
  go_loopw [5,1] (fun i m wr=>∃ (j:Nat),j<=vs.length/\i = .int .i64 j/\m = .int .i64 (k+4*(total (p.take j):Int))/\Jl wr g to cur/\(∀ (q:Nat) (h:q<vs.length) (h':q<p.length),Ow Ins.cells 4 ti wr lo hi vs[q] (qd k p j q h'))/\Fr lo hi w wr) (fun i _ _=>vs.length-(intOf i).toNat)
  case atStart=>exact ⟨0,Nat.zero_le _,rfl,by simp [total],HB0.out,fun q h h'=>by simpa [qd] using HR0.out q h h',Fr.refl _ _ _⟩
  case round=>
   obtain ⟨j,hj,rfl,rfl,hB,hrw,hfr⟩:=hrel;have HB:=Lib.hid hB;clear hB;have HRW:=Lib.hid hrw;clear hrw;have HF:=Lib.hid hfr;clear hfr;have hglt:=HB.out.lt;have hgh:=hg2
   by_cases hlt:j<vs.length
   ·have hp:j<p.length:=HVL.out ▸ hlt;have e0:=HB.out.cell j;rw [HCUR.out j hlt] at e0;have hrj:=HRW.out j hlt hp;have hrt:qd k p j j hp=p[j]:=by simp [qd]
    rw [hrt] at hrj;have HRJ:=Lib.hid hrj;clear hrj hrt;have HT:=Lib.hid (cW p j hp);have hT1:total (p.take j)+p[j].length<=total p:=by
     have := HT.out;have := gu p (j+1);omega
    have i1:(0:Int)<=(j:Int):=by omega
    have i2:(j:Int)<(vs.length:Int):=by omega
    go_wp2_with fail
    refine (uj HRJ.out (by omega) (by omega)).mono ?_;rintro e w1 ⟨rfl,ho1,hq1⟩;have HO:=Lib.hid ho1;clear ho1;have HQ:=Lib.hid hq1;clear hq1
    go_wp2_with fail
    go_roundw
    case rel=>
     refine ⟨j+1,by omega,by go_num,?_,?_,?_,?_⟩
     ·have h2:=HT.out;exact congrArg (Value.int .i64) (by omega)
     ·refine HB.out.grown HQ.out ?_
      split
      ·rename_i hpos;obtain ⟨g',cur',h1,_,_,h2⟩:=HRJ.out.block hpos;rw [h1];rintro ⟨rfl⟩;exact hto (HB.out.inj h2).1
      ·simp
     ·intro q h h'
      by_cases e:q=j
      ·subst e;have : qd k p (q+1) q h'=marked (k+4*(total (p.take q):Int)) p[q].length:=by simp [qd]
       rw [this];exact HO.out
      ·have : qd k p (j+1) q h'=qd k p j q h':=by
        unfold qd
        by_cases h3:q<j
        ·rw [if_pos (by omega),if_pos h3]
        ·rw [if_neg (by omega),if_neg h3]
       rw [this];refine (HRW.out q h h').grown HQ.out fun hpos=>?_;rw [qK] at hpos
       split
       ·rename_i hpos2;exact HSEP.out q j h hlt h' hp e hpos hpos2
       ·obtain ⟨g',cur',h1,_⟩:=(HRW.out q h h').block (by rw [qK];exact hpos);rw [h1];simp
     ·refine HF.out.trans ⟨HQ.out.os,HQ.out.tape,HQ.out.output,HQ.out.size,fun b hb hbn=>HQ.out.block b hb ?_⟩
      split
      ·rename_i hpos;obtain ⟨g',cur',h1,h2,h3,_⟩:=HRJ.out.block hpos;rw [h1];rintro ⟨rfl⟩;omega
      ·simp
    case measure=>simp [intOf];omega
   ·have hjx:j=vs.length:=by omega
    have hh:total (p.take j)=total p:=by rw [hjx,HVL.out,List.take_length]
    have HH:=Lib.hid hh;clear hh
    go_wp2
    go_ret
    refine ⟨ik (by rw [HH.out]),?_,HF.out⟩;refine ⟨vs,⟨_,c,rfl,hc,hm,fun _=>⟨g,cur,rfl,hg1,hg2,HB.out,HS0.out,fun q h m u hu=>?_⟩⟩,by rw [iG];exact HVL.out,fun q h h' => ?_,fun q m h1 h2 h3 h4 hne hp1 hp2=>?_⟩
    ·match m,hu with
     | 0,hu=>
      simp only [Bb,List.getElem?_cons_zero,sie] at hu;rw [<- hu,Nat.mul_one,Nat.add_zero];exact HCUR.out q h
     | m+1,hu=>simp [Bb] at hu
    ·have h3:q<p.length:=by rw [iG] at h';exact h'
     have h4:=HRW.out q h h3;rw [nN k p q h' h3];have : qd k p j q h3=marked (k+4*(total (p.take q):Int)) p[q].length:=by unfold qd;rw [if_pos (by omega)]
     rw [this] at h4;exact h4
    ·have h5:q<p.length:=by rw [iG] at h3;exact h3
     have h6:m<p.length:=by rw [iG] at h4;exact h4
     rw [nN k p q h3 h5,gV] at hp1;rw [nN k p m h4 h6,gV] at hp2;exact HSEP.out q m h1 h2 h5 h6 hne hp1 hp2
 ·have hx:vs.length=0:=by omega
  have hp0:p=[]:=List.eq_nil_of_length_eq_zero (by rw [<- HVL.out];exact hx);have hv0:vs=[]:=List.eq_nil_of_length_eq_zero hx;have hfin:su Ins.cells 4 to ti w lo hi (.slice A vs.length c) (nM k p):=by
   subst hp0 hv0;exact ⟨[],⟨A,c,rfl,hc,hm,fun h=>absurd h (by simp)⟩,rfl,fun q h=>absurd h (by simp),fun q m h=>absurd h (by simp)⟩
  have ht0:total p=0:=by subst hp0;rfl
  have h0:decide ((0:Int)<(vs.length:Int))=false:=decide_eq_false (by omega);have HF:=Lib.hid hfin;clear hfin hA;have HT0:=Lib.hid ht0;clear ht0 hp0 hv0
  go_enter Tryz.func12,Tryz.ntmps12
  go_wp2
  refine wp_loop_rounds 1 ?_;rw [rounds_succ]
  go_wp2
  go_ret
  exact ⟨ik (by rw [HT0.out];omega),HF.out,Fr.refl _ _ _⟩
def gW (k:Int) (n:Nat):LI:=(List.range n).map fun (i:Nat)=>k+(i:Int)
theorem ni (k:Int) (n:Nat):(gW k n).length=n:=by simp [gW]
theorem tG (k:Int) (n i:Nat) (h:i<(gW k n).length):(gW k n)[i]=k+i:=by simp [gW]
def zZ (w:World) (g:Nat) (t:TypeId) (fr:Nat×Nat) (cs:Array Value):Prop:=w.heap[g]? = some (.cells cs t fr)
section
variable {w w':World} {g:Nat} {t:TypeId} {fr:Nat×Nat} {cs:Array Value}
theorem zZ.lt (h:zZ w g t fr cs):g<w.heap.size:=by
 rcases Nat.lt_or_ge g w.heap.size with hlt | hge
 ·exact hlt
 ·unfold zZ at h;rw [Array.getElem?_eq_none hge] at h;cases h
theorem zZ.cell (h:zZ w g t fr cs) (i:Nat):w.cell? ⟨g,i,none⟩=cs[i]? := cell_of_row w g i cs t fr h
theorem zZ.frozen (h:zZ w g t fr cs) (i:Nat) (hi : ¬ (fr.1<=i/\i<fr.2)):w.frozen? ⟨g,i,none⟩=false:=by
 unfold zZ at h;simp [World.frozen?,h];omega
theorem zZ.set_ (h:zZ w g t fr cs) (i:Nat) (u:Value):zZ (w.setCell ⟨g,i,none⟩ u) g t fr (cs.setIfInBounds i u):=by
 unfold zZ at h ⊢;simp [World.setCell,Array.getElem?_modify,h]
end
def OwF (w:World) (lo hi:Nat) (v:Value) (xs:LI):Prop:=
 ∃ A c,v = .slice A xs.length c/\xs.length<=c/\c<=9223372036854775807/\(0<xs.length->∃ g o t fr cur,A=some ⟨g,o,none⟩/\lo<=g/\g<hi/\zZ w g t fr cur/\(∀ i,i<cur.size -> ¬ (fr.1<=i/\i<fr.2))/\o+xs.length<=cur.size /\
  ∀ (k:Nat) (h:k<xs.length),cur[o+k]? = some (.int .i64 xs[k]))
section
variable {w w':World} {lo hi l h B:Nat} {v:Value} {xs:LI}
theorem OwF.keep (x:OwF w lo hi v xs) (hk:∀ k,k<w.heap.size->lo<=k->k<hi->w'.heap[k]? = w.heap[k]?):OwF w' lo hi v xs:=by
 obtain ⟨A,c,e,hc,hm,r⟩:=x;refine ⟨A,c,e,hc,hm,fun hn=>?_⟩;obtain ⟨g,o,t,fr,cur,e2,h1,h2,h3,h4⟩:=r hn;exact ⟨g,o,t,fr,cur,e2,h1,h2,(hk g h3.lt h1 h2).trans h3,h4⟩
theorem OwF.below (x:OwF w lo hi v xs) (b:Below B w w') (hB:hi<=B):OwF w' lo hi v xs:=x.keep fun k _ _ h2=>b.block k (by omega)
theorem OwF.fr (x:OwF w lo hi v xs) (b:Fr l h w w') (hB:hi<=l\/h<=lo):OwF w' lo hi v xs:=x.keep fun k hk h1 h2=>b.block k hk (by omega)
theorem OwF.sl (x:OwF w lo hi v xs):Sl lM 1 w lo hi v xs:=by
 obtain ⟨A,c,e,hc,hm,r⟩:=x;refine ⟨A,c,e,hc,hm,fun hn=>?_⟩;obtain ⟨g,o,t,fr,cur,e2,h1,h2,h3,_,_,h4⟩:=r hn;refine ⟨g,o,e2,h1,h2,h3.lt,fun k hk j u hu=>?_⟩
 match j,hu with
 | 0,hu=>
  simp only [lM,List.getElem?_cons_zero,sie] at hu;rw [<- hu,Nat.mul_one,Nat.add_zero,h3.cell];exact h4 k hk
 | n+1,hu=>simp [lM] at hu
end
theorem xP {lo hi:Nat} {v:Value} {xs:LI} {k:Int} {w:World} (hu:OwF w lo hi v xs) (hk0:0<=k) (hk1:k+xs.length<=1000000000) :
  Calls Tryz.prog 37 #[v,.int .i64 k] w fun e w'=>e = .returned (.int .i64 (k+xs.length))/\OwF w' lo hi v (gW k xs.length)/\Fr lo hi w w':=by
 obtain ⟨A,c,rfl,hc,hm,hA⟩:=hu;have hml:(gW k xs.length).length=xs.length:=ni _ _
 by_cases hn:0<xs.length
 ·obtain ⟨g,o,t,fr,cur,rfl,hg1,hg2,hB,hfr,hsz,hcur⟩:=hA hn;clear hA hcur;have HB0:=Lib.hid hB;clear hB;have HS0:=Lib.hid hsz;clear hsz;have HFR:=Lib.hid hfr;clear hfr;have HML:=Lib.hid hml;clear hml
  go_enter Tryz.func37,Tryz.ntmps37
  go_wp2_with fail
  go_loopw [5,1] (fun i m wr=>∃ (j:Nat) (cs:Array Value),j<=xs.length/\i = .int .i64 j/\m = .int .i64 (k+j)/\zZ wr g t fr cs/\cs.size=cur.size/\(∀ i,i<j->cs[o+i]? = some (.int .i64 (k+i)))/\Fr lo hi w wr) (fun i _ _=>xs.length-(intOf i).toNat)
  case atStart=>exact ⟨0,cur,Nat.zero_le _,rfl,by simp,HB0.out,rfl,fun i h=>absurd h (by omega),Fr.refl _ _ _⟩
  case round=>
   obtain ⟨j,cs,hj,rfl,rfl,hB,hcs,hin,hgr⟩:=hrel;have HI:=Lib.hid hin;clear hin;have HB:=Lib.hid hB;have HCS:=Lib.hid hcs
   by_cases hlt:j<xs.length
   ·have hz:o+j<cs.size:=by have := HS0.out;omega
    have f0:=hB.frozen (o+j) (HFR.out (o+j) (by omega));have e0:=hB.cell (o+j);rw [Array.getElem?_eq_getElem hz] at e0;clear hB hcs
    go_wp2_with fail
    go_roundw
    case rel=>
     refine ⟨j+1,cs.setIfInBounds (o+j) (.int .i64 (k+j)),by omega,by go_num,congrArg (Value.int .i64) (by omega),HB.out.set_ _ _,by simp;exact HCS.out,?_,hgr.setCell ⟨by omega,by omega⟩ _⟩;intro i hi
     by_cases e:i=j
     ·subst e;exact qD hz
     ·rw [uF (by omega)];exact HI.out i (by omega)
    case measure=>simp [intOf];omega
   ·have hjx:j=xs.length:=by omega
    go_wp2_with fail
    go_ret
    refine ⟨ik (by rw [hjx]),?_,hgr⟩;have hl:=HML.out;refine ⟨_,c,by rw [hl],by rw [hl];exact hc,hm,fun _=>⟨g,o,t,fr,cs,rfl,hg1,hg2,HB.out,fun i hi=>HFR.out i (by rw [<- HCS.out];exact hi),by rw [hl,HCS.out];exact HS0.out,fun i hi=>?_⟩⟩;rw [tG];exact HI.out i (by omega)
 ·have hx:xs=[]:=List.eq_nil_of_length_eq_zero (by omega);have HX:=Lib.hid hx;have hx0:xs.length=0:=by omega
  clear hx hA hml hn;rw [hx0]
  go_enter Tryz.func37,Tryz.ntmps37
  go_wp2_with fail
  refine wp_loop_rounds 1 ?_;rw [rounds_succ]
  go_wp2_with fail
  go_ret
  exact ⟨ik (by simp),⟨_,c,rfl,Nat.zero_le _,hm,fun h=>absurd h (by simp [gW])⟩,Fr.refl _ _ _⟩
theorem I8 {c:Cx} (hr:HRel c) {b ver:Nat} {ty:TypeId} {l:LI} {v:Value} (hlv:c.live b ⟨ver,1,ty,l.map cI⟩) (h0:c.rel (hS false b ver 1 l.length) v):OwF c.w (c.φ b).1 ((c.φ b).1+1) v l:=by
 change VRel c.w c.fz c.born c.hd (.hs b ver 1 0 l.length) v at h0
 cases h0 with
 | fr h=>cases h
 | @hs _ _ _ _ _ cap A hb hc hm ha h=>
  obtain ⟨cs,fr,hB⟩:=hr.blk b _ hlv;obtain ⟨f,rfl,hat,hd⟩:=hB.cells hlv fun x hx=>(h x hx).1;obtain ⟨g1,g2,g3,g4⟩:=h _ hd;refine ⟨A,cap,rfl,hc,hm,fun hn=>?_⟩;have hA:=g3 (by omega);simp only [Nat.zero_mul,Nat.add_zero,Nat.mul_one] at hA g4;refine ⟨(c.φ b).1,(c.φ b).2,ty,f,cs,hA,Nat.le_refl _,Nat.lt_succ_self _,hat,hB.free f rfl,by omega,fun k hk=>?_⟩;obtain ⟨u,h1,_,h2⟩:=hB.rel k [I l[k]] 0 (I l[k]) (by simp [hk,cI]) rfl;obtain ⟨rfl,_⟩:=cA h2;simpa using h1
theorem xQ {P:Program} {f:FuncId} {ars:List AV} {ty:TypeId} {l:LI} {b:Bool} {w:World} {vs:Array Value} (h:bg P f ars [] (yB 1 ty (fun x => .tup [x,Bo b]) l.length (l.map cI) 0 [])) (hl:vs.size=ars.length)
  (hrel:∀ (i:Nat) (a:AV) (v:Value),ars[i]? = some a->vs[i]? = some v->FRel w (fun g=>g<w.heap.size) a v) :
  Calls P f vs w fun e w'=>(∃ v0,e = .returned (.tuple #[v0,.bool b])/\OwF w' w.heap.size w'.heap.size v0 l)/\Below w.heap.size w w':=by
 let c:Cx:={ w:=w,fz:=fun g=>g<w.heap.size,H:=[],φ:=fun _=>(0,0) };have hni:∀ b k,¬ c.live b k:=fun b k hl=>by
  have hl':([]:AH)[b]? = some (some k):=hl;simp at hl'
 have hr:HRel c:=⟨fun g hg=>hg,fun b k hl=>absurd hl (hni b k),fun b b' k k' hl=>absurd hl (hni b k)⟩;refine (h.2 c vs rfl hr ⟨hl,fun i a v ha hv => .fr (hrel i a v ha hv)⟩).mono fun e w' ⟨v,c',r,he,hw,⟨g,ver,hg,hr0,hG⟩,hr',hx,hv⟩ => ?_;subst hw hr0;have hbel:Below w.heap.size w c'.w:=⟨hx.os,hx.tape,hx.output,hx.size,fun g hg=>hx.keep g hg fun b k hl=>absurd hl (hni b k)⟩;refine ⟨?_,hbel⟩;obtain ⟨us,rfl,hus,hu⟩:=nu hv;obtain ⟨us⟩:=us
 match us,hus with
 | [v0,v1],_=>
  have h0:=hu 0 _ v0 rfl rfl;obtain ⟨rfl,_⟩:=cA (hu 1 _ v1 rfl rfl);refine ⟨v0,he,?_⟩
  cases g with
  | true=>
   obtain rfl:=bS h0;have hz:=hg rfl;have hz':l=[]:=List.eq_nil_of_length_eq_zero hz;subst hz';exact ⟨none,0,rfl,Nat.le_refl _,by omega,fun h=>absurd h (by simp)⟩
  | false=>
   have hlv:c'.live 0 ⟨ver,1,ty,l.map cI⟩:=by
    show c'.H[0]? = _;rw [hG]
    rfl
   have hlt:=hr'.live_lt hlv;obtain ⟨A,cap,e1,e2,e3,e4⟩:=I8 hr' hlv h0;refine ⟨A,cap,e1,e2,e3,fun hn=>?_⟩;obtain ⟨g,o,t,fr,cur,q1,q2,q3,q4⟩:=e4 hn;have hgg:g=(c'.φ 0).1:=by omega
   refine ⟨g,o,t,fr,cur,q1,?_,by omega,q4⟩;rcases hx.liveNew 0 _ hlv with h1 | ⟨b0,k0,h1,_⟩
   ·rw [hgg];exact h1
   ·exact absurd h1 (hni b0 k0)
structure FrS (S:Nat->Prop) (w w':World):Prop where
 os:w'.os=w.os
 tape:w'.tape=w.tape
 output:w'.output=w.output
 size:w.heap.size<=w'.heap.size
 block:∀ k,k<w.heap.size -> ¬ S k->w'.heap[k]? = w.heap[k]?
section
variable {a b c:World} {S T:Nat->Prop} {lo hi:Nat}
theorem FrS.refl (S:Nat->Prop) (w:World):FrS S w w:=⟨rfl,rfl,rfl,Nat.le_refl _,fun _ _ _=>rfl⟩
theorem FrS.trans (h:FrS S a b) (k:FrS S b c):FrS S a c:=⟨k.os.trans h.os,k.tape.trans h.tape,k.output.trans h.output,Nat.le_trans h.size k.size,fun i hi hn=>(k.block i (Nat.lt_of_lt_of_le hi h.size) hn).trans (h.block i hi hn)⟩
theorem FrS.mono (h:FrS S a b) (hs:∀ k,S k->T k):FrS T a b:=⟨h.os,h.tape,h.output,h.size,fun k hk hn=>h.block k hk fun hS=>hn (hs k hS)⟩
theorem Fr.toS (h:Fr lo hi a b):FrS (fun k=>lo<=k/\k<hi) a b:=⟨h.os,h.tape,h.output,h.size,fun k hk hn=>h.block k hk (by omega)⟩
theorem FrS.toFr (h:FrS S a b) (hs:∀ k,S k->lo<=k/\k<hi):Fr lo hi a b:=⟨h.os,h.tape,h.output,h.size,fun k hk hn=>h.block k hk fun hS=>by have := hs k hS;omega⟩
theorem OwF.keepS {v:Value} {xs:LI} (x:OwF a lo hi v xs) (h:FrS S a b) (hs:∀ k,lo<=k->k<hi -> ¬ S k):OwF b lo hi v xs:=x.keep fun k hk h1 h2=>h.block k hk (hs k h1 h2)
theorem FrS.cell (h:FrS S a b) {p:Addr} (hp:p.block<a.heap.size) (hn : ¬ S p.block):b.cell? p=a.cell? p:=World.cell?_of_block (w:=a) (h.block p.block hp hn)
end
def EP (w:World) (gO:Nat) (gs:Nat->Nat) (us:Nat->Value) (v:Value) (rows:LL):Prop:=
 ∃ A c o,v = .slice A rows.length c/\rows.length<=c/\c<=9223372036854775807/\(0<rows.length->A=some ⟨gO,o,none⟩/\gO<w.heap.size) /\
  (∀ i,i<rows.length->w.cell? ⟨gO,o+i,none⟩=some (us i)/\OwF w (gs i) (gs i+1) (us i) (rows.getD i [])/\gs i≠gO/\gs i<w.heap.size) /\
  ∀ i j,i<rows.length->j<rows.length->i≠j->gs i≠gs j
def fJ (k:Int) (rows:LL):LL:=(List.range rows.length).map fun i=>gW (k+(total (rows.take i):Int)) (rows.getD i []).length
theorem eH (k:Int) (rows:LL):(fJ k rows).length=rows.length:=by simp [fJ]
theorem qL (k:Int) (rows:LL) {i:Nat} (h:i<rows.length):(fJ k rows).getD i []=gW (k+(total (rows.take i):Int)) (rows.getD i []).length:=by
 rw [gdq];simp [fJ,h]
set_option maxHeartbeats 1000000 in
theorem wD {gO:Nat} {gs:Nat->Nat} {us:Nat->Value} {v:Value} {rows:LL} {k:Int} {w:World} (hu:EP w gO gs us v rows) (hk0:0<=k) (hk1:k+total rows<=1000000000) (hrl:rows.length<=1000000000) :
  Calls Tryz.prog 13 #[v,.int .i64 k] w fun e w'=>e = .returned (.int .i64 (k+total rows))/\EP w' gO gs us v (fJ k rows)/\FrS (fun b=>∃ i,i<rows.length/\b=gs i) w w':=by
 obtain ⟨A,c,o,rfl,hc,hm,hA,hR,hD⟩:=hu
 by_cases hn:0<rows.length
 ·obtain ⟨rfl,hlt0⟩:=hA hn;clear hA;have HR:=Lib.hid hR;clear hR;have HD:=Lib.hid hD;clear hD
  go_enter Tryz.func13,Tryz.ntmps13
  go_wp2_with fail
  go_loopw [5,1] (fun i m wr=>∃ (j:Nat),j<=rows.length/\i = .int .i64 j/\m = .int .i64 (k+(total (rows.take j):Int))/\(∀ i,i<rows.length->OwF wr (gs i) (gs i+1) (us i) (if i<j then gW (k+(total (rows.take i):Int)) (rows.getD i []).length else rows.getD i []))/\FrS (fun b=>∃ i,i<rows.length/\b=gs i) w wr) (fun i _ _=>rows.length-(intOf i).toNat)
  case atStart=>exact ⟨0,Nat.zero_le _,rfl,by simp [total],fun i hi=>by rw [if_neg (by omega)];exact (HR.out i hi).2.1,FrS.refl _ _⟩
  case round=>
   obtain ⟨j,hj,rfl,rfl,hrw,hfr⟩:=hrel;have HRW:=Lib.hid hrw;clear hrw;have HF:=Lib.hid hfr;clear hfr
   by_cases hlt:j<rows.length
   ·have e0:=(HF.out.cell (p:=⟨gO,o+j,none⟩) hlt0 (fun ⟨i,hi,hb⟩=>(HR.out i hi).2.2.1 hb.symm)).trans (HR.out j hlt).1;have hrj:=HRW.out j hlt;rw [if_neg (Nat.lt_irrefl j)] at hrj;have HRJ:=Lib.hid hrj;clear hrj;have hT:total (rows.take (j+1))=total (rows.take j)+(rows.getD j []).length:=by
     rw [cW rows j hlt];have : rows.getD j []=rows[j]:=by simp [hlt]
     rw [this]
    have hT1:total (rows.take j)+(rows.getD j []).length<=total rows:=by
     rw [<- hT];exact gu rows (j+1)
    have hT2:k+(total (rows.take j):Int)+((rows.getD j []).length:Int)<=1000000000:=by omega
    have HT:=Lib.hid hT;clear hT;have HT2:=Lib.hid hT2;clear hT2;have HE9:=Lib.hid (show (rows.getD j []).length=rows[j].length by simp [hlt]);have i1:(0:Int)<=(j:Int):=by omega
    have i2:(j:Int)<(rows.length:Int):=by omega
    go_wp2_with fail
    refine (xP HRJ.out (by omega) HT2.out).mono ?_;rintro e w1 ⟨rfl,ho1,hq1⟩;have HO:=Lib.hid ho1;clear ho1;have HQ:=Lib.hid hq1.toS;clear hq1
    go_wp2_with fail
    go_roundw
    case rel=>
     refine ⟨j+1,by omega,by go_num,?_,fun i hi=>?_,HF.out.trans (HQ.out.mono fun b hb=>⟨j,hlt,by omega⟩)⟩
     ·have h2:=HT.out;have h3:=HE9.out;exact congrArg (Value.int .i64) (by omega)
     ·by_cases e:i=j
      ·subst e;rw [if_pos (by omega)];exact HO.out
      ·have h1:=(HRW.out i hi).keepS HQ.out fun b b1 b2=>by
        have := HD.out i j hi hlt e;omega
       by_cases e2:i<j
       ·rw [if_pos e2] at h1;rw [if_pos (by omega)];exact h1
       ·rw [if_neg e2] at h1;rw [if_neg (by omega)];exact h1
    case measure=>simp [intOf];omega
   ·have hjx:j=rows.length:=by omega
    go_wp2_with fail
    go_ret
    refine ⟨ik (by rw [hjx,List.take_length]),⟨_,c,o,by rw [eH],by rw [eH];exact hc,hm,fun _=>⟨rfl,Nat.lt_of_lt_of_le hlt0 HF.out.size⟩,fun i hi=>?_,fun i i' hi hi' => ?_⟩,HF.out⟩
    ·rw [eH] at hi;obtain ⟨r1,r2,r3,r4⟩:=HR.out i hi;refine ⟨(HF.out.cell (p:=⟨gO,o+i,none⟩) hlt0 (fun ⟨q,hq,hb⟩=>(HR.out q hq).2.2.1 hb.symm)).trans r1,?_,r3,Nat.lt_of_lt_of_le r4 HF.out.size⟩;have := HRW.out i hi;rw [if_pos (by omega)] at this;rw [qL k rows hi];exact this
    ·rw [eH] at hi hi';exact HD.out i i' hi hi'
 ·have h0:rows=[]:=List.eq_nil_of_length_eq_zero (by omega);subst h0
  go_enter Tryz.func13,Tryz.ntmps13
  go_wp2_with fail
  refine wp_loop_rounds 1 ?_;rw [rounds_succ]
  go_wp2_with fail
  go_ret
  exact ⟨ik (by simp [total]),⟨_,c,o,rfl,Nat.zero_le _,hm,fun h=>absurd h (by simp [fJ]),fun i hi=>absurd hi (by simp [fJ]),fun i j hi=>absurd hi (by simp [fJ])⟩,FrS.refl _ _⟩
def OwX (w:World) (lo hi:Nat) (v:Value) (e:Ji):Prop:=
 ∃ v1 v2 a b gO gs us,v = .agg #[v1,v2]/\OwF w a b v1 e.From/\EP w gO gs us v2 e.Order/\(lo<=a/\b<=hi/\b<=w.heap.size)/\(0<e.Order.length->lo<=gO/\gO<hi /\ ¬ (a<=gO/\gO<b))/\∀ i,i<e.Order.length->(lo<=gs i/\gs i<hi) /\ ¬ (a<=gs i/\gs i<b)
theorem EP.keep {w w':World} {gO:Nat} {gs:Nat->Nat} {us:Nat->Value} {v:Value} {rows:LL} (h:EP w gO gs us v rows) (hs:w.heap.size<=w'.heap.size) (hk:∀ b,b<w.heap.size->((0<rows.length/\b=gO)\/∃ i,i<rows.length/\b=gs i)->w'.heap[b]? = w.heap[b]?):EP w' gO gs us v rows:=by
 obtain ⟨A,c,o,e,hc,hm,hA,hR,hD⟩:=h;refine ⟨A,c,o,e,hc,hm,fun hn=>⟨(hA hn).1,Nat.lt_of_lt_of_le (hA hn).2 hs⟩,fun i hi=>?_,hD⟩;obtain ⟨r1,r2,r3,r4⟩:=hR i hi;refine ⟨?_,r2.keep fun b hb h1 h2=>hk b hb (.inr ⟨i,hi,by omega⟩),r3,Nat.lt_of_lt_of_le r4 hs⟩;exact (World.cell?_of_block (w:=w) (a:=⟨gO,o+i,none⟩) (hk gO (hA (by omega)).2 (.inl ⟨by omega,rfl⟩))).trans r1
section
variable {w w':World} {lo hi l h B:Nat} {v:Value} {e:Ji}
theorem OwX.keep (x:OwX w lo hi v e) (hs:w.heap.size<=w'.heap.size) (hk:∀ b,b<w.heap.size->lo<=b->b<hi->w'.heap[b]? = w.heap[b]?):OwX w' lo hi v e:=by
 obtain ⟨v1,v2,a,b,gO,gs,us,e1,h1,h2,h3,h4,h5⟩:=x;refine ⟨v1,v2,a,b,gO,gs,us,e1,h1.keep fun k hk' b1 b2=>hk k hk' (by omega) (by omega),h2.keep hs fun k hb hS=>?_,⟨h3.1,h3.2.1,Nat.le_trans h3.2.2 hs⟩,h4,h5⟩;rcases hS with ⟨h0,rfl⟩ | ⟨i,hi',rfl⟩
 ·exact hk _ hb (h4 h0).1 (h4 h0).2.1
 ·exact hk _ hb (h5 i hi').1.1 (h5 i hi').1.2
theorem OwX.fr (x:OwX w lo hi v e) (b:Fr l h w w') (hB:hi<=l\/h<=lo):OwX w' lo hi v e:=x.keep b.size fun k hk h1 h2=>b.block k hk (by omega)
theorem OwX.nil (w:World) (lo hi:Nat) (h:lo<=hi) (hw:lo<=w.heap.size):OwX w lo hi (.agg #[.slice none 0 0,.slice none 0 0]) ⟨[],[]⟩:=
 ⟨_,_,lo,lo,0,fun _=>0,fun _ => .bool false,rfl,⟨none,0,rfl,Nat.le_refl _,by omega,fun h=>absurd h (by simp)⟩,⟨none,0,0,rfl,Nat.le_refl _,by omega,fun h=>absurd h (by simp),fun i hi=>absurd hi (by simp),fun i j hi=>absurd hi (by simp)⟩,⟨Nat.le_refl _,h,hw⟩,fun h=>absurd h (by simp),fun i hi=>absurd hi (by simp)⟩
end

def Gy (x:Ins):Jh:=⟨x.op,x.loc,x.reg,x.val⟩
theorem tH {α β:Type} [Inhabited β] {f:α->List Value} {s:Nat} {c:β->List AV} {e:α->β} (hf:∀ x,c (e x)=(f x).map AV.v) (hs:∀ x,(f x).length=s) (hp:∀ x,∀ u∈f x,plain u=true) {w:World} {v:Value} {l:List (List α)} {lo hi:Nat} (h:iO f s w lo hi v l) :
  FRel w (fun g=>g<w.heap.size) (eL (cL c) (l.map fun r=>r.map e)) v:=by
 obtain ⟨xs,⟨A,cap,rfl,hc,hm,h⟩,hl,hr⟩:=h;have e0:(l.map fun r=>r.map e).length=xs.length:=by rw [llm,hl]
 have key:∀ (g o:Nat),(0<xs.length->A=some ⟨g,o,none⟩/\g<w.heap.size/\∀ (k:Nat) (h:k<xs.length),w.cell? ⟨g,o+k*1+0,none⟩=some xs[k])->FRel w (fun g=>g<w.heap.size) (eL (cL c) (l.map fun r=>r.map e)) (.slice A xs.length cap):=by
  intro g o hh;unfold eL;rw [e0];have hg:∀ i (h:i<xs.length),(l.map fun r=>r.map e).getD i default=(l[i]'(by omega)).map e:=fun i h=>by simp [List.getD,show i<l.length by omega]
  have one:∀ (i j:Nat) (a:AV),(cL c ((l.map fun r=>r.map e).getD i default))[j]? = some a->j=0/\a=eL c ((l.map fun r=>r.map e).getD i default):=fun i j a ha=>by
   match j with
   | 0=>exact ⟨rfl,(osl ha).symm⟩
   | j+1=>simp [cL] at ha
  have us:∀ i (h:i<xs.length),(xs[i]?.getD (.bool false))=xs[i]:=fun i h=>by simp [h]
  have ho:∀ i (h:i<xs.length),∃ A n k,xs[i] = .slice A n k:=fun i h=>by
   obtain ⟨A,k,he,_⟩:=hr i h (by omega);exact ⟨A,_,k,he⟩
  refine FRel.sl (s:=1) (g:=g) (o:=o) (fun i _=>xs[i]?.getD (.bool false)) hc hm (fun hn=>⟨(hh hn).1,(hh hn).2.1,(hh hn).2.1⟩) (fun i hi=>rfl) (fun i j a hi ha=>?_) (fun i j a hi ha=>?_) (fun i j a hi ha=>?_)
  ·obtain ⟨rfl,_⟩:=one i j a ha;rw [us i hi];exact (hh (by omega)).2.2 i hi
  ·rw [us i hi];obtain ⟨A,n,k,he⟩:=ho i hi;rw [he]
   rfl
  ·obtain ⟨rfl,rfl⟩:=one i j a ha;rw [us i hi,hg i hi];exact uY hf hs hp (by
    obtain ⟨A,cap,e1,e2,e3,e4⟩:=hr i hi (by omega);exact ⟨A,cap,e1,e2,e3,fun hn=>by
     obtain ⟨b,o,g1,g2,g3,g4,g5⟩:=e4 hn;exact ⟨b,o,g1,Nat.zero_le _,g4,g4,g5⟩⟩:Sl f s w 0 w.heap.size xs[i] l[i])
 by_cases h0:0<xs.length
 ·obtain ⟨b,o,hA,_,_,hlt,hcell⟩:=h h0;exact key b o fun _=>⟨hA,hlt,fun k hk=>hcell k hk 0 _ rfl⟩
 ·exact key 0 0 fun h1=>absurd h1 h0
theorem oZ {w:World} {v:Value} {p:List (List Ins)} {lo hi:Nat} (h:iO Ins.cells 4 w lo hi v p):FRel w (fun g=>g<w.heap.size) (eL (cL Jh.c) (p.map fun r=>r.map Gy)) v:=
 tH (f:=Ins.cells) (s:=4) (c:=Jh.c) (e:=Gy) (fun _=>rfl) (fun _=>rfl) (fun x u hu=>by simp [Ins.cells] at hu;rcases hu with rfl | rfl | rfl | rfl <;> rfl) h
theorem xS {w:World} {fz:Nat->Prop} {v:Value} {l:LI} (h:FRel w fz (eL cI l) v):Sl lM 1 w 0 w.heap.size v l:=by
 have := p9 (f:=lM) (s:=1) (c:=cI) (e:=id) (fun _=>rfl) (fun _=>rfl) h
 rwa [List.map_id] at this
theorem qf {w:World} {v:Value} {lo hi:Nat} {l:LI} (h:Sl lM 1 w lo hi v l):FRel w (fun g=>g<w.heap.size) (eL cI l) v:=by
 refine Dn (hi:=hi) ?_;obtain ⟨A,cap,e1,e2,e3,e4⟩:=h;exact ⟨A,cap,e1,e2,e3,fun hn=>by
  obtain ⟨b,o,g1,g2,g3,g4⟩:=e4 hn;exact ⟨b,o,g1,Nat.zero_le _,g3,g4⟩⟩
def SlX (w:World) (lo hi:Nat) (v:Value) (e:Ji):Prop:=∃ v1 v2,v = .agg #[v1,v2]/\Sl lM 1 w lo hi v1 e.From/\iO lM 1 w lo hi v2 e.Order
section
variable {w w':World} {lo hi l h B:Nat} {v:Value} {e:Ji}
theorem SlX.form (x:SlX w lo hi v e):∃ A1 n1 c1 A2 n2 c2,v = .agg #[.slice A1 n1 c1,.slice A2 n2 c2]:=by
 obtain ⟨v1,v2,rfl,⟨A,c,rfl,_⟩,_,⟨A2,c2,rfl,_⟩,_⟩:=x;exact ⟨_,_,_,_,_,_,rfl⟩
theorem SlX.below (x:SlX w lo hi v e) (b:Below B w w') (hB:hi<=B):SlX w' lo hi v e:=by
 obtain ⟨v1,v2,e1,h1,h2⟩:=x;exact ⟨v1,v2,e1,h1.below b hB,h2.below b hB⟩
theorem SlX.fr (x:SlX w lo hi v e) (b:Fr l h w w') (hB:hi<=l\/h<=lo):SlX w' lo hi v e:=by
 obtain ⟨v1,v2,e1,h1,h2⟩:=x;exact ⟨v1,v2,e1,h1.fr b hB,h2.fr b hB⟩
theorem OwF.widen {xs:LI} {a b:Nat} (x:OwF w a b v xs) (h1:lo<=a) (h2:b<=hi):OwF w lo hi v xs:=by
 obtain ⟨A,c,e,hc,hm,r⟩:=x;refine ⟨A,c,e,hc,hm,fun hn=>?_⟩;obtain ⟨g,o,t,fr,cur,q1,q2,q3,q4⟩:=r hn;exact ⟨g,o,t,fr,cur,q1,by omega,by omega,q4⟩
theorem Sl.slice {xs:LI} (x:Sl lM 1 w lo hi v xs):v.oneCell'=true:=by
 obtain ⟨A,c,rfl,_⟩:=x
 rfl
theorem iO.slice {xs:LL} (x:iO lM 1 w lo hi v xs):v.oneCell'=true:=by
 obtain ⟨us,⟨A,c,rfl,_⟩,_⟩:=x
 rfl
theorem H5 (x:SlX w lo hi v e):FRel w (fun g=>g<w.heap.size) (.agg (Ji.c e)) v:=by
 obtain ⟨v1,v2,rfl,h1,h2⟩:=x;have f1:=qf h1;have f2:=tH (f:=lM) (s:=1) (c:=cI) (e:=id) (fun _=>rfl) (fun _=>rfl) (fun x u hu=>by simp [lM] at hu;subst hu;rfl) h2;simp only [List.map_id,List.map_id'] at f2;refine .agg rfl (fun i u hu=>?_) fun i c u hc hu=>?_
 ·match i,hu with
  | 0,hu=>
   obtain rfl:v1=u:=by simpa using hu
   exact h1.slice
  | 1,hu=>
   obtain rfl:v2=u:=by simpa using hu
   exact h2.slice
  | n+2,hu=>simp at hu
 ·match i,hc,hu with
  | 0,hc,hu=>
   obtain rfl:=osl hc;obtain rfl:v1=u:=by simpa using hu
   exact f1
  | 1,hc,hu=>
   obtain rfl:=osl hc;obtain rfl:v2=u:=by simpa using hu
   exact f2
  | n+2,hc,hu=>simp [Ji.c] at hc
end
open Go.ChangeShapes Go.WideShapes Go.ChangeAt Go.RowKit Go.Shelf Go.Sort
def RdV (w:World) (blk:Nat):Type:={ p:Value×List Int×Nat // p.1.oneCell'=true/\OwF w p.2.2 (p.2.2+1) p.1 p.2.1/\p.2.2≠blk }
instance {w:World} {blk:Nat}:Inhabited (RdV w blk):=⟨⟨(.slice none 0 0,[],blk+1),rfl,⟨none,0,rfl,Nat.le_refl _,by decide,fun h=>absurd h (by simp)⟩,Nat.succ_ne_self blk⟩⟩
def ve {w:World} {blk:Nat} (x:RdV w blk):Value:=x.1.1
def qO {w:World} {blk:Nat} (x:RdV w blk):LI:=x.1.2.1
theorem wE {α:Type} [Inhabited α] {enc:α->Value} {w:World} {blk off m g:Nat} {d:Array α} {os:Array Obj} (hg:g<w.heap.size) (h:g≠blk):(sortWorld enc w blk off m d os).heap[g]? = w.heap[g]? := by
 rw [iE hg,kx h]
theorem qg {α:Type} [Inhabited α] {enc:α->Value} {w:World} {blk off m:Nat} {d:Array α} {os:Array Obj}:w.heap.size<=(sortWorld enc w blk off m d os).heap.size:=by
 show _<=((putRow enc (Sort.ahead w m) blk off d).heap++os).size;rw [Array.size_append,size_putRow];show w.heap.size<=w.heap.size+os.size;omega
theorem EQ {w:World} {blk off size:Nat}:CmpLays1 Tryz.prog 71 #[] (ve (w:=w) (blk:=blk)) (fun x y=>cmpL (qO x) (qO y)) blk off size w:=by
 intro m os dk hs x y;have hx:Sl lM 1 (sortWorld ve w blk off m dk os) x.1.2.2 (x.1.2.2+1) (ve x) (qO x):=x.2.2.1.sl.keep qg fun k hk h1 h2=>wE hk (by have := x.2.2.2;omega);have hy:Sl lM 1 (sortWorld ve w blk off m dk os) y.1.2.2 (y.1.2.2+1) (ve y) (qO y):=y.2.2.1.sl.keep qg fun k hk h1 h2=>wE hk (by have := y.2.2.2;omega);refine (tq hx hy).mono fun e w' ⟨he,hw⟩=>⟨he,0,#[],?_⟩;rw [hw,grow_empty]
 rfl
theorem Dx {w:World} {blk off cap:Nat} {d:Array (RdV w blk)} (hH:Holds (ve (w:=w) (blk:=blk)) w blk off d) (hblk:blk<w.heap.size) (hsz:d.size<4611686018427387904) :
  Calls Tryz.prog 70 #[.slice (some ⟨blk,off,none⟩) d.size cap,.func (.func 71) #[] #[]] w fun e w'=>
   e = .returned (.tuple #[])/\∃ (d':Array (RdV w blk)) (m:Nat) (os:Array Obj),d'.toList.Perm d.toList/\(d'.toList.map qO).Pairwise (fun x y=>leL x y=true)/\w'=sortWorld ve w blk off m d' os:=by
 have eg:∀ args w,(callFunc 71 args).run Tryz.prog w = .ok (.enter 71 args) w:=enters_of Tryz.func71 (by kernel_rfl) rfl;have hcon:=Any.slices_SortFunc Dq (ve (w:=w) (blk:=blk)) (fun x=>x.2.1) (fun x y=>cmpL (qO x) (qO y)) (zY qO) 71 #[] blk off cap d w eg EQ hH hblk hsz;refine (show Calls Tryz.prog 70 _ _ _ from hcon).mono ?_;rintro e w' ⟨rfl,d',m,os,hp,hs,rfl⟩;have hds':d'.size=d.size:=hp.1;have hpl:d'.toList.Perm d.toList:=by
  have := hp.2.2
  rwa [Array.extract_eq_self_of_le (by omega),Array.extract_eq_self_of_le (by omega)] at this
 refine ⟨rfl,d',m,os,hpl,?_,rfl⟩;rw [List.pairwise_map,List.pairwise_iff_getElem];intro i j h1 h2 hij;have := hs i j (Nat.zero_le _) hij (by rw [<- hds'];simpa using h2);rw [getElem!_pos d' j (by simpa using h2),getElem!_pos d' i (by simpa using h1)] at this;unfold ltOf at this;unfold leL;rw [dte];simpa using this
theorem Aa {w:World} {fz:Nat->Prop} {a b:AV} {x y:Value} (ha:FRel w fz a x) (hb:FRel w fz b y):∀ (j:Nat) (d:AV) (z:Value),[a,b][j]? = some d -> #[x,y][j]? = some z->FRel w fz d z:=by
 intro j d z hd hz
 match j with
 | 0=>
  obtain rfl:=osl hd;obtain rfl:x=z:=by simpa using hz
  exact ha
 | 1=>
  obtain rfl:=osl hd;obtain rfl:y=z:=by simpa using hz
  exact hb
 | j+2=>simp at hd
theorem Gz {w:World} {lo hi lo' hi':Nat} {u v:Value} {xs ys:LI} (hu:Sl lM 1 w lo hi u xs) (hv:Sl lM 1 w lo' hi' v ys) (hx:xs.length<=1048576) :
  Calls Tryz.prog 73 #[u,v] w fun e w'=>e = .returned (.bool (decide (xs=ys)))/\Below w.heap.size w w':=
 (eY (cN xs ys (yJ xs ys hx).eq) #[u,v] rfl (Aa (qf hu) (qf hv))).mono fun e w' ⟨v,fz',h1,h2,h3⟩=>⟨by rw [h1,xM h3],h2⟩
theorem xU {w:World} {blk off n cap:Nat} {us:Nat->Value} {lo hi:Nat->Nat} {rows:LL} (hn:rows.length=n) (hc:∀ k,k<n->w.cell? ⟨blk,off+k,none⟩=some (us k)) (hr:∀ k,k<n->Sl lM 1 w (lo k) (hi k) (us k) (rows.getD k [])/\hi k<=w.heap.size)
  (hb:0<n->blk<w.heap.size) (hd:∀ k,k+1<n->rows.getD (k+1) []≠rows.getD k []) (hl:∀ k,k<n->(rows.getD k []).length<=1048576) (hcap:n<=cap/\cap<=9223372036854775807) :
  Calls Tryz.prog 72 #[.slice (some ⟨blk,off,none⟩) n cap,.func (.func 73) #[] #[]] w fun e w'=>e = .returned (.slice (some ⟨blk,off,none⟩) n cap)/\Below w.heap.size w w':=by
 have HC:=Lib.hid hc;clear hc;have HR:=Lib.hid hr;clear hr;have HD:=Lib.hid hd;clear hd;have HL:=Lib.hid hl;clear hl;clear hn
 by_cases h2:(n:Int)<2
 ·go_enter Tryz.func72,Tryz.ntmps72
  go_wp2_with fail
  go_ret
  exact ⟨rfl,Below.refl _ _⟩
 ·have hb':=hb (by omega)
  go_enter Tryz.func72,Tryz.ntmps72
  go_wp2_with fail
  go_loopw [5] (fun i wr=>∃ k:Nat,1<=k/\k<=n/\i = .int .i64 k/\Below w.heap.size w wr) (fun i _=>n-(intOf i).toNat)
  case atStart=>exact ⟨1,Nat.le_refl _,by omega,rfl,Below.refl _ _⟩
  case round=>
   obtain ⟨k,hk1,hk,rfl,hbl⟩:=hrel
   by_cases hlt:k<n
   ·have c1:=(hbl.cell (p:=⟨blk,off+k,none⟩) hb').trans (HC.out k hlt);have c0:=(hbl.cell (p:=⟨blk,off+(k-1),none⟩) hb').trans (HC.out (k-1) (by omega));have R1:=Lib.hid ((HR.out k hlt).1.below hbl (HR.out k hlt).2);have R0:=Lib.hid ((HR.out (k-1) (by omega)).1.below hbl (HR.out (k-1) (by omega)).2);have i1:(0:Int)<=(k:Int):=by omega
    have i2:(k:Int)<(n:Int):=by omega
    have i3:(0:Int)<=(k:Int)-1:=by omega
    have i4:(k:Int)-1<(n:Int):=by omega
    have i5:(1:Int)<=(k:Int):=by omega
    have i6:(k:Int)<=(n:Int):=by omega
    have i7:IntKind.i64.wrap ((k:Int)-1)=((k-1:Nat):Int):=by rw [IntWalk.i64_in _ (by omega)];omega
    have ia:(0:Int)<=((k-1:Nat):Int):=by omega
    have ib:((k-1:Nat):Int)<(n:Int):=by omega
    have i8:(-9223372036854775808:Int)<=(k:Int)-1:=by omega
    have i9:(k:Int)-1<=9223372036854775807:=by omega
    have c0':wr.cell? ⟨blk,off+(k-1),none⟩=some (us (k-1)):=c0;have hne:decide (rows.getD k []=rows.getD (k-1) [])=false:=decide_eq_false (by
     have := HD.out (k-1) (by omega);rw [show k-1+1=k by omega] at this;exact this)
    have hlk:=HL.out k hlt
    go_wp2_with fail
    go_region_held3 (fun w'=>w'.cell? ⟨blk,off+k,none⟩=some (us k)/\w'.cell? ⟨blk,off+(k-1),none⟩=some (us (k-1)))
     (first | exact ⟨c1,c0'⟩ | exact ⟨(hq1.cell (p:=⟨blk,off+k,none⟩) hbr).trans c1,(hq1.cell (p:=⟨blk,off+(k-1),none⟩) hbr).trans c0'⟩)
     (first | (go_at_call 73;refine (Gz (w:=wr.drew) R1.out R0.out hlk).mono ?_;rintro e w1 ⟨rfl,hq1⟩;have hbr:blk<wr.drew.heap.size:=Nat.lt_of_lt_of_le hb' hbl.size))
    have hbw:Below w.heap.size w w1:=hbl.drew.trans (hq1.mono hbl.size)
    go_wp2_with fail
    ·exfalso;have h1:rows[k]?.getD []=rows[k-1]?.getD []:=by assumption
     exact of_decide_eq_false hne (by rw [gdq,gdq];exact h1)
    ·exact ⟨⟨k+1,by omega,by omega,by go_num,hbw⟩,by simp [intOf];omega⟩
   ·have hkx:k=n:=by omega
    subst hkx
    go_wp2_with fail
    go_ret
    exact ⟨rfl,hbl⟩
theorem AZ {w:World} {blk off m:Nat} {d:Array (RdV w blk)} {os:Array Obj} {cs:Array Value} {t:TypeId} {fr:Nat×Nat} (hB:w.heap[blk]? = some (.cells cs t fr)) (hlt:blk<w.heap.size) :
  (sortWorld ve w blk off m d os).heap[blk]? = some (.cells (putCells ve off d cs) t fr):=by
 rw [iE hlt];exact ng hB
theorem ER {w:World} {blk off m:Nat} {d:Array (RdV w blk)} {os:Array Obj}:FrS (fun b=>b=blk) w (sortWorld ve w blk off m d os):=
 ⟨rfl,rfl,rfl,qg,fun k hk hn=>wE hk hn⟩
theorem zb {w:World} {blk off cap n:Nat} {d:Array (RdV w blk)} {cs:Array Value} {t:TypeId} (hn:d.size=n) (h0:0<n) (hB:Jl w blk t cs) (hfit:off+n<=cs.size) (hH:∀ j,j<n->cs[off+j]? = some (ve d[j]!))
  (hnd:(d.toList.map qO).Nodup) (hl:∀ x∈d.toList,(qO x).length<=1048576) (hcap:n<=cap/\cap<=9223372036854775807) (hsz:n<4611686018427387904) :
  Calls Tryz.prog 33 #[.slice (some ⟨blk,off,none⟩) n cap] w fun e w'=>e = .returned (.slice (some ⟨blk,off,none⟩) n cap) /\
   ∃ (d':Array (RdV w blk)) (cs':Array Value),d'.toList.Perm d.toList/\(d'.toList.map qO).Pairwise (fun x y=>leL x y=true)/\Jl w' blk t cs'/\(∀ j,j<n->cs'[off+j]? = some (ve d'[j]!))/\FrS (fun b=>b=blk) w w':=by
 have hlt:=hB.lt;have HH:Holds (ve (w:=w) (blk:=blk)) w blk off d:=fun j hj=>by
  refine ⟨?_,Jl.frozen hB _⟩;have := hH j (by omega);rw [Jl.cell hB];exact this
 have HS:=Lib.hid (Dx (cap:=cap) HH hlt (by omega));clear HH;rw [hn] at HS;have HND:=Lib.hid hnd;clear hnd;have HL:=Lib.hid hl;clear hl;have HB:=Lib.hid hB;clear hB;clear hH
 go_enter Tryz.func33,Tryz.ntmps33
 go_wp2_with fail
 refine HS.out.mono ?_;rintro e w1 ⟨rfl,d',m,os,hperm,hsort,hw1⟩;have hds:d'.size=n:=by rw [<- hn];simpa using hperm.length_eq
 have hB1:Jl w1 blk t (putCells ve off d' cs):=by rw [hw1];exact AZ HB.out hlt
 have hfr:FrS (fun b=>b=blk) w w1:=by rw [hw1];exact ER
 have HP:=Lib.hid hperm;clear hperm;have HSO:=Lib.hid hsort;clear hsort;have hcell:∀ j,j<n->(putCells ve off d' cs)[off+j]? = some (ve d'[j]!):=fun j hj=>qI (by omega) (by omega);have HCE:=Lib.hid hcell;clear hcell;have HB1:=Lib.hid hB1;clear hB1;have HF:=Lib.hid hfr;clear hfr;have hnd':(d'.toList.map qO).Nodup:=(HP.out.map qO).nodup_iff.2 HND.out;have hget:∀ k (hk:k<n),(d'.toList.map qO).getD k []=qO d'[k]! := fun k hk=>by
  rw [gdq,List.getElem?_map,Array.getElem?_toList,qJ (by omega)]
  rfl
 have hel:∀ k,k<n->d'[k]! ∈ d'.toList:=fun k hk=>by
  rw [getElem!_pos d' k (by omega)];exact Array.getElem_mem_toList (by omega)
 have hcomp:=xU (w:=w1) (blk:=blk) (off:=off) (n:=n) (cap:=cap) (us:=fun k=>ve d'[k]!) (lo:=fun k=>if 0<(qO d'[k]!).length then d'[k]!.1.2.2 else 0) (hi:=fun k=>if 0<(qO d'[k]!).length then d'[k]!.1.2.2+1 else 0) (rows:=d'.toList.map qO) (by simp [hds])
  (fun k hk=>by rw [Jl.cell HB1.out];exact HCE.out k hk)
  (fun k hk=>by
   rw [hget k hk];have hS:=d'[k]!.2.2.1.sl;have hne:=d'[k]!.2.2.2;have hS1:Sl lM 1 w1 d'[k]!.1.2.2 (d'[k]!.1.2.2+1) (ve d'[k]!) (qO d'[k]!):=hS.keep HF.out.size fun q hq q1 q2=>HF.out.block q hq (by omega)
   by_cases hp:0<(qO d'[k]!).length
   ·rw [if_pos hp,if_pos hp];refine ⟨hS1,?_⟩;obtain ⟨A,c,_,_,_,r⟩:=hS1;obtain ⟨g,o,_,g1,g2,g3,_⟩:=r hp;omega
   ·rw [if_neg hp,if_neg hp];refine ⟨?_,Nat.zero_le _⟩;obtain ⟨A,c,e1,e2,e3,_⟩:=hS1;exact ⟨A,c,e1,e2,e3,fun h=>absurd h hp⟩)
  (fun _=>Nat.lt_of_lt_of_le hlt HF.out.size)
  (fun k hk e=>by
   have := List.pairwise_iff_getElem.1 hnd' k (k+1) (by simp;omega) (by simp;omega) (Nat.lt_succ_self k);apply this;rw [gdq,gdq,geq (by simp;omega),geq (by simp;omega)] at e;exact e.symm)
  (fun k hk=>by
   rw [hget k hk];exact HL.out _ (HP.out.mem_iff.1 (hel k hk))) hcap
 have HCO:=Lib.hid hcomp;clear hcomp;clear hget hel hnd' hw1
 go_wp2_with fail
 refine HCO.out.mono ?_;rintro e w2 ⟨rfl,hb2⟩;have HB2:=Lib.hid hb2;clear hb2
 go_wp2_with fail
 go_ret
 exact ⟨rfl,d',_,HP.out,HSO.out,HB1.out.below HB2.out (Nat.lt_of_lt_of_le hlt HF.out.size),HCE.out,HF.out.trans ⟨HB2.out.os,HB2.out.tape,HB2.out.output,HB2.out.size,fun k hk _=>HB2.out.block k hk⟩⟩
def SlE (w:World) (v:Value) (l:List Ji):Prop:=
 ∃ A c b o,∃ us vs:Nat->Value,v = .slice A l.length c/\l.length<=c/\c<=9223372036854775807/\(0<l.length->A=some ⟨b,o,none⟩/\b<w.heap.size) /\
  ∀ k,k<l.length->w.cell? ⟨b,o+k*2,none⟩=some (us k)/\w.cell? ⟨b,o+k*2+1,none⟩=some (vs k)/\SlX w 0 w.heap.size (.agg #[us k,vs k]) (l.getD k default)
theorem ze {w:World} {fz:Nat->Prop} {l:List Ji} {v:Value} (h:FRel w fz (eL Ji.c l) v):SlE w v l:=by
 unfold eL at h
 cases h with
 | @sl n cap s g o row a us hc hm ha hr hu h1 h=>
  refine ⟨a,cap,g,o,fun k=>us k 0,fun k=>us k 1,rfl,hc,hm,fun hn=>⟨(ha hn).1,(ha hn).2.2⟩,fun k hk=>?_⟩;have hs2:s=2:=(hr k hk).symm;subst hs2;have c0:(Ji.c (l.getD k default))[0]? = some (eL cI (l.getD k default).From):=rfl;have c1:(Ji.c (l.getD k default))[1]? = some (eL (cL cI) (l.getD k default).Order):=rfl;have h2:=xS (h k 0 _ hk c0);have h3:=j6 (f:=lM) (s:=1) (c:=cI) (e:=id) (fun _=>rfl) (fun _=>rfl) (h k 1 _ hk c1);simp only [List.map_id,List.map_id'] at h3;exact ⟨hu k 0 _ hk c0,hu k 1 _ hk c1,_,_,rfl,h2,h3⟩
end
end Go.Proofs.YtlmjnhnpahicmaaGreat
