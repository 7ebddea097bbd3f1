/-
 Contracts of markInstrS, markInstrSS. Conditions: the slices read as lists of at most 1048576 elements in all; what is marked lies in blocks of its own.
-/
import Derived.Test.YtlmjnhnpahicmaaMark
namespace Go.Proofs.Ytlmjnhnpahicmaa
open Go.ChangeShapes Go.WideShapes Go.ChangeAt Go.RowKit
set_option maxRecDepth 100000
def mk1 (k:Int):Ins:=⟨k,k+1,k+1+1,k+1+1+1⟩
def marked (k:Int) (n:Nat):List Ins:=(List.range n).map fun (i:Nat)=>mk1 (k+4*(i:Int))
theorem marked_length (k:Int) (n:Nat):(marked k n).length=n:=by simp [marked]
theorem marked_get (k:Int) (n i:Nat) (h:i<(marked k n).length):(marked k n)[i]=mk1 (k+4*i):=by simp [marked]
theorem markInstrS_any {t:TypeId} {lo hi:Nat} {v:Value} {xs:List Ins} {k:Int} {w:World} (hu:Ow Ins.cells 4 t w lo hi v xs) (hk0:0<=k) (hk1:k+4*xs.length<=1000000000) :
  Calls Try.prog 54 #[v,.int .i64 k] w fun e w'=>e = .returned (.int .i64 (k+4*xs.length))/\Ow Ins.cells 4 t w' lo hi v (marked k xs.length)/\w.grownBy w' (if 0<xs.length then v.ownBlock else none):=by
 obtain ⟨A,c,rfl,hc,hm,hA⟩:=hu
 by_cases hn:0<xs.length
 ·obtain ⟨g,cur,rfl,hg1,hg2,hB,hsz,hcur⟩:=hA hn
  clear hA hcur
  rw [if_pos hn]
  have HB0:=Lib.hid hB;clear hB
  have HS0:=Lib.hid hsz;clear hsz
  go_enter Try.func54,Try.ntmps54
  go_wp2
  go_loopw [5,1] (fun i m wr=>∃ (j:Nat) (cs:Array Value),j<=xs.length/\i = .int .i64 j/\m = .int .i64 (k+4*j)/\Blk wr g t cs/\cs.size=c*4/\(∀ i,i<j->HasIns cs (i*4) (mk1 (k+4*i)))/\w.grownBy wr (some g)) (fun i _ _=>xs.length-(intOf i).toNat)
  case atStart=>exact ⟨0,cur,Nat.zero_le _,rfl,by simp,HB0.out,HS0.out,fun i h=>absurd h (by omega),World.grownBy.refl w _⟩
  case round=>
   obtain ⟨j,cs,hj,rfl,rfl,hB,hcs,hin,hgr⟩:=hrel
   have HI:=Lib.hid hin;clear hin
   have HB:=Lib.hid hB;have HCS:=Lib.hid hcs
   have HG:=Lib.hid hgr;clear hgr
   clear hB hcs
   by_cases hlt:j<xs.length
   ·have hz:j*4+4<=cs.size:=by rw [HCS.out];omega
    have f0:=HB.out.frozen (j*4)
    have f1:=HB.out.frozen (j*4+1)
    have f2:=HB.out.frozen (j*4+2)
    have f3:=HB.out.frozen (j*4+3)
    have e0:=HB.out.cell (j*4)
    have e1:=HB.out.cell (j*4+1)
    have e2:=HB.out.cell (j*4+2)
    have e3:=HB.out.cell (j*4+3)
    rw [Array.getElem?_eq_getElem (by omega)] at e0 e1 e2 e3
    go_wp2_with fail
    go_roundw
    case rel=>
     refine ⟨j+1,setIns cs (j*4) (mk1 (k+4*j)),by omega,by go_num,by rw [show (k+4*(j:Int)+1+1+1+1)=k+4*((j+1:Nat):Int) from by omega],(((HB.out.set_ _ _).set_ _ _).set_ _ _).set_ _ _,?_,?_,?_⟩
     ·rw [size_setIns];exact HCS.out
     ·intro i hi
      by_cases e:i=j
      ·subst e;exact HasIns.same hz
      ·exact (HI.out i (by omega)).far (by omega)
     ·exact only_setCell (only_setCell (only_setCell (only_setCell HG.out rfl _) rfl _) rfl _) rfl _
    case measure=>simp [intOf];omega
   ·have hjx:j=xs.length:=by omega
    have hml:(marked k xs.length).length=xs.length:=marked_length _ _
    go_wp2
    go_ret
    refine ⟨ret_int (by rw [hjx]),⟨_,c,by rw [hml],by rw [hml];exact hc,hm,fun _=>⟨g,cs,rfl,hg1,hg2,HB.out,HCS.out,fun i hi q u hu => ?_⟩⟩,HG.out⟩
    rw [marked_get] at hu
    exact (HI.out i (by omega)).cells q u hu
 ·have hx:xs.length=0:=by omega
  rw [if_neg hn]
  have hml:(marked k xs.length).length=xs.length:=marked_length _ _
  have HML:=Lib.hid hml;clear hml
  have h0:decide ((0:Int)<(xs.length:Int))=false:=decide_eq_false (by omega)
  have hfin:Ow Ins.cells 4 t w lo hi (.slice A xs.length c) (marked k xs.length):=by
   have h1:=HML.out
   exact ⟨A,c,by rw [h1],by rw [h1];exact hc,hm,fun h=>absurd h (by rw [h1];omega)⟩
  have HF:=Lib.hid hfin;clear hfin hA
  clear hn HML
  go_enter Try.func54,Try.ntmps54
  go_wp2
  refine wp_loop_rounds 1 ?_
  rw [rounds_succ]
  go_wp2
  go_ret
  exact ⟨ret_int (by omega),HF.out,World.grownBy.refl w _⟩
def markedP (k:Int) (p:List (List Ins)):List (List Ins):=p.mapIdx fun j r=>marked (k+4*(total (p.take j):Int)) r.length
def rowTo (k:Int) (p:List (List Ins)) (i j:Nat) (h:j<p.length):List Ins:=if j<i then marked (k+4*(total (p.take j):Int)) p[j].length else p[j]
theorem rowTo_length (k:Int) (p:List (List Ins)) (i j:Nat) (h:j<p.length):(rowTo k p i j h).length=p[j].length:=by
 unfold rowTo
 split
 ·exact marked_length _ _
 ·rfl
theorem markedP_length (k:Int) (p:List (List Ins)):(markedP k p).length=p.length:=by simp [markedP]
theorem markedP_get (k:Int) (p:List (List Ins)) (j:Nat) (h:j<(markedP k p).length) (h':j<p.length):(markedP k p)[j]=marked (k+4*(total (p.take j):Int)) p[j].length:=by simp [markedP]
theorem markInstrSS_any {to ti:TypeId} {lo hi:Nat} {v:Value} {p:List (List Ins)} {k:Int} {w:World} (hu:OwOw Ins.cells 4 to ti w lo hi v p) (hto:to≠ti) (hk0:0<=k) (hk1:k+4*total p<=1000000000) (hpl:p.length<=1000000000) :
  Calls Try.prog 19 #[v,.int .i64 k] w fun e w'=>e = .returned (.int .i64 (k+4*total p))/\OwOw Ins.cells 4 to ti w' lo hi v (markedP k p)/\Fr lo hi w w':=by
 obtain ⟨vs,⟨A,c,rfl,hc,hm,hA⟩,hvl,hrow,hsep⟩:=hu
 have HVL:=Lib.hid hvl
 have hvle:vs.length<=1000000000:=by omega
 clear hvl
 have HSEP:=Lib.hid hsep;clear hsep
 by_cases hn:0<vs.length
 ·obtain ⟨g,cur,rfl,hg1,hg2,hB,hsz,hcur⟩:=hA hn
  have HB0:=Lib.hid hB;clear hB
  have HS0:=Lib.hid hsz;clear hsz
  have HCUR:Hid (∀ (j:Nat) (h:j<vs.length),cur[j]? = some vs[j]):=by
   intro j h
   have := hcur j h 0 vs[j] rfl
   simpa using this
  clear hcur hA
  have HR0:=Lib.hid hrow;clear hrow
  go_enter Try.func19,Try.ntmps19
  go_wp2
  go_loopw [5,1] (fun i m wr=>∃ (j:Nat),j<=vs.length/\i = .int .i64 j/\m = .int .i64 (k+4*(total (p.take j):Int))/\Blk wr g to cur/\(∀ (q:Nat) (h:q<vs.length) (h':q<p.length),Ow Ins.cells 4 ti wr lo hi vs[q] (rowTo k p j q h'))/\Fr lo hi w wr) (fun i _ _=>vs.length-(intOf i).toNat)
  case atStart=>exact ⟨0,Nat.zero_le _,rfl,by simp [total],HB0.out,fun q h h'=>by simpa [rowTo] using HR0.out q h h',Fr.refl _ _ _⟩
  case round=>
   obtain ⟨j,hj,rfl,rfl,hB,hrw,hfr⟩:=hrel
   have HB:=Lib.hid hB;clear hB
   have HRW:=Lib.hid hrw;clear hrw
   have HF:=Lib.hid hfr;clear hfr
   have hglt:=HB.out.lt
   have hgh:=hg2
   by_cases hlt:j<vs.length
   ·have hp:j<p.length:=HVL.out ▸ hlt
    have e0:=HB.out.cell j
    rw [HCUR.out j hlt] at e0
    have hrj:=HRW.out j hlt hp
    have hrt:rowTo k p j j hp=p[j]:=by simp [rowTo]
    rw [hrt] at hrj
    have HRJ:=Lib.hid hrj;clear hrj hrt
    have HT:=Lib.hid (total_take_succ p j hp)
    have hT1:total (p.take j)+p[j].length<=total p:=by
     have := HT.out
     have := total_take_le p (j+1)
     omega
    have i1:(0:Int)<=(j:Int):=by omega
    have i2:(j:Int)<(vs.length:Int):=by omega
    go_wp2_with fail
    refine (markInstrS_any HRJ.out (by omega) (by omega)).mono ?_
    rintro e w1 ⟨rfl,ho1,hq1⟩
    have HO:=Lib.hid ho1;clear ho1
    have HQ:=Lib.hid hq1;clear hq1
    go_wp2_with fail
    go_roundw
    case rel=>
     refine ⟨j+1,by omega,by go_num,?_,?_,?_,?_⟩
     ·have h2:=HT.out
      exact congrArg (Value.int .i64) (by omega)
     ·refine HB.out.grown HQ.out ?_
      split
      ·rename_i hpos
       obtain ⟨g',cur',h1,_,_,h2⟩:=HRJ.out.block hpos
       rw [h1]
       rintro ⟨rfl⟩
       exact hto (HB.out.inj h2).1
      ·simp
     ·intro q h h'
      by_cases e:q=j
      ·subst e
       have : rowTo k p (q+1) q h'=marked (k+4*(total (p.take q):Int)) p[q].length:=by simp [rowTo]
       rw [this]
       exact HO.out
      ·have : rowTo k p (j+1) q h'=rowTo k p j q h':=by
        unfold rowTo
        by_cases h3:q<j
        ·rw [if_pos (by omega),if_pos h3]
        ·rw [if_neg (by omega),if_neg h3]
       rw [this]
       refine (HRW.out q h h').grown HQ.out fun hpos => ?_
       rw [rowTo_length] at hpos
       split
       ·rename_i hpos2
        exact HSEP.out q j h hlt h' hp e hpos hpos2
       ·obtain ⟨g',cur',h1,_⟩:=(HRW.out q h h').block (by rw [rowTo_length];exact hpos)
        rw [h1]
        simp
     ·refine HF.out.trans ⟨HQ.out.os,HQ.out.tape,HQ.out.output,HQ.out.size,fun b hb hbn=>HQ.out.block b hb ?_⟩
      split
      ·rename_i hpos
       obtain ⟨g',cur',h1,h2,h3,_⟩:=HRJ.out.block hpos
       rw [h1]
       rintro ⟨rfl⟩
       omega
      ·simp
    case measure=>simp [intOf];omega
   ·have hjx:j=vs.length:=by omega
    have hh:total (p.take j)=total p:=by rw [hjx,HVL.out,List.take_length]
    have HH:=Lib.hid hh
    clear hh
    go_wp2
    go_ret
    refine ⟨ret_int (by rw [HH.out]),?_,HF.out⟩
    refine ⟨vs,⟨_,c,rfl,hc,hm,fun _=>⟨g,cur,rfl,hg1,hg2,HB.out,HS0.out,fun q h m u hu => ?_⟩⟩,by rw [markedP_length];exact HVL.out,fun q h h' => ?_,fun q m h1 h2 h3 h4 hne hp1 hp2 => ?_⟩
    ·match m,hu with
     | 0,hu=>
      simp only [val1,List.getElem?_cons_zero,Option.some.injEq] at hu
      rw [<- hu,Nat.mul_one,Nat.add_zero]
      exact HCUR.out q h
     | m+1,hu=>simp [val1] at hu
    ·have h3:q<p.length:=by rw [markedP_length] at h';exact h'
     have h4:=HRW.out q h h3
     rw [markedP_get k p q h' h3]
     have : rowTo k p j q h3=marked (k+4*(total (p.take q):Int)) p[q].length:=by unfold rowTo;rw [if_pos (by omega)]
     rw [this] at h4
     exact h4
    ·have h5:q<p.length:=by rw [markedP_length] at h3;exact h3
     have h6:m<p.length:=by rw [markedP_length] at h4;exact h4
     rw [markedP_get k p q h3 h5,marked_length] at hp1
     rw [markedP_get k p m h4 h6,marked_length] at hp2
     exact HSEP.out q m h1 h2 h5 h6 hne hp1 hp2
 ·have hx:vs.length=0:=by omega
  have hp0:p=[]:=List.eq_nil_of_length_eq_zero (by rw [<- HVL.out];exact hx)
  have hv0:vs=[]:=List.eq_nil_of_length_eq_zero hx
  have hfin:OwOw Ins.cells 4 to ti w lo hi (.slice A vs.length c) (markedP k p):=by
   subst hp0 hv0
   exact ⟨[],⟨A,c,rfl,hc,hm,fun h=>absurd h (by simp)⟩,rfl,fun q h=>absurd h (by simp),fun q m h=>absurd h (by simp)⟩
  have ht0:total p=0:=by subst hp0;rfl
  have h0:decide ((0:Int)<(vs.length:Int))=false:=decide_eq_false (by omega)
  have HF:=Lib.hid hfin;clear hfin hA
  have HT0:=Lib.hid ht0;clear ht0 hp0 hv0
  go_enter Try.func19,Try.ntmps19
  go_wp2
  refine wp_loop_rounds 1 ?_
  rw [rounds_succ]
  go_wp2
  go_ret
  exact ⟨ret_int (by rw [HT0.out];omega),HF.out,Fr.refl _ _ _⟩
end Go.Proofs.Ytlmjnhnpahicmaa
