/-
 Contracts of toInstrSS, markInstrS, markInstrSS, heldInstrS, heldInstrSS. Conditions: the slices read as lists of at most 1048576 elements in all; what is marked lies in blocks of its own.
-/
import Derived.Test.YtlmjnhnpahicmaaGD
namespace Go.Proofs.Ytlmjnhnpahicmaa
open Go.ChangeShapes Go.WideShapes Go.ChangeAt Go.RowKit
set_option maxRecDepth 100000
theorem toInstrSS_any {lo hi:Nat} {u:Value} {p:List (List Ins)} {w:World} (hu:SlSl Ins.cells 4 w lo hi u p) (hhi:hi<=w.heap.size) (hl:p.length<=1048576) (ht:total p<=1048576) :
  Calls Try.prog 13 #[u] w fun e w'=>(∃ v,e = .returned v/\OwOw Ins.cells 4 57 56 w' w.heap.size w'.heap.size v p)/\Below w.heap.size w w':=by
 obtain ⟨xs,hxs,hxl,hxr⟩:=hu
 obtain ⟨A,ca,rfl,hca,hma,hA⟩:=hxs.vals
 clear hxs hma
 obtain ⟨i0,hi0,hz0,hz1,hz2⟩:=info_parts Try.infoInsS
 have hmk:=fun W=>run_make_rowN (P:=Try.prog) 27 57 i0 _ Try.underlying27 hi0 hz0 .i64 .i64 xs.length xs.length (Nat.le_refl _) (by rw [hz2];omega) (by omega) W
 rw [hz1] at hmk
 have HX:=Lib.hid hxl
 have hxle:xs.length<=1048576:=by omega
 clear hxl
 have HXR:=Lib.hid hxr;clear hxr
 go_enter Try.func13,Try.ntmps13
 go_wp2_with fail
 clear hmk
 go_loopw [4] (fun i wr=>∃ (k:Nat) (cs:Array Value) (G:Nat->Nat),k<=xs.length/\i = .int .i64 k/\Below w.heap.size w wr/\Blk wr w.heap.size 57 cs/\cs.size=xs.length /\
   (∀ j (h:j<p.length),j<k->w.heap.size<G j/\G j<wr.heap.size/\cs[j]? = some (.slice (some ⟨G j,0,none⟩) p[j].length p[j].length)/\Ow Ins.cells 4 56 wr (G j) (G j+1) (.slice (some ⟨G j,0,none⟩) p[j].length p[j].length) p[j]) /\
   (∀ i j,i<k->j<k->i≠j->G i≠G j)) (fun i _=>xs.length-(intOf i).toNat)
 case atStart=>
  exact ⟨0,_,fun _=>0,Nat.zero_le _,rfl,(Below.refl _ _).alloc (Nat.le_refl _) _,Blk.new _ _ _,by simp [size_madeCells],fun j _ h=>absurd h (by omega),fun i j h=>absurd h (by omega)⟩
 case round=>
  obtain ⟨k,cs,G,hk,rfl,hb,hB,hcs,hin,hdj⟩:=hrel
  have HI:=Lib.hid hin;clear hin
  have HD:=Lib.hid hdj;clear hdj
  have HB:=Lib.hid hB;have HCS:=Lib.hid hcs
  have hgl:=hB.lt
  clear hB hcs
  by_cases hlt:k<xs.length
  ·obtain ⟨ba,oa,rfl,_,_,hba,hA⟩:=hA (by omega)
   have hp:k<p.length:=HX.out ▸ hlt
   have ca1:=(hb.cell (p:=⟨ba,oa+k,none⟩) hba).trans (hA k hlt)
   have RX:=Lib.hid ((HXR.out k hlt hp).below hb hhi)
   have hr:p[k].length<=1048576:=Nat.le_trans (row_le_total p k hp) ht
   clear hA
   have i1:(0:Int)<=(k:Int):=by omega
   have i2:(k:Int)<(xs.length:Int):=by omega
   go_wp2_with fail
   refine (toInstrS_any RX.out hr).mono ?_
   rintro e w1 ⟨⟨v,rfl,rfl,hown,hw1⟩,hq1⟩
   have B1:=HB.out.below hq1 hgl
   have HO:=Lib.hid hown;clear hown
   have hz:k<cs.size:=by rw [HCS.out];omega
   have f0:=B1.frozen k
   have e0:=B1.cell k
   rw [Array.getElem?_eq_getElem (by omega)] at e0
   have HB1:=Lib.hid B1;clear B1
   go_wp2_with fail
   go_roundw
   case rel=>
    refine ⟨k+1,cs.setIfInBounds k (.slice (some ⟨wr.heap.size,0,none⟩) p[k].length p[k].length),upd G k wr.heap.size,by omega,by go_num,?_,HB1.out.set_ _ _,?_,?_,?_⟩
    ·exact (hb.trans (hq1.mono hb.size)).setCell (by simp) _
    ·simp;exact HCS.out
    ·intro j h hj
     by_cases e:j=k
     ·subst e
      rw [upd_same]
      exact ⟨by omega,by simpa [World.setCell] using hw1,set_get_same hz,HO.out.fr ((Fr.refl w.heap.size (w.heap.size+1) w1).setCell (by simp) _) (by omega)⟩
     ·rw [upd_ne _ _ e]
      obtain ⟨h1,h2,h3,h4⟩:=HI.out j h (by omega)
      exact ⟨h1,by simp [World.setCell];omega,by rw [set_get_ne (by omega)];exact h3,((h4.below hq1 (by omega)).fr ((Fr.refl w.heap.size (w.heap.size+1) w1).setCell (by simp) _) (by omega))⟩
    ·intro i j hi hj hij
     by_cases e:i=k
     ·subst e
      rw [upd_same,upd_ne _ _ (by omega)]
      have := (HI.out j (by omega) (by omega)).2.1
      omega
     ·rw [upd_ne _ _ e]
      have := (HI.out i (by omega) (by omega)).2.1
      by_cases e2:j=k
      ·subst e2
       rw [upd_same]
       omega
      ·rw [upd_ne _ _ e2]
       exact HD.out i j (by omega) (by omega) hij
   case measure=>simp [intOf];omega
  ·have hkx:k=xs.length:=by omega
   go_wp2
   go_ret
   refine ⟨⟨_,rfl,?_⟩,hb⟩
   have hX:=HX.out
   have := OwOw.made (f:=Ins.cells) (s:=4) (ti:=56) (c:=xs.length) (p:=p) (G:=G) (C:=fun j=>(p[j]?.getD []).length) HB.out (lo:=w.heap.size) (hi:=wr.heap.size) ⟨Nat.le_refl _,hgl⟩ HCS.out (by omega) (by omega) (fun j h=>by
    obtain ⟨h1,h2,h3,h4⟩:=HI.out j h (by omega)
    have he:(p[j]?.getD []).length=p[j].length:=by simp [h]
    exact ⟨by omega,h2,by rw [he];exact h3,by rw [he];exact h4⟩) (fun i j hi hj=>HD.out i j (by omega) (by omega))
   rw [<- hX] at this
   exact this
end Go.Proofs.Ytlmjnhnpahicmaa
