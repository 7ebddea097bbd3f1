/-
 Contracts of laws.toIntS (told whole), laws.toIntSS, laws.toExec: what they hand back lies in blocks of its own. Conditions: at most 1048576 numbers in all.
-/
import Derived.Test.YtlmjnhnpahicmaaBrW
import Derived.Laws.Rows
namespace Go.Proofs.Ytlmjnhnpahicmaa
open Go.ChangeShapes Go.WideShapes Go.ChangeAt Go.RowKit
set_option maxRecDepth 100000
theorem Try.infoIntS:(Try.prog.info? 23).map (fun i=>(i.zero,i.size,i.bytes))=some (some (.slice none 0 0),1,24):=by kernel_rfl
theorem OwF.ofOw {t:TypeId} {w:World} {lo hi:Nat} {v:Value} {xs:List Int} (x:Ow int1 1 t w lo hi v xs):OwF w lo hi v xs:=by
 obtain ⟨A,c,e,hc,hm,r⟩:=x
 refine ⟨A,c,e,hc,hm,fun hn => ?_⟩
 obtain ⟨g,cs,e2,h1,h2,hB,hsz,hcur⟩:=r hn
 refine ⟨g,0,t,(0,0),cs,e2,h1,h2,hB,fun i _=>by omega,by omega,fun k hk => ?_⟩
 have := hcur k hk 0 _ rfl
 simpa using this
theorem toIntSX_any {lo hi:Nat} {u:Value} {xs:List Int} {w:World} (hu:Sl int1 1 w lo hi u xs) (hx:xs.length<=1048576) :
  Calls Try.prog 14 #[u] w fun e w'=>(∃ v,e = .returned v/\v = .slice (some ⟨w.heap.size,0,none⟩) xs.length xs.length/\Ow int1 1 3 w' w.heap.size (w.heap.size+1) v xs/\w.heap.size<w'.heap.size)/\Below w.heap.size w w':=by
 obtain ⟨A,ca,rfl,hca,hma,hA⟩:=hu.ints
 clear hma
 obtain ⟨i0,hi0,hz0,hz1,hz2⟩:=info_parts Try.infoInt
 have hmk:=fun W=>run_make_rowN (P:=Try.prog) 23 3 i0 _ Try.underlying23 hi0 hz0 .i64 .i64 xs.length xs.length (Nat.le_refl _) (by rw [hz2];omega) (by omega) W
 rw [hz1] at hmk
 have HAA:=Lib.hid hA;clear hA
 go_enter Try.func14,Try.ntmps14
 go_wp2_with fail
 clear hmk
 go_loopw [4] (fun i wr=>∃ (k:Nat) (cs:Array Value),k<=xs.length/\i = .int .i64 k/\Below w.heap.size w wr/\Blk wr w.heap.size 3 cs/\cs.size=xs.length/\∀ j (h:j<xs.length),j<k->cs[j]? = some (.int .i64 xs[j])) (fun i _=>xs.length-(intOf i).toNat)
 case atStart=>
  exact ⟨0,_,Nat.zero_le _,rfl,(Below.refl _ _).alloc (Nat.le_refl _) _,Blk.new _ _ _,by simp [size_madeCells],fun j _ h=>absurd h (by omega)⟩
 case round=>
  obtain ⟨k,cs,hk,rfl,hb,hB,hcs,hin⟩:=hrel
  have HI:=Lib.hid hin;clear hin
  have HB:=Lib.hid hB;have HCS:=Lib.hid hcs
  have hgl:=hB.lt
  by_cases hlt:k<xs.length
  ·obtain ⟨ba,oa,rfl,_,_,hba,hA⟩:=HAA.out (by omega)
   have ca1:=(hb.cell (p:=⟨ba,oa+k,none⟩) hba).trans (hA k hlt)
   clear hA
   have i1:(0:Int)<=(k:Int):=by omega
   have i2:(k:Int)<(xs.length:Int):=by omega
   have f0:=hB.frozen k
   have e0:=hB.cell k
   have hz:k<cs.size:=by omega
   rw [Array.getElem?_eq_getElem hz] at e0
   clear hB hcs
   go_wp2_with fail
   go_roundw
   case rel=>
    refine ⟨k+1,cs.setIfInBounds k (.int .i64 xs[k]),by omega,by go_num,hb.setCell (by simp) _,HB.out.set_ _ _,by simp;exact HCS.out,?_⟩
    intro j h hj
    by_cases e:j=k
    ·subst e;exact set_get_same (by rw [HCS.out];omega)
    ·rw [set_get_ne (by omega)];exact HI.out j h (by omega)
   case measure=>simp [intOf];omega
  ·go_wp2_with fail
   go_ret
   exact ⟨⟨_,rfl,rfl,Ow.ints_mk HB.out ⟨Nat.le_refl _,Nat.lt_succ_self _⟩ HCS.out (Nat.le_refl _) (by omega) (fun j h=>HI.out j h (by omega)),hgl⟩,hb⟩
theorem toIntSS_any {lo hi:Nat} {u:Value} {p:List (List Int)} {w:World} (hu:SlSl int1 1 w lo hi u p) (hhi:hi<=w.heap.size) (hl:p.length<=1048576) (ht:total p<=1048576) :
  Calls Try.prog 62 #[u] w fun e w'=>(∃ v gs us,e = .returned v/\OwSS w' w.heap.size gs us v p/\w.heap.size<w'.heap.size/\∀ i,i<p.length->w.heap.size<gs i/\gs i<w'.heap.size)/\Below w.heap.size w w':=by
 obtain ⟨xs,hxs,hxl,hxr⟩:=hu
 obtain ⟨A,ca,rfl,hca,hma,hA⟩:=hxs.vals
 clear hxs hma
 obtain ⟨i0,hi0,hz0,hz1,hz2⟩:=info_parts Try.infoIntS
 have hmk:=fun W=>run_make_rowN (P:=Try.prog) 37 23 i0 _ Try.underlying37 hi0 hz0 .i64 .i64 xs.length xs.length (Nat.le_refl _) (by rw [hz2];omega) (by omega) W
 rw [hz1] at hmk
 have HX:=Lib.hid hxl
 have hxle:xs.length<=1048576:=by omega
 clear hxl
 have HXR:=Lib.hid hxr;clear hxr
 go_enter Try.func62,Try.ntmps62
 go_wp2_with fail
 clear hmk
 go_loopw [4] (fun i wr=>∃ (k:Nat) (cs:Array Value) (G:Nat->Nat),k<=xs.length/\i = .int .i64 k/\Below w.heap.size w wr/\Blk wr w.heap.size 23 cs/\cs.size=xs.length /\
   (∀ j (h:j<p.length),j<k->w.heap.size<G j/\G j<wr.heap.size/\cs[j]? = some (.slice (some ⟨G j,0,none⟩) p[j].length p[j].length)/\Ow int1 1 3 wr (G j) (G j+1) (.slice (some ⟨G j,0,none⟩) p[j].length p[j].length) p[j]) /\
   (∀ i j,i<k->j<k->i≠j->G i≠G j)) (fun i _=>xs.length-(intOf i).toNat)
 case atStart=>
  exact ⟨0,_,fun _=>0,Nat.zero_le _,rfl,(Below.refl _ _).alloc (Nat.le_refl _) _,Blk.new _ _ _,by simp [size_madeCells],fun j _ h=>absurd h (by omega),fun i j h=>absurd h (by omega)⟩
 case round=>
  obtain ⟨k,cs,G,hk,rfl,hb,hB,hcs,hin,hdj⟩:=hrel
  have HI:=Lib.hid hin;clear hin
  have HD:=Lib.hid hdj;clear hdj
  have HB:=Lib.hid hB;have HCS:=Lib.hid hcs
  have hgl:=hB.lt
  clear hB hcs
  by_cases hlt:k<xs.length
  ·obtain ⟨ba,oa,rfl,_,_,hba,hA⟩:=hA (by omega)
   have hp:k<p.length:=HX.out ▸ hlt
   have ca1:=(hb.cell (p:=⟨ba,oa+k,none⟩) hba).trans (hA k hlt)
   have RX:=Lib.hid ((HXR.out k hlt hp).below hb hhi)
   have hr:p[k].length<=1048576:=Nat.le_trans (row_le_total p k hp) ht
   clear hA
   have i1:(0:Int)<=(k:Int):=by omega
   have i2:(k:Int)<(xs.length:Int):=by omega
   go_wp2_with fail
   refine (toIntSX_any RX.out hr).mono ?_
   rintro e w1 ⟨⟨v,rfl,rfl,hown,hw1⟩,hq1⟩
   have B1:=HB.out.below hq1 hgl
   have HO:=Lib.hid hown;clear hown
   have hz:k<cs.size:=by rw [HCS.out];omega
   have f0:=B1.frozen k
   have e0:=B1.cell k
   rw [Array.getElem?_eq_getElem (by omega)] at e0
   have HB1:=Lib.hid B1;clear B1
   go_wp2_with fail
   go_roundw
   case rel=>
    refine ⟨k+1,cs.setIfInBounds k (.slice (some ⟨wr.heap.size,0,none⟩) p[k].length p[k].length),upd G k wr.heap.size,by omega,by go_num,?_,HB1.out.set_ _ _,?_,?_,?_⟩
    ·exact (hb.trans (hq1.mono hb.size)).setCell (by simp) _
    ·simp;exact HCS.out
    ·intro j h hj
     by_cases e:j=k
     ·subst e
      rw [upd_same]
      exact ⟨by omega,by simpa [World.setCell] using hw1,set_get_same hz,HO.out.fr ((Fr.refl w.heap.size (w.heap.size+1) w1).setCell (by simp) _) (by omega)⟩
     ·rw [upd_ne _ _ e]
      obtain ⟨h1,h2,h3,h4⟩:=HI.out j h (by omega)
      exact ⟨h1,by simp [World.setCell];omega,by rw [set_get_ne (by omega)];exact h3,((h4.below hq1 (by omega)).fr ((Fr.refl w.heap.size (w.heap.size+1) w1).setCell (by simp) _) (by omega))⟩
    ·intro i j hi hj hij
     by_cases e:i=k
     ·subst e
      rw [upd_same,upd_ne _ _ (by omega)]
      have := (HI.out j (by omega) (by omega)).2.1
      omega
     ·rw [upd_ne _ _ e]
      have := (HI.out i (by omega) (by omega)).2.1
      by_cases e2:j=k
      ·subst e2
       rw [upd_same]
       omega
      ·rw [upd_ne _ _ e2]
       exact HD.out i j (by omega) (by omega) hij
   case measure=>simp [intOf];omega
  ·have hkx:k=xs.length:=by omega
   go_wp2
   go_ret
   have hX:=HX.out
   have hL:=HCS.out
   refine ⟨⟨_,G,fun j => .slice (some ⟨G j,0,none⟩) (p.getD j []).length (p.getD j []).length,rfl,⟨some ⟨w.heap.size,0,none⟩,xs.length,0,congrArg (fun n=>Value.slice (some ⟨w.heap.size,0,none⟩) n xs.length) hX,by omega,by omega,fun _=>⟨rfl,hgl⟩,fun j hj => ?_,fun i j hi hj hij=>HD.out i j (by omega) (by omega) hij⟩,hgl,fun j hj => ?_⟩,hb⟩
   ·obtain ⟨h1,h2,h3,h4⟩:=HI.out j hj (by omega)
    have he:p.getD j []=p[j]:=by simp [hj]
    have h5:OwF wr (G j) (G j+1) (.slice (some ⟨G j,0,none⟩) (p.getD j []).length (p.getD j []).length) (p.getD j []):=by rw [he];exact OwF.ofOw h4
    have h6:wr.cell? ⟨w.heap.size,0+j,none⟩=some (.slice (some ⟨G j,0,none⟩) (p.getD j []).length (p.getD j []).length):=by
     rw [he,Nat.zero_add,HB.out.cell]
     exact h3
    exact ⟨h6,h5,by omega,h2⟩
   ·obtain ⟨h1,h2,_,_⟩:=HI.out j hj (by omega)
    exact ⟨h1,h2⟩
theorem toExec_any {lo hi:Nat} {u v:Value} {x:ZEx} {w:World} (hu:Sl int1 1 w lo hi u x.From) (hv:SlSl int1 1 w lo hi v x.Order) (hhi:hi<=w.heap.size) (hl:x.From.length<=1048576) (hl2:x.Order.length<=1048576) (ht:total x.Order<=1048576) :
  Calls Try.prog 25 #[.agg #[u,v]] w fun e w'=>(∃ A1 n1 c1 A2 n2 c2,e = .returned (.agg #[.slice A1 n1 c1,.slice A2 n2 c2])/\OwX w' w.heap.size w'.heap.size (.agg #[.slice A1 n1 c1,.slice A2 n2 c2]) x)/\Below w.heap.size w w':=by
 have hu1:∃ A n c,u = .slice A n c:=by obtain ⟨A,c,e1,_⟩:=hu;exact ⟨A,_,c,e1⟩
 have hv1:∃ A n c,v = .slice A n c:=by obtain ⟨us,⟨A,c,e1,_⟩,_⟩:=hv;exact ⟨A,_,c,e1⟩
 obtain ⟨A1,n1,c1,rfl⟩:=hu1
 obtain ⟨A2,n2,c2,rfl⟩:=hv1
 have HU:=Lib.hid hu;clear hu
 have HV:=Lib.hid hv;clear hv
 have BA:=Lib.hid (fun a b c:Obj=>show Below w.heap.size w (((w.alloc a).alloc b).alloc c) from (((Below.refl w.heap.size w).alloc (Nat.le_refl _) a).alloc (by simp) b).alloc (by simp;omega) c)
 have BK0:=Lib.hid (fun (cs:Array Value) (t:TypeId) (b c:Obj)=>show Blk (((w.alloc (.cells cs t)).alloc b).alloc c) w.heap.size t cs from ((Blk.at_ rfl).alloc b).alloc c)
 have BK1:=Lib.hid (fun (cs:Array Value) (t:TypeId) (a c:Obj)=>show Blk (((w.alloc a).alloc (.cells cs t)).alloc c) (w.heap.size+1) t cs from (Blk.at_ (by simp)).alloc c)
 have BK2:=Lib.hid (fun (cs:Array Value) (t:TypeId) (a b:Obj)=>show Blk (((w.alloc a).alloc b).alloc (.cells cs t)) (w.heap.size+1+1) t cs from Blk.at_ (by simp))
 go_enter Try.func25,Try.ntmps25
 go_wp2_with fail
 refine (toIntSX_any (HU.out.below (BA.out _ _ _) hhi) hl).mono ?_
 rintro e w1 ⟨⟨v1,rfl,rfl,hown,hw1⟩,hb1⟩
 simp only [World.size_alloc] at hw1
 have HO:=Lib.hid hown;clear hown
 have K0:=Lib.hid ((hb1.block w.heap.size (by simp;omega)).trans (BK0.out _ _ _ _))
 have K1:=Lib.hid ((hb1.block (w.heap.size+1) (by simp)).trans (BK1.out _ _ _ _))
 have K2:=Lib.hid ((hb1.block (w.heap.size+1+1) (by simp)).trans (BK2.out _ _ _ _))
 have HB1:=Lib.hid ((BA.out _ _ _).trans (hb1.mono (by simp;omega)))
 have e0:=Blk.cell (show Blk w1 w.heap.size _ _ from K0.out) 1
 have f2:=Blk.frozen (show Blk w1 (w.heap.size+1+1) _ _ from K2.out) 0
 have g2:=Blk.cell (show Blk w1 (w.heap.size+1+1) _ _ from K2.out) 0
 go_wp2_with fail
 have HB2:=Lib.hid (fun u:Value=>HB1.out.setCell (p:=⟨w.heap.size+1+1,0,none⟩) (by simp;omega) u)
 have s1:w.heap.size+1+1+1<=w1.heap.size:=by omega
 refine (toIntSS_any (HV.out.below (HB2.out _) hhi) (by simp [World.setCell];omega) hl2 ht).mono ?_
 rintro e w3 ⟨⟨v2,gs,us,rfl,hSS,hlt,hgs⟩,hb3⟩
 have hz:(w1.setCell ⟨w.heap.size+1+1,0,none⟩ (.slice (some ⟨w.heap.size+1+1+1,0,none⟩) x.From.length x.From.length)).heap.size=w1.heap.size:=by simp [World.setCell]
 obtain ⟨A3,c3,o3,e3,hss⟩:=hSS
 subst e3
 have HSS:=Lib.hid hss;clear hss
 have J2:=Lib.hid (hb3.block (w.heap.size+1+1) (by rw [hz];omega) |>.trans (Blk.set_ (show Blk w1 (w.heap.size+1+1) _ _ from K2.out) 0 (.slice (some ⟨w.heap.size+1+1+1,0,none⟩) x.From.length x.From.length)))
 have J1:=Lib.hid (hb3.block (w.heap.size+1) (by rw [hz];omega) |>.trans (Blk.far (show Blk w1 (w.heap.size+1) _ _ from K1.out) (p:=⟨w.heap.size+1+1,0,none⟩) (by simp) (.slice (some ⟨w.heap.size+1+1+1,0,none⟩) x.From.length x.From.length)))
 have HB3:=Lib.hid ((HB2.out _).trans (hb3.mono (by rw [hz];omega)))
 clear e0 f2 g2
 have f2:=Blk.frozen (show Blk w3 (w.heap.size+1+1) _ _ from J2.out) 1
 have g2:=Blk.cell (show Blk w3 (w.heap.size+1+1) _ _ from J2.out) 0
 have g3:=Blk.cell (show Blk w3 (w.heap.size+1+1) _ _ from J2.out) 1
 have f1:=Blk.frozen (show Blk w3 (w.heap.size+1) _ _ from J1.out) 0
 have f1':=Blk.frozen (show Blk w3 (w.heap.size+1) _ _ from J1.out) 1
 have k1:=Blk.cell (show Blk w3 (w.heap.size+1) _ _ from J1.out) 0
 have k1':=Blk.cell (show Blk w3 (w.heap.size+1) _ _ from J1.out) 1
 go_wp2_with fail
 try simp only [Exit.inBlock,Exit.then]
 have hfw:∀ u0 u1 u2:Value,Fr (w.heap.size+1) (w.heap.size+1+1+1) w3 (((w3.setCell ⟨w.heap.size+1+1,1,none⟩ u0).setCell ⟨w.heap.size+1,0,none⟩ u1).setCell ⟨w.heap.size+1,1,none⟩ u2):=fun u0 u1 u2=>(((Fr.refl _ _ w3).setCell (by simp) u0).setCell (by simp) u1).setCell (by simp) u2
 have HFW:=Lib.hid hfw;clear hfw
 refine bodyPost_ret (results_cell_row rfl _ _ (w.heap.size+1) _ #[.slice (some ⟨w.heap.size+1+1+1,0,none⟩) x.From.length x.From.length,.slice A3 x.Order.length c3] (0,0) _ rfl (Blk.set_ (Blk.set_ (Blk.far (show Blk w3 (w.heap.size+1) _ _ from J1.out) (p:=⟨w.heap.size+1+1,1,none⟩) (by simp) _) 0 _) 1 _) Try.underlying43 rfl (by kernel_rfl)) rfl ?_
 refine ⟨⟨_,_,_,_,_,_,rfl,?_⟩,((HB3.out.setCell (by simp;omega) _).setCell (by simp) _).setCell (by simp) _⟩
 have hsz:w3.heap.size=(((w3.setCell ⟨w.heap.size+1+1,1,none⟩ (.slice A3 x.Order.length c3)).setCell ⟨w.heap.size+1,0,none⟩ (.slice (some ⟨w.heap.size+1+1+1,0,none⟩) x.From.length x.From.length)).setCell ⟨w.heap.size+1,1,none⟩ (.slice A3 x.Order.length c3)).heap.size:=by simp [World.setCell]
 rw [<- hsz]
 have O1:OwF w3 (w.heap.size+1+1+1) (w.heap.size+1+1+1+1) (.slice (some ⟨w.heap.size+1+1+1,0,none⟩) x.From.length x.From.length) x.From:=by
  have h0:=(OwF.ofOw HO.out).fr (w':=w1.setCell ⟨w.heap.size+1+1,0,none⟩ (.slice (some ⟨w.heap.size+1+1+1,0,none⟩) x.From.length x.From.length)) ((Fr.refl (w.heap.size+1+1) (w.heap.size+1+1+1) w1).setCell (by simp) _) (.inr (by simp))
  have h1:=h0.below hb3 (by rw [hz];simp at hw1 ⊢;omega)
  simpa using h1
 have O2:OwSS w3 (w1.setCell ⟨w.heap.size+1+1,0,none⟩ (.slice (some ⟨w.heap.size+1+1+1,0,none⟩) x.From.length x.From.length)).heap.size gs us (.slice A3 x.Order.length c3) x.Order:=⟨A3,c3,o3,rfl,HSS.out⟩
 rw [hz] at O2 hlt hgs
 refine ⟨_,_,w.heap.size+1+1+1,w.heap.size+1+1+1+1,_,gs,us,rfl,O1.fr (HFW.out _ _ _) (.inr (Nat.le_refl _)),O2.keep (Nat.le_of_eq hsz) (fun b hb hS=>(HFW.out _ _ _).block b hb (by
  rcases hS with ⟨_,rfl⟩ | ⟨i,hi',rfl⟩
  ·omega
  ·have := (hgs i hi').1
   omega)),⟨by omega,by omega,by rw [<- hsz];omega⟩,fun _=>⟨by omega,by omega,by omega⟩,fun i hi' => ?_⟩
 have := hgs i hi'
 exact ⟨⟨by omega,by omega⟩,by omega⟩
end Go.Proofs.Ytlmjnhnpahicmaa
