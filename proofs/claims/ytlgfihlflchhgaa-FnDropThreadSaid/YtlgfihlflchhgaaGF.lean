/-
 Contracts and words, several texts joined. No conditions.
-/
import Derived.Test.YtlgfihlflchhgaaGD
import Derived.BigRegion
import Derived.Outline
import Derived.Deep.RegionLaw
import Derived.Test.YtlgfihlflchhgaaGE
import Derived.WalkSpells
import Derived.Lib.SliceRun
import Derived.Lib.AppendZeros
namespace Go.Proofs.Ytlgfihlflchhgaa
open Go.ChangeShapes Go.WideShapes Go.ChangeAt Go.RowKit
set_option maxRecDepth 100000
end Go.Proofs.Ytlgfihlflchhgaa
namespace Go.Proofs.Ytlgfihlflchhgaa
open Go.ChangeShapes Go.WideShapes Go.ChangeAt Go.RowKit
set_option maxRecDepth 100000
theorem Ow.setOther {α:Type} {f:α->List Value} {s:Nat} {t t':TypeId} {w:World} {lo hi g:Nat} {v:Value} {xs:List α} {cs:Array Value} (h:Ow f s t w lo hi v xs) (hB:Blk w g t' cs) (hne:t≠t') (i:Nat) (u:Value):Ow f s t (w.setCell ⟨g,i,none⟩ u) lo hi v xs:=by
 obtain ⟨A,c,rfl,hc,hm,r⟩:=h
 refine ⟨A,c,rfl,hc,hm,fun hn => ?_⟩
 obtain ⟨g',cur,rfl,h1,h2,h3,h4⟩:=r hn
 refine ⟨g',cur,rfl,h1,h2,h3.far ?_ _,h4⟩
 rintro rfl
 exact hne (h3.inj hB).1
end Go.Proofs.Ytlgfihlflchhgaa
namespace Go.Proofs.Ytlgfihlflchhgaa
open Go.ChangeShapes Go.WideShapes Go.ChangeAt Go.RowKit
set_option maxRecDepth 100000
theorem Clone_any {lo hi:Nat} {u:Value} {xs:List Ins} {w:World} (hu:Sl Ins.cells 4 w lo hi u xs) (hx:xs.length<=1048576) :
  Calls Try.prog 38 #[u] w fun e w'=>(∃ A c,e = .returned (.slice A xs.length c)/\Ow Ins.cells 4 33 w' w.heap.size w'.heap.size (.slice A xs.length c) xs)/\Below w.heap.size w w':=by
 obtain ⟨A,c,rfl,hsrc⟩:=hu.src ins_len (by omega)
 obtain ⟨A',c',hu',hc,hm,_⟩:=hu
 injection hu' with h1 _ h2
 subst h1 h2
 obtain ⟨i0,hi0,hz0,hz1,hz2⟩:=info_parts Try.infoIns
 have hnil:=fun W=>Lib.run_eql_slice_nil (P:=Try.prog) W 31 33 A xs.length c 0 0 Try.underlying31
 rcases A with _ | ad
 ·have h0:xs.length=0:=by
   rcases Nat.eq_zero_or_pos xs.length with h | h
   ·exact h
   ·obtain ⟨ad,h,_⟩:=hsrc h
    cases h
  have hxs:xs=[]:=List.eq_nil_of_length_eq_zero h0
  have HXS:=Lib.hid hxs;clear hxs h0 hsrc
  go_enter Try.func38,Try.ntmps38
  go_wp2_with fail
  go_ret
  exact ⟨⟨none,0,by rw [HXS.out];rfl,by rw [HXS.out];exact Ow.nil_ _ _ (by omega)⟩,Below.refl _ _⟩
 ·have SRC:=Lib.hid hsrc;clear hsrc
  have NEW:Hid ((w.alloc (.cells #[] 33)).ownsRow w.heap.size 33 4 (.slice (some ⟨w.heap.size,0,none⟩) 0 0) 0 []):=World.ownsRow_made w #[] 0 (Nat.le_refl _) (by simp [maxLen]) rfl
  have SRC2:Hid (Src (w.alloc (.cells #[] 33)) (some ad) xs.length (xs.flatMap Ins.cells)):=by
   intro hn
   obtain ⟨ad',h,hc⟩:=SRC.out hn
   refine ⟨ad',h,fun j u hu => ?_⟩
   have := hc j u hu
   rw [World.cell?_alloc_lt w _ _ (World.block_lt_of_cell? w _ this)]
   exact this
  go_enter Try.func38,Try.ntmps38
  by_cases hn:0<xs.length
  ·go_wp2_with (at_builtin;refine wpList_append_srcx _ rfl _ _ 31 rfl w.heap.size 33 i0 _ 4 32 Try.underlying31 hi0 hz0 hz1 hz2 rfl (by omega) (.slice (some ⟨w.heap.size,0,none⟩) 0 0) 0 [] rfl NEW.out (some ad) xs.length c (xs.flatMap Ins.cells) rfl (flat_len ins_len xs) SRC2.out (ins_one xs) (by simp only [maxLen];omega) (by omega) (by simp) (by omega) ?_;intro gg cap w1 hown hgrow hat hlt)
   go_ret
   refine ⟨⟨some ⟨gg,0,none⟩,cap,by simp, Ow.of_row ins_len (by simpa using hown) rfl rfl⟩,((Below.refl _ _).alloc (Nat.le_refl _) _).grown hgrow (by simp) (fun k hk=>by simp [Value.ownBlock] at hk;omega)⟩
  ·have hxs:xs=[]:=List.eq_nil_of_length_eq_zero (by omega)
   have HXS:=Lib.hid hxs;clear hxs
   go_wp2_with (at_builtin;refine wpList_append_src _ rfl _ _ 31 rfl w.heap.size 33 i0 _ 4 32 Try.underlying31 hi0 hz0 hz1 hz2 rfl (by omega) (.slice (some ⟨w.heap.size,0,none⟩) 0 0) 0 [] rfl NEW.out (some ad) xs.length c (xs.flatMap Ins.cells) rfl (flat_len ins_len xs) SRC2.out (ins_one xs) (by simp only [maxLen];omega) (by omega) (by simp) ?_;intro v' w1 hown hgrow hat)
   go_ret
   refine ⟨?_,((Below.refl _ _).alloc (Nat.le_refl _) _).grown hgrow (by simp) (fun k hk=>by simp [Value.ownBlock] at hk;omega)⟩
   rw [HXS.out] at hown ⊢
   rcases hown.2 with ⟨rfl,_⟩ | ⟨g,cap,cur,rfl,_,_,_,hcap,_⟩
   ·exact ⟨none,0,rfl,Ow.nil_ _ _ (by omega)⟩
   ·simp only [maxLen] at hcap
    exact ⟨some ⟨g,0,none⟩,cap,rfl,Ow.nil_ _ _ (by omega)⟩
theorem OwOw.made2 {α:Type} {f:α->List Value} {s:Nat} {to ti:TypeId} {w:World} {lo hi g c:Nat} {cs:Array Value} {p:List (List α)} {V:Nat->Value}
  (hB:Blk w g to cs) (hg:lo<=g/\g<hi) (hc:cs.size=c) (hpc:p.length<=c) (hc63:c<=9223372036854775807)
  (hrow:∀ j (h:j<p.length),cs[j]? = some (V j)/\Ow f s ti w lo hi (V j) p[j])
  (hsep:∀ i j (hi:i<p.length) (hj:j<p.length),i≠j->0<p[i].length->0<p[j].length->(V i).ownBlock≠(V j).ownBlock):OwOw f s to ti w lo hi (.slice (some ⟨g,0,none⟩) p.length c) p:=by
 have hcl:p.length<=cs.toList.length:=by simp;omega
 have hlen:(cs.toList.take p.length).length=p.length:=by simp;omega
 have hget:∀ j (h:j<(cs.toList.take p.length).length) (h':j<p.length),(cs.toList.take p.length)[j]=V j:=by
  intro j h h'
  have h2:=(hrow j h').1
  rw [List.getElem_take]
  rw [Array.getElem?_eq_some_iff] at h2
  obtain ⟨_,h2⟩:=h2
  simpa using h2
 refine ⟨cs.toList.take p.length,⟨_,c,by rw [hlen],by rw [hlen];exact hpc,hc63,fun _=>⟨g,cs,rfl,hg.1,hg.2,hB,by omega,fun k h j u hu => ?_⟩⟩,hlen,fun k h h' => ?_,fun i j hi hj hi' hj' hne h1 h2 => ?_⟩
 ·match j,hu with
  | 0,hu=>
   simp only [val1,List.getElem?_cons_zero,Option.some.injEq] at hu
   rw [<- hu,Nat.mul_one,Nat.add_zero,hget k h (by omega)]
   exact (hrow k (by omega)).1
  | n+1,hu=>simp [val1] at hu
 ·rw [hget k h h']
  exact (hrow k h').2
 ·rw [hget i hi hi',hget j hj hj']
  exact hsep i j hi' hj' hne h1 h2
theorem cloneProgram_any {lo hi:Nat} {u:Value} {p:List (List Ins)} {w:World} (hu:SlSl Ins.cells 4 w lo hi u p) (hhi:hi<=w.heap.size) (hl:p.length<=1048576) (ht:total p<=1048576) :
  Calls Try.prog 18 #[u] w fun e w'=>(∃ (g:Nat) (cs:Array Value) (V:Nat->Value),e = .returned (.slice (some ⟨g,0,none⟩) p.length p.length)/\Blk w' g 31 cs/\w.heap.size<=g/\cs.size=p.length /\
   (∀ j (h:j<p.length),cs[j]? = some (V j)/\Ow Ins.cells 4 33 w' w.heap.size w'.heap.size (V j) p[j]) /\
   (∀ i j (hi:i<p.length) (hj:j<p.length),i≠j->0<p[i].length->0<p[j].length->(V i).ownBlock≠(V j).ownBlock))/\Below w.heap.size w w':=by
 obtain ⟨xs,hxs,hxl,hxr⟩:=hu
 obtain ⟨A,ca,rfl,hca,hma,hA⟩:=hxs.vals
 clear hxs hma
 obtain ⟨i0,hi0,hz0,hz1,hz2⟩:=info_parts Try.infoInsS
 have hmk:=fun W=>run_make_rowN (P:=Try.prog) 23 31 i0 _ Try.underlying23 hi0 hz0 .i64 .i64 xs.length xs.length (Nat.le_refl _) (by rw [hz2];omega) (by omega) W
 rw [hz1] at hmk
 have HX:=Lib.hid hxl
 have hxle:xs.length<=1048576:=by omega
 clear hxl
 have HXR:=Lib.hid hxr;clear hxr
 go_enter Try.func18,Try.ntmps18
 go_wp2_with fail
 clear hmk
 go_loopw [11] (fun i wr=>∃ (k:Nat) (cs:Array Value) (V:Nat->Value),k<=xs.length/\i = .int .i64 k/\Below w.heap.size w wr/\Blk wr w.heap.size 31 cs/\cs.size=xs.length /\
   (∀ j (h:j<p.length),j<k->cs[j]? = some (V j)/\Ow Ins.cells 4 33 wr w.heap.size wr.heap.size (V j) p[j]) /\
   (∀ i j (hi:i<p.length) (hj:j<p.length),i<k->j<k->i≠j->0<p[i].length->0<p[j].length->(V i).ownBlock≠(V j).ownBlock)) (fun i _=>xs.length-(intOf i).toNat)
 case atStart=>
  exact ⟨0,_,fun _ => .slice none 0 0,Nat.zero_le _,rfl,(Below.refl _ _).alloc (Nat.le_refl _) _,Blk.new _ _ _,by simp [size_madeCells],fun j _ h=>absurd h (by omega),fun i j _ _ h=>absurd h (by omega)⟩
 case round=>
  obtain ⟨k,cs,V,hk,rfl,hb,hB,hcs,hin,hdj⟩:=hrel
  have HI:=Lib.hid hin;clear hin
  have HD:=Lib.hid hdj;clear hdj
  have HB:=Lib.hid hB;have HCS:=Lib.hid hcs
  have hgl:=hB.lt
  clear hB hcs
  by_cases hlt:k<xs.length
  ·obtain ⟨ba,oa,rfl,_,_,hba,hA⟩:=hA (by omega)
   have hp:k<p.length:=HX.out ▸ hlt
   have ca1:=(hb.cell (p:=⟨ba,oa+k,none⟩) hba).trans (hA k hlt)
   have RX:=Lib.hid ((HXR.out k hlt hp).below hb hhi)
   have hr:p[k].length<=1048576:=Nat.le_trans (row_le_total p k hp) ht
   clear hA
   have i1:(0:Int)<=(k:Int):=by omega
   have i2:(k:Int)<(xs.length:Int):=by omega
   go_wp2_with fail
   refine (Clone_any RX.out hr).mono ?_
   rintro e w1 ⟨⟨A1,c1,rfl,hown⟩,hq1⟩
   have B1:=HB.out.below hq1 hgl
   have HO:=Lib.hid hown;clear hown
   have hz:k<cs.size:=by rw [HCS.out];omega
   have f0:=B1.frozen k
   have e0:=B1.cell k
   rw [Array.getElem?_eq_getElem (by omega)] at e0
   have HB1:=Lib.hid B1;clear B1
   have hw1:=hq1.size
   go_wp2_with fail
   go_roundw
   case rel=>
    refine ⟨k+1,cs.setIfInBounds k (.slice A1 p[k].length c1),upd V k (.slice A1 p[k].length c1),by omega,by go_num,(hb.trans (hq1.mono hb.size)).setCell (by simp) _,HB1.out.set_ _ _,?_,?_,?_⟩
    ·simp;exact HCS.out
    ·intro j h hj
     have hsz:(w1.setCell ⟨w.heap.size,k,none⟩ (.slice A1 p[k].length c1)).heap.size=w1.heap.size:=by simp [World.setCell]
     rw [hsz]
     by_cases e:j=k
     ·subst e
      rw [upd_same]
      exact ⟨set_get_same hz,(HO.out.mono (by omega) (Nat.le_refl _)).setOther HB1.out (by decide) _ _⟩
     ·rw [upd_ne _ _ e]
      obtain ⟨h3,h4⟩:=HI.out j h (by omega)
      exact ⟨by rw [set_get_ne (by omega)];exact h3,(((h4.below hq1 (Nat.le_refl _)).mono (Nat.le_refl _) hw1).setOther HB1.out (by decide) _ _)⟩
    ·intro i j hi hj hik hjk hij h1 h2
     by_cases e:i=k
     ·subst e
      rw [upd_same,upd_ne _ _ (by omega)]
      obtain ⟨g1,_,hg1,hl1,_⟩:=HO.out.block h1
      obtain ⟨g2,_,hg2,_,hl2,_⟩:=(HI.out j hj (by omega)).2.block h2
      rw [hg1,hg2]
      intro h
      injection h with h
      omega
     ·rw [upd_ne _ _ e]
      by_cases e2:j=k
      ·subst e2
       rw [upd_same]
       obtain ⟨g1,_,hg1,hl1,_⟩:=HO.out.block h2
       obtain ⟨g2,_,hg2,_,hl2,_⟩:=(HI.out i hi (by omega)).2.block h1
       rw [hg1,hg2]
       intro h
       injection h with h
       omega
      ·rw [upd_ne _ _ e2]
       exact HD.out i j hi hj (by omega) (by omega) hij h1 h2
   case measure=>simp [intOf];omega
  ·have hkx:k=xs.length:=by omega
   go_wp2
   go_ret
   have hX:=HX.out
   exact ⟨⟨w.heap.size,cs,V,by rw [<- hX];rfl,HB.out,Nat.le_refl _,by rw [<- hX];exact HCS.out,fun j h=>HI.out j h (by omega),fun i j hi hj=>HD.out i j hi hj (by omega) (by omega)⟩,hb⟩
end Go.Proofs.Ytlgfihlflchhgaa
namespace Go.Proofs.Ytlgfihlflchhgaa
open Go.RowKit
section
variable {P:Program} (w:World) {α:Type} {f:α->List Value}
theorem ow_of_append {e:TypeId} {base:Nat} {size:Nat} {v':Value} {w':World} {xs:List α} (hf:∀ x,(f x).length=size) (h:w'.ownsRow base e size v' (0+xs.length) ([]++xs.flatMap f)) :
  ∃ A c,v' = .slice A xs.length c/\Ow f size e w' base w'.heap.size (.slice A xs.length c) xs:=by
 rw [Nat.zero_add,List.nil_append] at h
 have h2:=Ow.of_row hf h rfl rfl
 obtain ⟨A,c,rfl,r⟩:=h2
 exact ⟨A,c,rfl,A,c,rfl,r⟩
theorem wpList_append_new {ops:Array Oper} {rest:List Oper} {o:Oper} {a:Act} {Q:Exit->Act->World->Prop} (hgd:o.guard=none) (s x:Operand) (t:TypeId)
  (ho:o.op = .call { callee := .builtin .append,args := #[s,x],argTypes := #[t,t] })
  (base:Nat) (e:TypeId) (i:TypeInfo) (z:Value) (size bytes:Nat) (ht:P.underlying t=some (.slice e)) (hi:P.info? e=some i) (hz:i.zero=some z)
  (hsize:i.size=size) (hby:i.bytes=bytes) (hzs:z.cells.size=size) (hsz:0<size)
  (v:Value) (hs:a.eval s=v) (hown:w.ownsRow base e size v 0 [])
  (A:Option Addr) (c:Nat) (xs:List α) (hf:∀ x,(f x).length=size) (hx:a.eval x = .slice A xs.length c) (hr:Src w A xs.length (xs.flatMap f)) (h1:∀ u∈xs.flatMap f,u.oneCell'=true)
  (h63:0+xs.length<=maxLen) (hbytes:(0+xs.length)*bytes<=140737488355328) (hbase:base<=w.heap.size)
  (h:∀ A' c' w',Ow f size e w' base w'.heap.size (.slice A' xs.length c') xs->w.grownBy w' v.ownBlock->wpList P ops Q rest (a.put o.dst (.slice A' xs.length c')) w'):wpList P ops Q (o::rest) a w:=by
 refine wpList_append_src w hgd s x t ho base e i z size bytes ht hi hz hsize hby hzs hsz v 0 [] hs hown A xs.length c (xs.flatMap f) hx (flat_len hf xs) hr h1 h63 hbytes hbase fun v' w' h2 h3 _ => ?_
 obtain ⟨A',c',rfl,ho'⟩:=ow_of_append hf h2
 exact h A' c' w' ho' h3
end
section
variable {α:Type} {f:α->List Value} {s:Nat} {t e:TypeId} {w w':World} {lo hi:Nat} {u v:Value} {xs:List α} {base size n:Nat} {cells:List Value}
theorem Ow.grownRow (h:Ow f s t w lo hi v xs) (ho:w.ownsRow base e size u n cells) (hne:t≠e) (hg:w.grownBy w' u.ownBlock):Ow f s t w' lo hi v xs:=by
 refine h.grown hg fun hn => ?_
 obtain ⟨g,cur,h1,_,_,h2⟩:=h.block hn
 rw [h1]
 rcases ho.2 with ⟨rfl,_⟩ | ⟨g',cap,cur',rfl,_,hh,_⟩
 ·simp [Value.ownBlock]
 ·simp only [Value.ownBlock,ne_eq,Option.some.injEq]
  rintro rfl
  have h3:Blk w g e cur':=hh
  exact hne (h2.inj h3).1
end
theorem Src.one {w:World} {g:Nat} {t:TypeId} {u:Value} (h:Blk w g t #[u]):Src w (some ⟨g,0,none⟩) 1 [u]:=by
 intro _
 refine ⟨_,rfl,fun j x hx => ?_⟩
 rw [add_plain',Nat.zero_add,h.cell]
 match j,hx with
 | 0,hx=>simpa using hx
 | j+1,hx=>simp at hx
theorem Src.below {w w':World} {B m:Nat} {A:Option Addr} {news:List Value} (h:Src w A m news) (hb:Below B w w') (hB:w.heap.size<=B):Src w' A m news:=by
 intro hm
 obtain ⟨ad,rfl,hc⟩:=h hm
 refine ⟨ad,rfl,fun j u hu => ?_⟩
 have := hc j u hu
 rw [hb.cell (Nat.lt_of_lt_of_le (World.block_lt_of_cell? w _ this) hB)]
 exact this
end Go.Proofs.Ytlgfihlflchhgaa
namespace Go.Proofs.Ytlgfihlflchhgaa
open Go.ChangeShapes Go.WideShapes Go.ChangeAt Go.RowKit
set_option maxRecDepth 100000
end Go.Proofs.Ytlgfihlflchhgaa
namespace Go.Proofs.Ytlgfihlflchhgaa
open Go.ChangeShapes Go.WideShapes Go.ChangeAt Go.RowKit
set_option maxRecDepth 100000
end Go.Proofs.Ytlgfihlflchhgaa
