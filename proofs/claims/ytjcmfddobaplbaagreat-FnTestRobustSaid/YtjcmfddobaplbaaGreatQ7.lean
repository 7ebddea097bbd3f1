/- Texts joined. No conditions. -/
import Derived.RangeFuncNested
import Derived.RangeFuncBound
import Derived.RangeFuncCalls
import Derived.RangeFuncLeaves
import Derived.RangeFuncBox
import Derived.WalkKit
import Derived.OwnWalkIn
import Derived.TacticsInMore
import Derived.LoopNIn
import Derived.LoopIn
import Derived.Shelf.Abstract
import Derived.Shelf.RegionOpen
import Derived.ChangeSame
import Derived.ChangeSlices
import Derived.WideKeyArgs
import Derived.Carry
import Derived.Deep.Slices
import Derived.Deep.Fields
import Derived.ProofKit
import Derived.OpenShut
import Derived.BigRegion
import Derived.Sort.Row
import Derived.Sort.Grow
import Derived.Test.YtjcmfddobaplbaaGreatProg
import Derived.Shelf.SortM.Plain
import Derived.Shelf.SortM.SortNone
import Derived.Shelf.SlSortCmp.NoneTotal
import Derived.Laws.IdiomStrings
import Derived.Test.YtjcmfddobaplbaaGreatQ6
namespace Go.Proofs.YtjcmfddobaplbaaGreat
noncomputable section
open _root_.Nat renaming le_refl -> HM, zero_le -> HQ, reduceAdd -> H4, reduceSub -> H5, add_zero -> Ig
open _root_.List renaming size_toArray -> HZ, length_nil -> H3, push_toArray -> H8, append_toArray -> H9, nil_append -> Ia, cons_append -> Ib, getElem?_map -> Ic, mem_map -> Ie, drop_eq_getElem_cons -> Ih, length_reverse -> Ij, eq_nil_of_length_eq_zero -> Ik, mem_append_left -> Im, mem_append_right -> Io, drop_eq_nil_of_le -> Ip
open _root_.Array renaming replicate_succ -> H6, replicate_zero -> H7, getElem?_modify -> Iq, getElem_ofFn -> Ir, extract_eq_self_of_le -> Iu
open _root_.Option renaming map_eq_some_iff -> Ii
open _root_.Int renaming tdiv_eq_ediv_of_nonneg -> Il
set_option maxHeartbeats 4000000
open Go.RowKit Go.Shelf
set_option maxRecDepth 100000
theorem sP (F:Fence) (n:Nat) (hf:F.fn 258) (hro:F.round=none) (a:Option Addr) (len cap:Nat) (w:World) :
  CallsIn F n Tryz.prog 258 #[.slice a len cap] w λe w'=>e = .returned (.func (.func 260) #[] #[.pointer (some ⟨w.heap.size,0,none⟩)])/\w'=w.alloc (.cells #[.slice a len cap] 22):=by
 refine callsIn_of_wp Tryz.func258 rfl hf ?_ hro;simp only [Tryz.ntmps258,HZ,llc,H3,H4,H5,H6,H7,H8,H9,Ia,Ib]
 gi_wp2
 go_ret
 exact ⟨rfl,rfl⟩
section
attribute [local go_sem] Oper.semAt_some
def mh {α:Type} (f:Nat->α) (k:Nat):List α:=(List.range k).map f
theorem mi {α:Type} (f:Nat->α) (k:Nat):mh f (k+1)=mh f k++[f k]:=by simp [mh,List.range_succ]
theorem rF {α:Type} (f:Nat->α) (k:Nat):(mh f k).length=k:=by simp [mh]
abbrev BX:={ x:Int×Int // 0<=x.2/\x.2<=255 }
def Au (zs:LI):Prop:=∀ j:Nat,0<=zs[j]?.getD 0/\zs[j]?.getD 0<=255
def iR (zs:LI) (hz:Au zs) (len k:Nat):BX:=⟨((len:Int)-1-k,zs[len-1-k]?.getD 0),hz _⟩
set_option maxHeartbeats 2000000 in
theorem yR (F:Fence) (n:Nat) (h7:F.fn 260) (hro:F.round=none) (hn:1<=n) (l Bs n₀ b off len cap:Nat) (zs:LI) (hz:Au zs) (hreach:len<=9223372036854775807) (hb:b<n₀) (J Jx:List BX->World->Prop)
  (hY:∀ pre x W,J pre W->pre.length<len->YieldAt F (n-1) Tryz.prog l #[.int .i64 x.1.1,.int .u8 x.1.2] W λe W'=>
   (e = .returned (.bool true)/\J (pre++[x]) W'/\Below n₀ W W')\/(e = .returned (.bool false)/\Jx (pre++[x]) W'))
  (W:World) (hBs:W.cell? ⟨Bs,0,none⟩=some (.slice (some ⟨b,off,none⟩) len cap)) (hBn:Bs<n₀) (hc:∀ j,j<len->W.cell? ⟨b,off+j,none⟩=some (.int .u8<|zs[j]?.getD 0)) (h0:J [] W) :
  CallsIn F n Tryz.prog 260 #[.func (.yield l) #[] #[],.pointer (some ⟨Bs,0,none⟩)] W λe W'=>(∃ v,e = .returned v) /\
   ((∃ ys,ys=mh (iR zs hz len) len/\J ys W')\/(∃ pre,(∃ k,k<=len/\pre=mh (iR zs hz len) k)/\Jx pre W')):=by
 refine callsIn_of_wp Tryz.func260 rfl h7 ?_ hro;simp only [Tryz.ntmps260,HZ,llc,H3,H4,H5,H6,H7,H8,H9,Ia,Ib]
 gi_wp2
 gi_loopw [3] (λi wr=>∃ k:Nat,k<=len/\i = .int .i64 ((len:Int)-1-k)/\J (mh (iR zs hz len) k) wr/\Below n₀ W wr)
  (λi _=>(intOf i+1).toNat)
 case atStart=>exact ⟨0,HQ _,by simp,h0,Below.refl _ _⟩
 case round=>
  obtain ⟨k,hk,rfl,hJs,hnx⟩:=hrel;have hcb:wr.cell? ⟨Bs,0,none⟩=some (.slice (some ⟨b,off,none⟩) len cap):=(hnx.cell (p:=⟨Bs,0,none⟩) hBn).trans hBs;have hcx:k<len->wr.cell? ⟨b,off+(len-1-k),none⟩=some (.int .u8<|zs[len-1-k]?.getD 0):=λh=>(hnx.cell (p:=⟨b,off+(len-1-k),none⟩) hb).trans<|hc _ (by omega)
  by_cases hlt:k<len
  ·obtain ⟨fn,tmps,assign,body,hy,hR⟩:=hY _ (iR zs hz len k) wr hJs (by rw [rF];exact hlt)
   dsimp only [iR] at hy
   have hcx':=hcx hlt;have hix:((len:Int)-1-k).toNat=len-1-k:=by omega
   gi_wp2
   refine hR.mono ?_;rintro e W3 (⟨rfl,hJ3,hk3⟩ | ⟨rfl,hJx3⟩)
   ·gi_wp2
    go_roundw
    case rel=>exact ⟨k+1,by omega,by simp;omega,by rw [mi];exact hJ3,hnx.trans hk3⟩
    case measure=>simp [intOf];omega
   gi_wp2
   refine bodyPost_ret (results_none rfl _ _ _) rfl ?_;exact ⟨⟨_,rfl⟩,.inr ⟨_,⟨k+1,by omega,(mi _ _).symm⟩,hJx3⟩⟩
  obtain rfl:k=len:=by omega
  gi_wp2
  go_end0
  exact ⟨⟨_,rfl⟩,.inl ⟨_,rfl,hJs⟩⟩
set_option maxHeartbeats 2000000 in
theorem yS (F:Fence) (n:Nat) (h7:F.fn 260) (hro:F.round=none) (l Bs:Nat) (A:Option Addr) (cap:Nat) (J:List BX->World->Prop) (W:World) (hBs:W.cell? ⟨Bs,0,none⟩=some (.slice A 0 cap)) (h0:J [] W) :
  CallsIn F n Tryz.prog 260 #[.func (.yield l) #[] #[],.pointer (some ⟨Bs,0,none⟩)] W λe W'=>(∃ v,e = .returned v)/\J [] W':=by
 refine callsIn_of_wp Tryz.func260 rfl h7 ?_ hro;simp only [Tryz.ntmps260,HZ,llc,H3,H4,H5,H6,H7,H8,H9,Ia,Ib]
 gi_wp2
 gi_loopw [3] (λi wr=>i = .int .i64 (-1)/\J [] wr) (λ_ _=>0)
 case atStart=>exact ⟨rfl,h0⟩
 case round=>
  obtain ⟨rfl,hJs⟩:=hrel
  gi_wp2
  go_end0
  exact ⟨⟨_,rfl⟩,hJs⟩
end
def pX (n₀:Nat) (W:World) (A:Option Addr) (zs:LI):Prop:=0<zs.length->∃ b off,A=some ⟨b,off,none⟩/\b<n₀/\∀ j,j<zs.length->W.cell? ⟨b,off+j,none⟩=some (.int .u8<|zs[j]?.getD 0)
theorem pX.below {n₀:Nat} {V W:World} (h:Below n₀ V W) {A:Option Addr} {zs:LI} (hb:pX n₀ V A zs):pX n₀ W A zs:=λh0=>by
 obtain ⟨b,off,e,hb,hc⟩:=hb h0;exact ⟨b,off,e,hb,λj hj=>(h.cell (p:=⟨b,off+j,none⟩) hb).trans<|hc j hj⟩
theorem vq {zs:LI} {loc m:Int} (h:∀ z∈zs,z.tdiv 16≠loc):l8 zs loc m=m:=by
 unfold l8;have : (zs.reverse.find? λb=>b.tdiv 16==loc)=none:=List.find?_eq_none.2 λz hz=>by
  have := h z<|List.mem_reverse.1 hz;simpa using this
 rw [this]
theorem yT {zs:LI} {hz:Au zs} {loc m:Int} {k:Nat} (hk:k+1<=zs.length) (h:(iR zs hz zs.length k).1.2.tdiv 16=loc) (hb:∀ j,j<k->(iR zs hz zs.length j).1.2.tdiv 16≠loc):l8 zs loc m=(iR zs hz zs.length k).1.2.tmod 16:=by
 unfold l8;have hat:∀ (j:Nat) (hj:j<zs.reverse.length),zs.reverse[j]=(iR zs hz zs.length j).1.2:=λj hj=>by
  rw [Ij] at hj;simp only [iR];rw [List.getElem_reverse,geq (by omega),Option.getD_some]
 have : (zs.reverse.find? λb=>b.tdiv 16==loc)=some (iR zs hz zs.length k).1.2:=by
  refine List.find?_eq_some_iff_getElem.2 ⟨by simpa using h,k,by rw [Ij];omega,hat k _,λj hj=>?_⟩;rw [hat j _];simpa using hb j hj
 rw [this]
theorem vu (F:Fence) (n:Nat) (h7:F.fn 260) (hro:F.round=none) (hn:1<=n) (Bs n₀:Nat) (A:Option Addr) (cap:Nat) (zs:LI) (hz:Au zs) (hreach:zs.length<=9223372036854775807) (w:World) (hBs:Bs<n₀) (hn₀:n₀<=w.heap.size)
  (hc:w.cell? ⟨Bs,0,none⟩=some (.slice A zs.length cap)) (hI:pX n₀ w A zs) :
  SeqStopsK F n Tryz.prog 260 #[.pointer (some ⟨Bs,0,none⟩)] (λx:BX => #[Value.int .i64 x.1.1,Value.int .u8 x.1.2]) (Below n₀) (λys=>ys=mh (iR zs hz zs.length) zs.length) (λpre=>∃ k,k<=zs.length/\pre=mh (iR zs hz zs.length) k) zs.length w:=λl J Jx W hW _ _ hY h0=>by
 have hc':=(hW.cell (p:=⟨Bs,0,none⟩)<|Nat.lt_of_lt_of_le hBs hn₀).trans hc
 by_cases h0l:0<zs.length
 ·obtain ⟨b,off,rfl,hb,hcs⟩:=hI.below (hW.mono hn₀) h0l;exact yR F n h7 hro hn l Bs n₀ b off zs.length cap zs hz hreach hb J Jx hY W hc' hBs hcs h0
 have : zs=[]:=Ik (by omega);subst this;exact (yS F n h7 hro l Bs A cap J W hc' h0).mono λe W' ⟨he,hj⟩=>⟨he,.inl ⟨_,rfl,hj⟩⟩
section
attribute [local go_sem] Oper.semAt_some
theorem Af (n:Nat) (hn:3<=n) {w:World} {g o:Nat} {sp:Bool} (hsp:w.cell? ⟨g,o+16,none⟩=some (.bool sp)) {wb wo wl wc:Nat} (hw:w.cell? ⟨g,o+17,none⟩=some (.slice (some ⟨wb,wo,none⟩) wl wc))
  (hg:g<w.heap.size) (hwb:wb<w.heap.size) {t loc:Int} (ht:0<=t/\t<3) (hl:0<=loc/\loc<3) (hi0:0<=dI sp t loc) (hi:dI sp t loc<(wl:Int)) {A:Option Addr} {zs:LI} {cap:Nat} (hwi:w.cell? ⟨wb,wo+(dI sp t loc).toNat,none⟩=some (.slice A zs.length cap))
  (hz:pX w.heap.size w A zs) (hreach:zs.length<=9223372036854775807) (hby:Au zs) {m:Int} (hm:w.cell? ⟨g,o+13+loc.toNat,none⟩=some (.int .u8 m)) :
  CallsIn Fence.wide n Tryz.prog 252 #[.pointer (some ⟨g,o,none⟩),.int .i64 t,.int .i64 loc] w λe W'=>e = .returned (.int .u8<|l8 zs loc m)/\Below w.heap.size w W':=by
 have h1:1<=n:=by omega
 have hro:Fence.wide.round=none:=rfl;have hF:∀ f,Fence.wide.fn f:=λ_=>trivial;have BK:∀ W:World,Calls Tryz.prog 258 #[.slice A zs.length cap] W λe w'=>e = .returned (.func (.func 260) #[] #[.pointer (some ⟨W.heap.size,0,none⟩)])/\w'=W.alloc (.cells #[.slice A zs.length cap] 22):=λW=>(callsIn_wide (n:=n)).1<|sP Fence.wide n (hF _) rfl _ _ _ _;have bL:=Boxed.new w 3<|.int .i64 loc;have bR:=Boxed.new (w.alloc<|.cells #[.int .i64 loc] 3) 5<|.int .u8 0;have bN:=Boxed.new ((w.alloc<|.cells #[.int .i64 loc] 3).alloc<|.cells #[.int .u8 0] 5) 22<|.slice A zs.length cap;rw [World.size_alloc] at bR;rw [World.size_alloc,World.size_alloc] at bN;have hB0:Below w.heap.size w (((w.alloc<|.cells #[.int .i64 loc] 3).alloc<|.cells #[.int .u8 0] 5).alloc<|.cells #[.slice A zs.length cap] 22).drew:=((((Below.refl _ w).alloc (HM _) _).alloc (by simp) _).alloc (by simp;omega) _).drew;refine callsIn_of_wp_marks Tryz.func252 rfl (hF _) ?_ hro;simp only [Tryz.ntmps252,HZ,llc,H3,H4,H5,H6,H7,H8,H9,Ia,Ib]
 gi_wp2_with fail
 refine wpIn_wide.2<|wp_mono (Ad hsp hw hg hwb ht hl hi0 hi hwi BK (K:=λa W=>a=_/\W=_) ⟨rfl,rfl⟩) ?_;intro e a W h
 cases e with
 | normal=>
  obtain ⟨rfl,rfl⟩:=h
  gi_wp2_with fail
  have hsz:(((w.alloc<|.cells #[.int .i64 loc] 3).alloc<|.cells #[.int .u8 0] 5).alloc<|.cells #[.slice A zs.length cap] 22).drew.heap.size=w.heap.size+1+1+1:=by simp
  have fL:(((w.alloc<|.cells #[.int .i64 loc] 3).alloc<|.cells #[.int .u8 0] 5).alloc<|.cells #[.slice A zs.length cap] 22).drew.cell? ⟨w.heap.size,0,none⟩=some (.int .i64 loc):=((bL.alloc _).alloc _).cell;have fR:(((w.alloc<|.cells #[.int .i64 loc] 3).alloc<|.cells #[.int .u8 0] 5).alloc<|.cells #[.slice A zs.length cap] 22).drew.cell? ⟨w.heap.size+1,0,none⟩=some (.int .u8 0):=(bR.alloc _).cell;have fF:(((w.alloc<|.cells #[.int .i64 loc] 3).alloc<|.cells #[.int .u8 0] 5).alloc<|.cells #[.slice A zs.length cap] 22).drew.frozen? ⟨w.heap.size+1,0,none⟩=false:=(bR.alloc _).frozen;have fN:(((w.alloc<|.cells #[.int .i64 loc] 3).alloc<|.cells #[.int .u8 0] 5).alloc<|.cells #[.slice A zs.length cap] 22).drew.cell? ⟨w.heap.size+1+1,0,none⟩=some (.slice A zs.length cap):=bN.cell;generalize (((w.alloc<|.cells #[.int .i64 loc] 3).alloc<|.cells #[.int .u8 0] 5).alloc<|.cells #[.slice A zs.length cap] 22).drew=W3 at hB0 hsz fL fR fF fN ⊢;refine wpIn_rangeFunc_ownG hro h1 (gf:=260) (lb:=#[.pointer (some ⟨w.heap.size+1+1,0,none⟩)]) rfl (hF _) (enters_of Tryz.func260 (by kernel_rfl) rfl) (vu Fence.wide (n-1) (hF _) hro (by omega) (w.heap.size+1+1) (w.heap.size+1+1+1) A cap zs hby hreach W3 (by omega) (by rw [hsz];exact HM _) fN (λh0=>by obtain ⟨b,off,e,hb,hc⟩:=hz.below hB0 h0;exact ⟨b,off,e,by omega,hc⟩)) belowK_t (belowK_b<|by rw [hsz];exact HM _) (Below.refl _ _) (λ_=>rfl) (λpre W=>((∀ x∈pre,x.1.2.tdiv 16≠loc)/\W.cell? ⟨w.heap.size,0,none⟩=some (.int .i64 loc)/\W.cell? ⟨w.heap.size+1,0,none⟩=some (.int .u8 0)/\W.frozen? ⟨w.heap.size+1,0,none⟩=false)/\Below w.heap.size w W) (λc pre W=>(c = .ret/\∃ ini last,pre=ini++[last]/\(∀ x∈ini,x.1.2.tdiv 16≠loc)/\last.1.2.tdiv 16=loc/\W.cell? ⟨w.heap.size+1,0,none⟩=some (.int .u8<|last.1.2.tmod 16))/\Below w.heap.size w W) (OwnFrom.and (Own.from (λs A B row hs hg hr=>⟨hs.1,cell_kept hs.2.1 hg hr,cell_kept hs.2.2.1 hg hr,(frozen_kept hs.2.2.1 hg hr).trans hs.2.2.2⟩) _)<|ownFrom_below (HM _)<|by rw [hsz];omega) (λc=>OwnFrom.and (Own.from (λs A B row hs hg hr=>by obtain ⟨hc,ini,last,e1,e2,e3,e4⟩:=hs;exact ⟨hc,ini,last,e1,e2,e3,cell_kept e4 hg hr⟩) _)<|ownFrom_below (HM _)<|by rw [hsz];omega) ⟨⟨by simp,fL,fR,fF⟩,hB0⟩ (λx=>{ tmps := #[.pointer (some ⟨g,o,none⟩),.int .i64 t,.int .i64 loc,undef,undef,.pointer (some ⟨w.heap.size,0,none⟩),.pointer (some ⟨w.heap.size+1,0,none⟩),undef,.int .u8 x.1.2,.pointer (some ⟨g,o,none⟩),.pointer (some ⟨g,o,none⟩),.pointer (some ⟨g,o+17,none⟩),.slice (some ⟨wb,wo,none⟩) wl wc,.pointer (some ⟨g,o,none⟩),.int .i64 t,.int .i64 loc,.int .i64 (dI sp t loc),.pointer (some ⟨wb,wo+(dI sp t loc).toNat,none⟩),.slice A zs.length cap,.func (.func 260) #[] #[.pointer (some ⟨w.heap.size+1+1,0,none⟩)],.int .i64 x.1.1,.int .u8 x.1.2,undef,undef,undef,undef,undef,undef,undef,undef,undef,undef,undef,undef,undef,undef],defers:=[] }) ?assign ?body ?done ?stop
  case assign=>
   intro l x W K hK
   gi_wp2
   exact hK
  case body=>
   rintro l pre ⟨⟨xi,xb⟩,hx1,hx2⟩ W ⟨⟨hp,hcl,hcr,hfr⟩,hB⟩ _;simp only at hx1 hx2
   gi_wp2
   ·have hx:(xb / 16==loc)=true:=by assumption
    have e1:xb.tdiv 16=loc:=(Il hx1).trans<|eq_of_beq hx;have e2:xb.tmod 16=xb % 16:=Int.tmod_eq_emod_of_nonneg hx1;exact ⟨(KeepsOthers.setCell _ _ _).from _,⟨rfl,pre,_,rfl,hp,e1,by simp only [e2];exact World.cell?_setCell_same' _ _ _<|by rw [hcr];rfl⟩,hB.setCell (p:=⟨w.heap.size+1,0,none⟩) (by simp) _⟩
   have hx:(xb / 16==loc)=false:=by assumption
   have e1:xb.tdiv 16≠loc:=λe=>by
    rw [Il hx1] at e;rw [e] at hx;simp at hx
   exact ⟨KeepsFrom.refl _ _,Below.refl _ _,⟨λx hx'=>(List.mem_append.1 hx').elim (hp x) (λe=>by rw [List.mem_singleton.1 e];exact e1),hcl,hcr,hfr⟩,hB⟩
  case done=>
   rintro D ys W hD rfl ⟨⟨hne,hcl,hcr,hfr⟩,hB⟩ hK;have hr:l8 zs loc m=m:=vq λz hz'=>by
    obtain ⟨j,hj,rfl⟩:=List.getElem_of_mem hz';have := hne (iR zs hby zs.length<|zs.length-1-j) (by unfold mh;exact Ie.2 ⟨_,List.mem_range.2 (by omega),rfl⟩);simp only [iR] at this
    rwa [show zs.length-1-(zs.length-1-j)=j by omega,geq hj,Option.getD_some] at this
   gi_wp2_with fail
   refine wpIn_wide.2<|wp_mono (Ae hl hcl hcr hfr ((hB.cell (p:=⟨g,o+13+loc.toNat,none⟩) hg).trans hm) (K:=λa W=>a=_/\W=_) ⟨rfl,rfl⟩) ?_;intro e a V h
   cases e with
   | normal=>
    obtain ⟨rfl,rfl⟩:=h
    gi_wp2
    have hK':((W.setCell ⟨w.heap.size+1,0,none⟩<|.int .u8 m).drew).heap[D]? = some (.deferred<|some []):=(KeepsOthers.setCell W ⟨w.heap.size+1,0,none⟩<|.int .u8 m).same D _ hK rfl;refine ⟨by simp,.inl ⟨_,_,rfl,run_takeDeferred hK',?_⟩⟩;have hc4:(W.setCell ⟨w.heap.size+1,0,none⟩<|.int .u8 m).drew.cell? ⟨w.heap.size+1,0,none⟩=some (.int .u8 m):=World.cell?_setCell_same' W ⟨w.heap.size+1,0,none⟩ (.int .u8 m) (by rw [hcr];rfl);have hc5:=cell_kept hc4 (grownBy_putObj' _ D<|.deferred none) (λr e=>by cases e;exact ⟨_,hK',rfl⟩);refine ⟨.int .u8 m,?_,by rw [hr],((hB.setCell (p:=⟨w.heap.size+1,0,none⟩) (by simp) _).drew).trans<|belowK_b (w:=w) (HM _) _ D _ _ (by omega) hK' rfl rfl⟩;simp [results,Tryz.f252,go_sem,hc5]
   | _=>exact h.elim
  case stop=>
   rintro D c pre W hD ⟨k,hk,rfl⟩ ⟨⟨rfl,ini,last,e1,e2,e3,hcr⟩,hB⟩ hK
   gi_wp2
   refine ⟨by simp,.inl ⟨_,_,rfl,run_takeDeferred hK,?_⟩⟩;have hc5:=cell_kept hcr (grownBy_putObj' _ D<|.deferred none) (λr e=>by cases e;exact ⟨_,hK,rfl⟩);obtain ⟨k',rfl⟩:∃ k',k=k'+1:=by
    cases k with
    | zero=>simp [mh] at e1
    | succ k'=>exact ⟨k',rfl⟩
   rw [mi] at e1;obtain ⟨rfl,e5⟩:=List.append_inj' e1 rfl;obtain rfl:iR zs hby zs.length k'=last:=by simpa using e5
   have hr:l8 zs loc m=((iR zs hby zs.length k').1.2).tmod 16:=yT hk e3 λj hj=>e2 (iR zs hby zs.length j) (by unfold mh;exact Ie.2 ⟨_,List.mem_range.2 hj,rfl⟩);refine ⟨.int .u8 _,?_,by rw [hr],hB.trans<|belowK_b (w:=w) (HM _) W D _ _ (by omega) hK rfl rfl⟩;simp [results,Tryz.f252,go_sem,hc5]
 | _=>exact h.elim
end
theorem Ag {w:World} {fz:Nat->Prop} {row:List AV} {v:Value} (h:FRel w fz (.fp row 0) v):∃ (g o:Nat) (us:Nat->Value),v = .pointer (some ⟨g,o,none⟩)/\g<w.heap.size/\(∀ (j:Nat) (c:AV),row[j]? = some c->w.cell? ⟨g,o+j,none⟩=some (us j))/\∀ (j:Nat) (c:AV),row[j]? = some c->FRel w fz c (us j):=by
 cases h with
 | @fp _ _ g o us hg hlt hu h1 h=>exact ⟨g,o,us,rfl,hlt,hu,h⟩
theorem gdB {α:Type} {b:Bool} {x:Option α} {r:α} (h:gd b x=some r):b=true/\x=some r:=by
 cases b with
 | true=>exact ⟨rfl,h⟩
 | false=>cases h
theorem ji (s:aa) (t loc:Int) {q} (h:bQ s t loc=some q):aO Tryz.prog 252 [.fp (aa.c s) 0,I t,I loc] (Y q):=by
 unfold bQ at h;obtain ⟨⟨ht,hl⟩,h⟩:=gdD h;obtain ⟨hi,h⟩:=gdD h;obtain ⟨hby,h⟩:=gdB h;obtain rfl:=osl h;refine ⟨by kernel_rfl,λw fz vs hlt _ hvl hrel=>?_⟩;obtain ⟨u,v,x,rfl⟩:∃ u v x,vs = #[u,v,x]:=by
  obtain ⟨l⟩:=vs
  match l,hvl with
  | [u,v,x],_=>exact ⟨u,v,x,rfl⟩
 obtain ⟨g,o,us,rfl,hg,hu,hr⟩:=Ag<|hrel 0 _ u rfl rfl;obtain rfl:v = .int .i64 t:=mI<|hrel 1 _ v rfl rfl;obtain rfl:x = .int .i64 loc:=mI<|hrel 2 _ x rfl rfl;have hsp:w.cell? ⟨g,o+16,none⟩=some (.bool s.split):=by
  have h1:=hu 16 _ rfl;rw [mI (hr 16 _ rfl)] at h1;exact h1
 have hi0:0<=dI s.split t loc:=by
  unfold dI
  cases s.split <;> simp only [cond_true,cond_false] <;> omega
 obtain ⟨xs,hxs,hxl,hxr⟩:=mJ (f:=r9) (s:=1) (e:=id) (λ_=>rfl) (λ_=>rfl)<|hr 17 _ rfl;obtain ⟨A,ca,e17,hca,hma,hA⟩:=hxs;rw [llm] at hxl;obtain ⟨i,hie⟩:∃ i:Nat,dI s.split t loc=i:=⟨_,(Int.toNat_of_nonneg hi0).symm⟩;have hin:i<s.waits.length:=by omega
 obtain ⟨wb,wo,rfl,_,_,hwb,hcells⟩:=hA (by omega);have hix:i<xs.length:=by omega
 have hwi:=hcells i hix 0 xs[i] rfl;obtain ⟨A2,c2,e2,hc2,hm2,hA2⟩:=hxr i hix (by rw [llm];exact hin);have hrow:(s.waits.map λr=>r.map id)[i]'(by rw [llm];exact hin)=s.waits.getD i default:=by
  rw [List.getElem_map,List.map_id];simp [List.getD,hin]
 rw [hrow] at e2 hc2 hA2;rw [hie,tnn] at hby ⊢;have hw17:w.cell? ⟨g,o+17,none⟩=some (.slice (some ⟨wb,wo,none⟩) xs.length ca):=by
  rw [<- e17];exact hu 17 _ rfl
 have hm:w.cell? ⟨g,o+13+loc.toNat,none⟩=some (.int .u8<|Z3b.get s.values.mem loc):=by
  have : loc=0\/loc=1\/loc=2:=by omega
  rcases this with rfl | rfl | rfl
  ·have h1:=hu 13 _ rfl;rw [mI (hr 13 _ rfl)] at h1;exact h1
  ·have h1:=hu 14 _ rfl;rw [mI (hr 14 _ rfl)] at h1;exact h1
  have h1:=hu 15 _ rfl;rw [mI (hr 15 _ rfl)] at h1;exact h1
 have hAll:Au (s.waits.getD i default):=λj=>by
  cases e:(s.waits.getD i default)[j]? with
  | none=>exact ⟨by decide,by decide⟩
  | some b=>exact of_decide_eq_true (List.all_eq_true.1 hby b<|List.mem_of_getElem? e)
 have hB:pX w.heap.size w A2 (s.waits.getD i default):=λh0=>by
  obtain ⟨b,off,e,_,_,hlt',hc⟩:=hA2 h0;refine ⟨b,off,e,hlt',λj hj=>?_⟩;have := hc j hj 0 _ rfl;rw [Nat.mul_one,Ig] at this;rw [this,geq hj]
  rfl
 refine ((callsIn_wide (n:=3)).1<|Af 3 (by omega) hsp hw17 hg hwb ht hl hi0 (by omega) (A:=A2) (zs:=s.waits.getD i default) (cap:=c2) ?_ hB (by omega) hAll hm).mono λe w' ⟨he,hb⟩ => ?_
 ·rw [hie,tnn,<- e2];rw [Nat.mul_one,Ig] at hwi;exact hwi
 exact ⟨_,fz,he,hb,.v Z,λg hg=>hg,λg hg => .inl hg,λg hg=>Nat.lt_of_lt_of_le (hlt g hg) hb.size⟩
open Go.RowKit Go.WideShapes Go.ChangeShapes Go.Deep
section
variable {H:Type} {enc:TypeId×Value->H} {P:Program}
theorem qy {f:Func} {s:ChangeSpec} {apart fresh handsOn again:Bool} {W W':World} {args:Array Value} {v:Value} {ds gs:List (DataW H)} {before pa pv:List MemPlace}
  (hW:DataW.Whole enc P f.params.toList s.vars apart W args.toList ds gs before)
  (hres:∀ (b:Nat) (sp:Nat->Bool) (hd:Bool),DataW.TrodAll enc P W' b sp hd f.resultTypes.toList (v.resultList f.resultTypes.size) (s.fn H<|ds++gs).results [])
  (hargs:∀ sp:Nat->Bool,(∀ p∈before,sp p.block=true)->DataW.TrodAll enc P W' 0 sp true f.params.toList args.toList (s.fn H<|ds++gs).args pa)
  (hvars:∀ sp:Nat->Bool,(∀ p∈before,sp p.block=true)->DataW.TrodVars enc P W' sp s.vars (s.fn H<|ds++gs).vars pv)
  (hps:before=pa++pv) (hb:Below W.heap.size W W')
  (hok:∀ (j:Nat) (t:TypeId) (r:Value),f.resultTypes[j]? = some t->(v.resultList f.resultTypes.size)[j]? = some r->Value.okWide P W' .any 0 t r) :
  s.post enc P f apart fresh handsOn again W args v W':=by
 have hlt:∀ p∈before,p.block<W.heap.size:=λp hp=>hW.lt p hp;have hold:∀ p∈before,(λb=>decide<|b<W.heap.size) p.block=true:=λp hp=>by simpa using hlt p hp
 refine ⟨ds,gs,before,[],pa,pv,hW,hres _ _ _,hargs _ hold,hvars _ hold,World.keptBut_mono (λp hp=>⟨hp,?_⟩) (hb.frame (· ∈ before)),λ_=>?_⟩
 ·rw [hps,List.mem_append] at hp;exact Or.inr hp
 obtain ⟨_,_,_,_,_,hz,hn⟩:=hW;refine ⟨hok,_,_,([]++pa)++pv,⟨[]++pa,pv,trodAll_append (hargs _ λ_ _=>rfl)<|hres _ _ _,hvars _ λ_ _=>rfl,rfl,?_,?_⟩,?_⟩
 ·intro b off hp;have hin:MemPlace.cell b off∈before:=by rw [hps];simpa using hp
  rw [hb.frozen (hlt _ hin)];exact hz b off hin
 ·intro ha;have := hn ha;rw [hps] at this;simpa using this
 intro p hp _;rw [hps];simpa using hp
theorem lI (hl:laidOutB P=true) {W W':World} (hb:Below W.heap.size W W') {sp:Nat->Bool}:∀ (ts:List TypeId) (vs:List Value) (ds:List<|DataW H) (ps:List MemPlace),
  (∀ t∈ts,P.readableRec t=true/\t<P.types.size)->DataW.TrodAll enc P W 0 (λ_=>true) true ts vs ds ps->(∀ x∈ps,x.block<W.heap.size)->(∀ x∈ps,sp x.block=true) ->
  DataW.TrodAll enc P W' 0 sp true ts vs ds ps
 | [],[],[],_,_,h,_,_=>h
 | t::ts,v::vs,d::ds,ps,hr,⟨p,q,h1,h2,hpq⟩,hlt,hs=>by
  subst hpq;have hp:∀ x∈p,x.block<W.heap.size:=λx hx=>hlt x (Im _ hx);exact ⟨p,q,WideElems.Trod_stays hl (hr t (by simp)).1 (hr t (by simp)).2 h1 (λx hx=>hb.same (hp x hx)) (λx hx=>hs x (Im _ hx)),
   lI hl hb ts vs ds q (λt ht=>hr t (List.mem_cons_of_mem _ ht)) h2 (λx hx=>hlt x (Io _ hx)) (λx hx=>hs x (Io _ hx)),rfl⟩
 | [],_::_,_,_,_,h,_,_=>(by cases h)
 | [],[],_::_,_,_,h,_,_=>(by cases h)
 | _::_,[],_,_,_,h,_,_=>(by cases h)
 | _::_,_::_,[],_,_,h,_,_=>(by cases h)
variable {w:World} {spare:Nat->Bool} {held:Bool}
theorem yU {α:Type} {f:α->List Value} {s:Nat} {t e:TypeId} (hs:P.cellsOf e=s) (hs0:0<s) (ht:P.underlying t=some (.slice e)) {Good:α->Prop}
  (hel:∀ (fuel:Nat) (cs:List Value) (x:DataW H×List MemPlace),DataW.trod enc P w 0 spare held fuel e cs=some x->∃ a,cs=f a/\Good a) {fuel:Nat} {cs:List Value} {x:DataW H×List MemPlace}
  (h:DataW.trod enc P w 0 spare held fuel t cs=some x):∃ v,cs=[v]/\∃ xs:List α,Sl f s w 0 w.heap.size v xs/\∀ y∈xs,Good y:=by
 rcases open_slice ht h with ⟨rfl,_⟩ | ⟨a,len,cap,m,n,D,Pl,rfl,_,hl,hm,hmm,_,hi⟩
 ·exact ⟨_,rfl,[],Sl.nil_ _ _ (by omega),λy hy=>absurd hy<|by simp⟩
 refine ⟨_,rfl,?_⟩;have hlm:len<=m:=by rw [hmm];split <;> omega
 have key:∀ i,i<len->∃ y:α,Good y/\∀ (j:Nat) (u:Value),(f y)[j]? = some u->w.cell? ((a.add<|i*s).add j)=some u:=by
  intro i hil;obtain ⟨cs',hc,ht'⟩:=hi i (by omega);obtain ⟨y,rfl,hg⟩:=hel _ _ _ ht';obtain ⟨_,hcl,hat⟩:=World.cells?_some hc;rw [hs] at hat hcl;exact ⟨y,hg,λj u hu=>by
   have hj:j<s:=by
    have := (ges hu).1;omega
   rw [hat j hj];exact hu⟩
 have key2:∀ i,i<len->∃ cs',w.cells? 0 (a.add<|i*s) s=some cs':=by
  intro i hil;obtain ⟨cs',hc,_⟩:=hi i (by omega);rw [hs] at hc;exact ⟨cs',hc⟩
 clear hi;simp only [maxLen] at hm
 by_cases hn:0<len
 ·obtain ⟨cs0,hc0⟩:=key2 0 hn;obtain ⟨_,hcl,hat⟩:=World.cells?_some hc0;have h00:=hat 0 hs0;rw [geq (by omega)] at h00;have hspot:=World.cell?_spot h00;obtain ⟨b,o,sp⟩:=a;have hsp:sp=none:=by simpa [Addr.add] using hspot
  subst hsp;have hb:b<w.heap.size:=by
   have := World.block_lt_of_cell? w _ h00;simpa [l9] using this
  have hch:∃ F:Nat->α,∀ i,i<len->Good (F i)/\∀ (j:Nat) (u:Value),(f<|F i)[j]? = some u->w.cell? (((⟨b,o,none⟩:Addr).add<|i*s).add j)=some u:=by
   obtain ⟨y0,_⟩:=key 0 hn;refine ⟨λi=>if h:i<len then (key i h).choose else y0,λi hil=>?_⟩;simp only [dif_pos hil];exact (key i hil).choose_spec
  obtain ⟨F,hF⟩:=hch;refine ⟨(List.range len).map F,⟨_,cap,by simp,by simpa using hl,by omega,λ_=>⟨b,o,rfl,HQ _,hb,hb,λk hk j u hu=>?_⟩⟩,λy hy=>?_⟩
  ·have hk':k<len:=by simpa using hk
   have := (hF k hk').2 j u (by simpa using hu)
   rwa [l9,l9] at this
  rw [Ie] at hy;obtain ⟨i,hi,rfl⟩:=hy;exact (hF i<|by simpa using hi).1
 have h0:len=0:=by omega
 subst h0;exact ⟨[],Sl.nil_ _ _ (by omega),λy hy=>absurd hy<|by simp⟩
theorem BA {t:TypeId} {k:IntKind} (ht:P.underlying t=some (.int k)) (fuel:Nat) (cs:List Value) (x:DataW H×List MemPlace) (h:DataW.trod enc P w 0 spare held fuel t cs=some x) :
  ∃ a:Int,cs=[.int k a]/\(Lit.int k a).wf=true:=by
 obtain ⟨n,h1,_,h3⟩:=DataW.trod_int ht h;exact ⟨n,h1,h3⟩
end
theorem one_cell {v u:Value} (h:v.cells.toList=[u]) (hv:∃ a len cap,v = .slice a len cap):v=u:=by
 obtain ⟨a,len,cap,rfl⟩:=hv;simpa [Value.cells] using h
open Go.ChangeShapes Go.WideShapes Go.ChangeAt Go.RowKit Go.Sort

open Go.Shelf Go.RowKit Go.Lib Go.Sort

open Go.ChangeShapes Go.WideShapes Go.ChangeAt Go.RowKit Go.Shelf Go.Sort

def BB:Go.Shelf.Ren:=⟨λ| 6=>122 | 15=>137 | 14=>136 | 28=>168 | 29=>169 | 20=>160 | 21=>161 | 22=>162 | 23=>163 | 24=>164 | 25=>165 | 26=>166 | 27=>167 | 46=>186 | 47=>187 | 48=>188 | 49=>189 | 50=>190 | 57=>191 | n=>n,λ| 22=>34 | 24=>41 | 25=>138 | 3=>3 | 39=>155 | 0=>0 | 53=>192 | 55=>194 | 4=>4 | 46=>186 | 45=>185 | 50=>55 | 5=>5 | 9=>9 | 66=>212 | 70=>216 | 76=>218 | 77=>219 | n=>n,λ| n=>n⟩
theorem zt:Go.Proofs.SlLaysF.n6 Tryz.prog BB where
 mixed:=by kernel_rfl
 f6 := ⟨"slices.SortFunc[[][]int,[]int]",by decide,Tryz.func122.trans (congrArg some (by kernel_rfl))⟩
 f14 := ⟨"slices.pdqsortCmpFunc[[]int]",by decide,Tryz.func136.trans (congrArg some (by kernel_rfl))⟩
 f15:=Tryz.func137.trans<|congrArg some (by kernel_rfl)
 f20 := ⟨"slices.insertionSortCmpFunc[[]int]",by decide,Tryz.func160.trans (congrArg some (by kernel_rfl))⟩
 f21 := ⟨"slices.heapSortCmpFunc[[]int]",by decide,Tryz.func161.trans (congrArg some (by kernel_rfl))⟩
 f22 := ⟨"slices.breakPatternsCmpFunc[[]int]",by decide,Tryz.func162.trans (congrArg some (by kernel_rfl))⟩
 f23 := ⟨"slices.choosePivotCmpFunc[[]int]",by decide,Tryz.func163.trans (congrArg some (by kernel_rfl))⟩
 f24 := ⟨"slices.reverseRangeCmpFunc[[]int]",by decide,Tryz.func164.trans (congrArg some (by kernel_rfl))⟩
 f25 := ⟨"slices.partialInsertionSortCmpFunc[[]int]",by decide,Tryz.func165.trans (congrArg some (by kernel_rfl))⟩
 f26 := ⟨"slices.partitionEqualCmpFunc[[]int]",by decide,Tryz.func166.trans (congrArg some (by kernel_rfl))⟩
 f27 := ⟨"slices.partitionCmpFunc[[]int]",by decide,Tryz.func167.trans (congrArg some (by kernel_rfl))⟩
 f28:=Tryz.func168.trans<|congrArg some (by kernel_rfl)
 f29:=Tryz.func169.trans<|congrArg some (by kernel_rfl)
 f46 := ⟨"slices.siftDownCmpFunc[[]int]",by decide,Tryz.func186.trans (congrArg some (by kernel_rfl))⟩
 f47:=Tryz.func187.trans<|congrArg some (by kernel_rfl)
 f48:=Tryz.func188.trans<|congrArg some (by kernel_rfl)
 f49 := ⟨"slices.medianAdjacentCmpFunc[[]int]",by decide,Tryz.func189.trans (congrArg some (by kernel_rfl))⟩
 f50 := ⟨"slices.medianCmpFunc[[]int]",by decide,Tryz.func190.trans (congrArg some (by kernel_rfl))⟩
 f57 := ⟨"slices.order2CmpFunc[[]int]",by decide,Tryz.func191.trans (congrArg some (by kernel_rfl))⟩
 t0:=Tryz.underlying0
 a0:=Tryz.isAgg0
 z0:=Tryz.sizeOf0
 v0:=Tryz.zeroValue0
 t3:=Tryz.underlying3
 a3:=Tryz.isAgg3
 z3:=Tryz.sizeOf3
 v3:=Tryz.zeroValue3
 t4:=Tryz.underlying4
 a4:=Tryz.isAgg4
 z4:=Tryz.sizeOf4
 v4:=Tryz.zeroValue4
 t5:=Tryz.underlying5
 a5:=Tryz.isAgg5
 z5:=Tryz.sizeOf5
 v5:=Tryz.zeroValue5
 t9:=Tryz.underlying9
 a9:=Tryz.isAgg9
 z9:=Tryz.sizeOf9
 v9:=Tryz.zeroValue9
 t22:=Tryz.underlying34
 a22:=Tryz.isAgg34
 z22:=Tryz.sizeOf34
 v22:=Tryz.zeroValue34
 a24:=Tryz.isAgg41
 z24:=Tryz.sizeOf41
 t25:=Tryz.underlying138
 a25:=Tryz.isAgg138
 z25:=Tryz.sizeOf138
 v25:=Tryz.zeroValue138
 t39:=Tryz.underlying155
 a39:=Tryz.isAgg155
 z39:=Tryz.sizeOf155
 v39:=Tryz.zeroValue155
 t45:=Tryz.underlying185
 a45:=Tryz.isAgg185
 z45:=Tryz.sizeOf185
 v45:=Tryz.zeroValue185
 t46:=Tryz.underlying186
 a46:=Tryz.isAgg186
 z46:=Tryz.sizeOf186
 v46:=Tryz.zeroValue186
 t50:=Tryz.underlying55
 a50:=Tryz.isAgg55
 z50:=Tryz.sizeOf55
 v50:=Tryz.zeroValue55
 t53:=Tryz.underlying192
 a53:=Tryz.isAgg192
 z53:=Tryz.sizeOf192
 v53:=Tryz.zeroValue192
 t55:=Tryz.underlying194
 a55:=Tryz.isAgg194
 z55:=Tryz.sizeOf194
 v55:=Tryz.zeroValue194
 t66:=Tryz.underlying212
 a66:=Tryz.isAgg212
 z66:=Tryz.sizeOf212
 v66:=Tryz.zeroValue212
 t70:=Tryz.underlying216
 a70:=Tryz.isAgg216
 z70:=Tryz.sizeOf216
 v70:=Tryz.zeroValue216
 t76:=Tryz.underlying218
 a76:=Tryz.isAgg218
 z76:=Tryz.sizeOf218
 v76:=Tryz.zeroValue218
 t77:=Tryz.underlying219
 a77:=Tryz.isAgg219
 z77:=Tryz.sizeOf219
 v77:=Tryz.zeroValue219
theorem yV {α:Type} (f:α->LI):SWO (ltOf λx y=>cmpL (f x)<|f y) where
 irrefl x:=by simp [ltOf,jc]
 trans x y z h1 h2:=by
  simp only [ltOf,dte] at *;exact jw h1 h2
 ntrans x y z h1 h2:=by
  simp only [ltOf,decide_eq_false_iff_not] at *;intro h;rcases jy (f x) (f y) with g | g | g
  ·exact h1 g
  ·rw [g] at h;exact h2 h
  exact h2<|jw g h
theorem oL (x y:Int) (w:World) :
  Calls Tryz.prog 138 #[.int .i64 x,.int .i64 y] w λe w'=>e = .returned (.int .i64<|if x<y then -1 else if y<x then 1 else 0)/\w'=w:=by
 go_enter Tryz.func138,Tryz.ntmps138
 by_cases h1:x<y
 ·rw [if_pos h1]
  go_wp2
  go_ret
  exact ⟨rfl,rfl⟩
 rw [if_neg h1]
 by_cases h2:y<x
 ·rw [if_pos h2]
  go_wp2
  go_ret
  exact ⟨rfl,rfl⟩
 rw [if_neg h2]
 go_wp2
 go_ret
 exact ⟨rfl,rfl⟩
theorem sS {lo hi lo' hi':Nat} {u v:Value} {xs ys:LI} {w:World} (hu:Sl AX 1 w lo hi u xs) (hv:Sl AX 1 w lo' hi' v ys) :
  Calls Tryz.prog 123 #[u,v] w λe w'=>e = .returned (.int .i64<|cmpL xs ys)/\w'=w:=by
 obtain ⟨A,ca,rfl,hca,hma,hA⟩:=hu.ints;obtain ⟨B,cb,rfl,hcb,hmb,hB⟩:=hv.ints;have HAA:=Lib.hid hA;clear hA;have HBB:=Lib.hid hB;clear hB
 go_enter Tryz.func123,Tryz.ntmps123
 go_wp2_with fail
 go_loopw [11] (λi wr=>∃ k:Nat,k<=xs.length/\k<=ys.length/\i = .int .i64 k/\wr=w/\cmpL xs ys=cmpL (xs.drop k) (ys.drop k)) (λi _=>xs.length-(intOf i).toNat)
 case atStart=>exact ⟨0,HQ _,HQ _,rfl,rfl,rfl⟩
 case round=>
  obtain ⟨k,hk,hk2,rfl,rfl,he⟩:=hrel;have HE:=Lib.hid he;clear he
  by_cases hlt:k<xs.length
  ·obtain ⟨ba,oa,rfl,_,_,hba,hA⟩:=HAA.out (by omega);have ca1:=hA k hlt;clear hA;have i1:(0:Int)<=(k:Int):=by omega
   have i2:(k:Int)<(xs.length:Int):=by omega
   have HX:=Lib.hid<|Ih hlt
   by_cases hlt2:k<ys.length
   ·obtain ⟨bb,ob,rfl,_,_,hbb,hB⟩:=HBB.out (by omega);have cb1:=hB k hlt2;clear hB;have i3:(k:Int)<(ys.length:Int):=by omega
    have HY:=Lib.hid<|Ih hlt2;generalize xs[k]=x at *;generalize ys[k]=y at *;have hc:=oL x y wr
    by_cases h1:x<y
    ·rw [if_pos h1] at hc;have HR:=Lib.hid (show cmpL xs ys = -1 by rw [HE.out,HX.out,HY.out,cmpL,if_pos h1])
     go_wp2_with (go_at_call 138;refine hc.mono ?_;rintro e w' ⟨rfl,rfl⟩)
     go_ret
     exact ⟨by rw [HR.out];rfl,rfl⟩
    rw [if_neg h1] at hc
    by_cases h2:y<x
    ·rw [if_pos h2] at hc;have HR:=Lib.hid (show cmpL xs ys=1 by rw [HE.out,HX.out,HY.out,cmpL,if_neg h1,if_pos h2])
     go_wp2_with (go_at_call 138;refine hc.mono ?_;rintro e w' ⟨rfl,rfl⟩)
     go_ret
     exact ⟨by rw [HR.out];rfl,rfl⟩
    rw [if_neg h2] at hc;have HR:=Lib.hid (show cmpL xs ys=cmpL (xs.drop<|k+1) (ys.drop<|k+1) by rw [HE.out,HX.out,HY.out,cmpL,if_neg h1,if_neg h2])
    go_wp2_with (go_at_call 138;refine hc.mono ?_;rintro e w' ⟨rfl,rfl⟩)
    go_roundw
    case rel=>exact ⟨k+1,by omega,by omega,by go_num,by first | rfl | trivial,HR.out⟩
    case measure=>simp [intOf];omega
   have hky:k=ys.length:=by omega
   have i3:((ys.length:Int)<=(k:Int)):=by omega
   have HR:=Lib.hid (show cmpL xs ys=1 by rw [HE.out,HX.out,Ip (show ys.length<=k by omega)];rfl);clear hky
   go_wp2_with fail
   go_ret
   exact ⟨by rw [HR.out];rfl,rfl⟩
  have hkx:k=xs.length:=by omega
  have HF:=Lib.hid (show cmpL xs ys=cmpL [] (ys.drop xs.length) by rw [HE.out,hkx,List.drop_length]);clear HE;subst hkx
  by_cases hl:xs.length<ys.length
  ·have i3:((xs.length:Int)<(ys.length:Int)):=by omega
   go_wp2_with fail
   go_ret
   exact ⟨by rw [HF.out,Ih hl];rfl,rfl⟩
  have i3 : ¬ ((xs.length:Int)<(ys.length:Int)):=by omega
  go_wp2_with fail
  go_ret
  exact ⟨by rw [HF.out,Ip (by omega)];rfl,rfl⟩
theorem lJ {w:World} {fz:Nat->Prop} {v:Value} {l:LI} (h:FRel w fz (eL cI l) v):Sl AX 1 w 0 w.heap.size v l:=by
 have := pW (f:=AX) (s:=1) (c:=cI) (e:=id) (λ_=>rfl) (λ_=>rfl) h
 rwa [List.map_id] at this
def Rd1 (w:World) (fz:Nat->Prop):Type:={ p:Value×LI // p.1.oneCell'=true/\FRel w fz (eL cI p.2) p.1 }
theorem xE (w:World) (fz:Nat->Prop):FRel w fz (eL cI ([]:LI)) (.slice none 0 0):=
 .sl (s:=1) (g:=0) (o:=0) (λ_ _ => .bool false) (HM _) (by decide) (λh=>absurd h<|by simp) (λi h=>absurd h<|by simp) (λi j a h=>absurd h<|by simp) (λi j a h=>absurd h<|by simp) λi j a h=>absurd h (by simp)
instance {w:World} {fz:Nat->Prop}:Inhabited (Rd1 w fz):=⟨⟨(.slice none 0 0,[]),rfl,xE w fz⟩⟩
def qE {w:World} {fz:Nat->Prop} (x:Rd1 w fz):Value:=x.1.1
def xH {w:World} {fz:Nat->Prop} (x:Rd1 w fz):LI:=x.1.2
theorem kz {α:Type} [Inhabited α] {enc:α->Value} {w:World} {blk off g:Nat} {d:Array α} (h:g≠blk):(putRow enc w blk off d).heap[g]? = w.heap[g]? := by
 show (w.heap.modify blk _)[g]? = _;rw [Iq,if_neg (Ne.symm h)]
theorem oM {α:Type} [Inhabited α] {enc:α->Value} {w:World} {blk off:Nat} {d:Array α} {cs:Array Value} {t:TypeId} {fr:Nat×Nat} (h:w.heap[blk]? = some (.cells cs t fr)):(putRow enc w blk off d).heap[blk]? = some (.cells (putCells enc off d cs) t fr):=by
 show (w.heap.modify blk _)[blk]? = _;rw [Iq,if_pos rfl,h]
 rfl
theorem kC {α:Type} [Inhabited α] {enc:α->Value} {w:World} {blk off m g:Nat} {d:Array α} {os:Array Obj} (hg:g<w.heap.size):(sortWorld enc w blk off m d os).heap[g]? = (putRow enc w blk off d).heap[g]? := by
 show ((putRow enc (Sort.ahead w m) blk off d).heap++os)[g]? = _;have hs:(putRow enc (Sort.ahead w m) blk off d).heap.size=w.heap.size:=by rw [size_putRow];rfl
 rw [Array.getElem?_append_left (by rw [hs];exact hg)]
 rfl
theorem iM {α:Type} [Inhabited α] {enc:α->Value} {off:Nat} {d:Array α} {cs:Array Value}:(putCells enc off d cs).size=cs.size:=by simp [putCells]
theorem rG {α:Type} [Inhabited α] {enc:α->Value} {off:Nat} {d:Array α} {cs:Array Value} {k:Nat} (h:off+d.size<=cs.size) (hk:k<d.size):(putCells enc off d cs)[off+k]? = some (enc d[k]!):=by
 unfold putCells;rw [Array.getElem?_mapIdx,Array.getElem?_eq_getElem (by omega)];simp only [Option.map_some];rw [if_pos (by omega),show off+k-off=k by omega]
theorem Ah {c:Cx} {blk off size:Nat} (hnf : ¬ c.fz blk) (hlt:∀ g,c.fz g->g<c.w.heap.size):CmpLays1 Tryz.prog 123 #[] (qE (w:=c.w) (fz:=c.fz)) (λx y=>cmpL (xH x)<|xH y) blk off size c.w:=by
 intro m os dk hs x y;have hW:∀ g,c.fz g->g<c.w.heap.size->(sortWorld qE c.w blk off m dk os).heap[g]? = c.w.heap[g]? /\ c.fz g:=λg hg hl=>by
  rw [kC hl,kz (by rintro rfl;exact hnf hg)];exact ⟨rfl,hg⟩
 have hsz:c.w.heap.size<=(sortWorld qE c.w blk off m dk os).heap.size:=by
  show _<=((putRow qE (Sort.ahead c.w m) blk off dk).heap++os).size;rw [Array.size_append,size_putRow];show c.w.heap.size<=c.w.heap.size+os.size;omega
 have hx:=lJ<|x.2.2.mono hsz hW;have hy:=lJ<|y.2.2.mono hsz hW;refine (sS hx hy).mono λe w' ⟨he,hw⟩=>⟨he,0,#[],?_⟩;rw [hw,grow_empty]
 rfl
theorem yX {c:Cx} (hr:HRel c) {l:LL} {ver:Nat} (hH:c.H=[some ⟨ver,1,41,l.map<|cL cI⟩]) {u:Value} (hu:c.rel (.hs 0 ver 1 0 l.length) u) (hl:l.length<4611686018427387904) (hn:0<l.length) :
  Calls Tryz.prog 122 #[u,.func (.func 123) #[] #[]] c.w λe w'=>∃ c',e = .returned (.tuple #[])/\c'.w=w'/\c'.H=[some ⟨ver,1,41,(ru l).map<|cL cI⟩]/\HRel c'/\Ext c c':=by
 have hlv:c.live 0 ⟨ver,1,41,l.map<|cL cI⟩:=by
  unfold Cx.live;rw [hH]
  rfl
 obtain ⟨cs,fr0,hB⟩:=hr.blk 0 _ hlv
 cases hu with
 | fr h=>cases h
 | @hs _ _ _ _ _ cap A hb hc hm h0 h=>
 obtain ⟨f,rfl,hat,hhd⟩:=hB.cells hlv λx hx=>(h x hx).1;obtain ⟨_,_,h3,_⟩:=h _ hhd;have hA:=h3 (by omega);have hfit:(c.φ 0).2+l.length<=cs.size:=by
  have := hB.fits;simpa using this
 have hrow:∀ i (hi:i<l.length),∃ p:Rd1 c.w c.fz,cs[(c.φ 0).2+i]? = some (qE p)/\xH p=l[i]:=λi hi=>by
  obtain ⟨u,g1,g2,g3⟩:=hB.rel i (cL cI l[i]) 0 (eL cI l[i]) (by simp [hi]) rfl;refine ⟨⟨(u,l[i]),g2,kD 1 _ _ rfl g3⟩,?_,rfl⟩;show _=some u;simpa using g1
 obtain ⟨d,hds,hd1,hd2⟩:∃ d:Array (Rd1 c.w c.fz),d.size=l.length/\(∀ i,i<l.length->cs[(c.φ 0).2+i]? = some (qE d[i]!))/\d.toList.map xH=l:=by
  refine ⟨Array.ofFn (λi:_root_.Fin l.length=>(hrow i.1 i.2).choose),by simp,λi hi=>?_,?_⟩
  ·rw [getElem!_pos _ i (by simpa using hi),Ir];exact (hrow i hi).choose_spec.1
  apply List.ext_getElem
  ·simp
  intro i h1 h2;simp only [List.getElem_map,Array.getElem_toList,Ir];exact (hrow i h2).choose_spec.2
 have hblk:(c.φ 0).1<c.w.heap.size:=hr.live_lt hlv;have hH2:Holds (qE (w:=c.w) (fz:=c.fz)) c.w (c.φ 0).1 (c.φ 0).2 d:=λj hj=>by
  have hj2:(c.φ 0).2+j<cs.size:=by omega
  refine ⟨?_,?_⟩
  ·simp only [World.cell?,hat];exact hd1 j (by omega)
  have := hB.free f rfl _ hj2;obtain ⟨lo,hi'⟩:=f;simp only [World.frozen?,hat,Bool.and_eq_false_iff,decide_eq_false_iff_not];simp only at this;omega
 have eg:∀ args w,(callFunc 123 args).run Tryz.prog w = .ok (.enter 123 args) w:=enters_of Tryz.func123 (by kernel_rfl) rfl;have hcon:=Any.slices_SortFunc zt (qE (w:=c.w) (fz:=c.fz)) (λx=>x.2.1) (λx y=>cmpL (xH x)<|xH y) (yV xH) 123 #[] (c.φ 0).1 (c.φ 0).2 cap d c.w eg (Ah (hr.not_fz hlv) hr.lt) hH2 hblk (by omega);rw [hA,show (c.φ 0).2+0*1=(c.φ 0).2 by omega,<- hds];refine (show Calls Tryz.prog 122 _ _ _ from hcon).mono ?_;rintro e w' ⟨rfl,d',m,os,hp,hs,rfl⟩;have hds':d'.size=l.length:=hp.1.trans hds;have hpl:d'.toList.Perm d.toList:=by
  have := hp.2.2
  rwa [Iu (by omega),Iu (by omega)] at this
 have hsl:d'.toList.map xH=ru l:=by
  refine nR ((hpl.map xH).trans<|hd2 ▸ (gK l).symm) ?_<|nQ l;rw [List.pairwise_map,List.pairwise_iff_getElem];intro i j h1 h2 hij;have := hs i j (HQ _) hij (by rw [hds,<- hds'];simpa using h2);rw [getElem!_pos d' j (by simpa using h2),getElem!_pos d' i (by simpa using h1)] at this;unfold ltOf at this;unfold leL;rw [dte];simpa using this
 have hat':∀ i (hi:i<(ru l).length),xH d'[i]! = (ru l)[i]:=λi hi=>by
  have hi2:i<d'.size:=by
   rw [(gK l).length_eq] at hi;omega
  rw [getElem!_pos d' i hi2];have : (d'.toList.map xH)[i]? = (ru l)[i]? := by rw [hsl]
  rw [geq (by simpa using hi2),geq hi] at this;simpa using this
 have hll:(ru l).length=l.length:=(gK l).length_eq;have he1:Ext c (c.upd 0 ⟨ver,1,41,(ru l).map (cL cI)⟩ ((c.φ 0).1,(c.φ 0).2) (putCells qE (c.φ 0).2 d' cs)):=Cx.upd_ext hr hlv hB iM (.inl ⟨rfl,rfl,by simp [hll],rfl⟩);have hr1:=Cx.upd_rel hr hlv hB (k:=⟨ver,1,41,(ru l).map (cL cI)⟩) (o:=(c.φ 0).2) (cs:=putCells qE (c.φ 0).2 d' cs) iM rfl he1 Nat.one_pos (by rw [iM];simpa [hll] using hfit) (λi row h=>by
  obtain ⟨x,_,rfl⟩:=by simpa [Ic,Ii] using h
  rfl) (λi row j a h1 h2=>by
  have hi:i<(ru l).length:=by simpa using (ges h1).1
  have hrw:row=cL cI (ru l)[i]:=by
   have := (ges h1).2;rw [<- this];simp
  subst hrw
  match j,h2 with
  | 0,h2=>
   obtain rfl:=osl h2;refine ⟨qE d'[i]!,?_,d'[i]!.2.1,?_⟩
   ·have := rG (enc:=qE) (off:=(c.φ 0).2) (d:=d') (cs:=cs) (k:=i) (by omega) (by omega);simpa using this
   rw [<- hat' i hi];exact .fr d'[i]!.2.2
  | j+1,h2=>simp [cL] at h2)
 have hbl:Below (c.upd 0 ⟨ver,1,41,(ru l).map<|cL cI⟩ ((c.φ 0).1,(c.φ 0).2)<|putCells qE (c.φ 0).2 d' cs).w.heap.size (c.upd 0 ⟨ver,1,41,(ru l).map<|cL cI⟩ ((c.φ 0).1,(c.φ 0).2)<|putCells qE (c.φ 0).2 d' cs).w (sortWorld qE c.w (c.φ 0).1 (c.φ 0).2 m d' os):=by
  have hz:(c.upd 0 ⟨ver,1,41,(ru l).map<|cL cI⟩ ((c.φ 0).1,(c.φ 0).2)<|putCells qE (c.φ 0).2 d' cs).w.heap.size=c.w.heap.size:=by simp [Cx.upd]
  refine ⟨rfl,rfl,rfl,?_,λg hg=>?_⟩
  ·rw [hz];show _<=((putRow qE (Sort.ahead c.w m) (c.φ 0).1 (c.φ 0).2 d').heap++os).size;rw [Array.size_append,size_putRow];show c.w.heap.size<=c.w.heap.size+os.size;omega
  rw [hz] at hg;rw [kC hg];show _=(c.w.setRow (c.φ 0).1<|putCells qE (c.φ 0).2 d' cs).heap[g]?
  by_cases e:g=(c.φ 0).1
  ·subst e;rw [oM hat,setRow_heap _ _ _ _ _ _ hat]
  rw [kz e,setRow_other _ _ _ _ e]
 obtain ⟨g1,g2⟩:=qU hr1 hbl (fz':=λ_=>False) (λ_ h=>h.elim) (λ_ h=>h.elim) λ_ _ _ h=>h;refine ⟨_,rfl,rfl,?_,g1,he1.trans g2⟩;show c.H.set 0 _=_;rw [hH]
 rfl
theorem kN (l:LL) (g:Bool) (ver:Nat) (hg:g=true->l=[]) {q} (h:cN l=some q) :
  dR Tryz.prog 122 [hS g 0 ver 1 l.length,.fn (.func 123) []] [bE g ver 1 41 (l.map<|cL cI)] (.tup []) [bE g ver 1 41 (q.map<|cL cI)]:=by
 obtain ⟨hl,h⟩:=gdD h;obtain rfl:=osl h;refine ⟨by kernel_rfl,λc vs hH hr hall=>?_⟩;obtain ⟨hsz,hrel⟩:=hall;obtain ⟨u,f,rfl⟩:∃ u f,vs = #[u,f]:=by
  match vs,hsz with
  | ⟨[u,f]⟩,_=>exact ⟨u,f,rfl⟩
 have hu:=hrel 0 _ u rfl rfl;obtain ⟨vs2,rfl,h5,_⟩:=mD<|hrel 1 _ f rfl rfl;obtain rfl:vs2 = #[]:=Array.eq_empty_of_size_eq_zero h5
 by_cases hn:0<l.length
 ·obtain rfl:g=false:=by
   cases g with
   | false=>rfl
   | true=>
    rw [hg rfl] at hn;exact absurd hn (by simp)
  refine (yX hr hH hu hl hn).mono ?_;rintro e w' ⟨c',rfl,hw,hH',h1,h2⟩;exact ⟨_,c',Z,hw,hH',h1,h2,.tup Z λi x y hx=>by simp at hx⟩
 obtain rfl:l=[]:=Ik (by omega);obtain ⟨A,cap,rfl⟩:∃ A cap,u = .slice A 0 cap:=by
  cases g with
  | true=>
   cases hu with
   | fr h=>cases h;exact ⟨_,_,rfl⟩
  | false=>
   obtain ⟨A,cap,h6,_⟩:=fG hu;exact ⟨A,cap,h6⟩
 refine (show Calls Tryz.prog 122 _ _ _ from AnyF.slices_SortFunc_none { zt with } A cap _ c.w).mono ?_;rintro e w' ⟨rfl,rfl⟩;refine ⟨_,c,Z,Z,?_,hr,Ext.refl c,.tup Z λi x y hx=>by simp at hx⟩;rw [hH,(gK []).eq_nil]
open Go.RowKit
def Cx.newF (c:Cx) (k:ABlk) (cs:Array Value) (fr:Nat×Nat):Cx:={ w:=c.w.alloc (.cells cs k.ty fr),fz:=c.fz,H:=c.H++[some k],φ:=λb=>if b=c.H.length then (c.w.heap.size,0) else c.φ b }
section
variable {c:Cx} {k:ABlk} {cs:Array Value} {fr:Nat×Nat}
theorem Cx.newF_live {b:Nat} {k':ABlk} (h:(c.newF k cs fr).live b k'):(b=c.H.length/\k'=k)\/(b<c.H.length/\c.live b k'):=Cx.new_live (cs:=#[]) h
theorem Cx.newF_ext (hr:HRel c) (k:ABlk) (cs:Array Value) (fr:Nat×Nat):Ext c (c.newF k cs fr) where
 os:=rfl
 tape:=rfl
 output:=rfl
 size:=by simp [Cx.newF]
 keep:=λg hg _=>Below.heap_alloc _ _ _ hg
 fz:=λ_ h=>h
 iW:=λ_ h => .inl h
 N:=by simp [Cx.newF]
 born:=λ_ _ h=>Cx.new_born (cs:=#[]) h
 hd:=λb ver x hb hx=>by
  obtain ⟨k',hl,hv,o,hc,hx'⟩:=Cx.hd_some hx;have hlt:=dL hb;rcases Cx.newF_live hl with ⟨rfl,_⟩ | ⟨_,hl'⟩
  ·omega
  have e:(c.newF k cs fr).φ b=c.φ b:=if_neg (by omega);rw [e] at hc hx';have hh:c.w.heap[(c.φ b).1]? = some o:=by
   rw [<- hc];exact (Below.heap_alloc _ _ _<|hr.live_lt hl').symm
  rw [<- hv];exact (Cx.hd_of hl' hh).trans hx'
 dc:=λb k' hl=>by
  rcases Cx.newF_live hl with ⟨rfl,rfl⟩ | ⟨hlt,hl'⟩
  ·left
   simp [Cx.newF]
  right
  exact ⟨b,k',hl',by rw [show (c.newF k cs fr).φ b=c.φ b from if_neg (by omega)]⟩
theorem Cx.newF_rel (hr:HRel c) (hs:0<k.s) (hf:k.rows.length*k.s<=cs.size) (hfr:∀ i,i<cs.size -> ¬ (fr.1<=i/\i<fr.2)) (hl:∀ (i:Nat) (row:List AV),k.rows[i]? = some row->row.length=k.s)
  (h:∀ (i:Nat) (row:List AV) (j:Nat) (a:AV),k.rows[i]? = some row->row[j]? = some a->∃ u,cs[i*k.s+j]? = some u/\u.oneCell'=true/\c.rel a u):HRel (c.newF k cs fr) where
 gl:=hr.glx<|Cx.newF_ext hr k cs fr
 lt:=λg hg=>by
  have := hr.lt g hg;simp [Cx.newF];omega
 blk:=λb k' hb=>by
  rcases Cx.newF_live hb with ⟨rfl,rfl⟩ | ⟨hlt,hl'⟩
  ·refine ⟨cs,some fr,?_⟩;have e:(c.newF k' cs fr).φ c.H.length=(c.w.heap.size,0):=if_pos rfl;refine ⟨by rw [e];exact heap_alloc_new _ _,by rw [e];exact λhz=>Nat.lt_irrefl _<|hr.lt _ hz,hs,λf hf i hi=>by cases hf;exact hfr i hi,by simp_all,hl,λi row j a h1 h2=>?_⟩;obtain ⟨u,h3,h4,h5⟩:=h i row j a h1 h2;exact ⟨u,by simp_all,h4,h5.ext hr<|Cx.newF_ext hr k' cs fr⟩
  obtain ⟨cs',fr',hB⟩:=hr.blk b k' hl';have e:(c.newF k cs fr).φ b=c.φ b:=if_neg (by omega);refine ⟨cs',fr',⟨by rw [e];exact (Below.heap_alloc _ _ _<|hr.live_lt hl').trans hB.at_,by rw [e];exact hB.nf,hB.pos,hB.free,by rw [e];exact hB.fits,hB.len,λi row j a h1 h2=>?_⟩⟩;obtain ⟨u,h3,h4,h5⟩:=hB.rel i row j a h1 h2;exact ⟨u,by simp_all,h4,h5.ext hr<|Cx.newF_ext hr k cs fr⟩
 inj:=λb b' k1 k2 h1 h2 hne=>by
  rcases Cx.newF_live h1 with ⟨rfl,rfl⟩ | ⟨hlt,hl'⟩
  ·rcases Cx.newF_live h2 with ⟨rfl,rfl⟩ | ⟨hlt2,hl2⟩
   ·omega
   have := hr.live_lt hl2;rw [show (c.newF k1 cs fr).φ c.H.length=(c.w.heap.size,0) from if_pos rfl,show (c.newF k1 cs fr).φ b'=c.φ b' from if_neg (by omega)];omega
  rcases Cx.newF_live h2 with ⟨rfl,rfl⟩ | ⟨hlt2,hl2⟩
  ·have := hr.live_lt hl';rw [show (c.newF k2 cs fr).φ c.H.length=(c.w.heap.size,0) from if_pos rfl,show (c.newF k2 cs fr).φ b=c.φ b from if_neg (by omega)];omega
  rw [show (c.newF k cs fr).φ b=c.φ b from if_neg (by omega),show (c.newF k cs fr).φ b'=c.φ b' from if_neg (by omega)];exact hr.inj b b' k1 k2 hl' hl2 hne
theorem Cx.newF_hs (c:Cx) (k:ABlk) (cs:Array Value) (fr:Nat×Nat) {n cap:Nat} (hn:n<=k.rows.length) (hc:n<=cap) (hm:cap<=9223372036854775807) (hs:cap*k.s<=cs.size):(c.newF k cs fr).rel (.hs c.H.length k.ver k.s 0 n) (.slice (some ⟨c.w.heap.size,0,none⟩) n cap):=by
 have hd:(c.newF k cs fr).hd c.H.length k.ver=some ⟨c.w.heap.size,0,k.s,k.rows.length,cs.size⟩:=by
  have := Cx.hd_of (c:=c.newF k cs fr) (o:=.cells cs k.ty fr) (Cx.new_live_new c k #[]) (by
   rw [show (c.newF k cs fr).φ c.H.length=(c.w.heap.size,0) from if_pos rfl];exact heap_alloc_new _ _)
  rw [show (c.newF k cs fr).φ c.H.length=(c.w.heap.size,0) from if_pos rfl] at this;exact this
 refine .hs (Cx.new_bornN c k #[]) hc hm (λ_=>⟨_,rfl⟩) λx hx=>?_;rw [hd] at hx
 grind
end
section
variable {P:Program} {ρ:Operand->AV} {H:AH} {x:Operand} {t d e:TypeId}
theorem EvA.s2b {s:ByteArray} (hs:P.underlying t=some .string) (hd:P.underlying d=some (.slice e)) (he:P.underlying e=some (.int .u8)) (hx:ρ x = .v (.string s)) (hn:s.size<=35184372088832) {bl:Nat} (hbl:H.length=bl) :
  EvA P ρ (.convert t d x) H (Go.Proofs.YtjcmfddobaplbaaGreat.hS false bl 0 1 (ik s).length) (H++[bE false 0 1 e ((ik s).map cY)]):=λo ho c a K Q hH hr hxs hK=>by
 subst hbl;have h1:=hxs x (by rw [ho];simp [Op.operands]);rw [hx] at h1;obtain ⟨h1,_⟩:=cz h1;have hrun:=run_bytes_of_string c.w t d e s hs hd he;have hge:=grownCap_ge c.w s.size 0 e;have hle:=grownCap_le_maxLen c.w s.size 0 e (by unfold maxLen;omega);generalize grownCap c.w s.size 0 e=cap at hrun hge hle;have hlen:(ik s).length=s.size:=by simp [ik]
 have hsz:(bytesRow s cap).size=cap:=by simp [bytesRow];omega
 have hdr:=Cx.drew_rel hr;have hrel:=Cx.newF_rel (k:=⟨0,1,e,(ik s).map cY⟩) (cs:=bytesRow s cap) (fr:=((bytesRow s cap).size,(bytesRow s cap).size+1)) hdr Nat.one_pos (by simp [hlen];omega) (λi hi h=>by omega) (λi row h=>by
  rw [Ic] at h;obtain ⟨b,_,rfl⟩:=Ii.1 h
  rfl) λi row j a h h2=>by
  rw [Ic] at h;obtain ⟨b,hb,rfl⟩:=Ii.1 h
  match j,h2 with
  | 0,h2=>
   injection h2 with h2;subst h2;have hi:=(ges hb).1;refine ⟨.int .u8 b,?_,rfl,aW rfl⟩;have hi':i<s.data.size:=by rw [hlen] at hi;exact hi
   have h3:=bytesRow_at s cap i hi';have h4:b=(s.data[i].toNat:Int):=by
    unfold ik at hb;rw [Ic,geq (by simpa using hi')] at hb;simpa using hb.symm
   simp only [Nat.mul_one,Ig];rw [h3,h4]
 have hh:=Cx.newF_hs c.drew ⟨0,1,e,(ik s).map cY⟩ (bytesRow s cap) ((bytesRow s cap).size,(bytesRow s cap).size+1) (n:=s.size) (cap:=cap) (by simp [hlen]) hge (by unfold maxLen at hle;omega) (by simp [hsz]);unfold Oper.wp;have : (execOp a.eval o).run P c.w = .ok (.value<|.slice (some ⟨c.w.heap.size,0,none⟩) s.size cap) (c.w.drew.alloc<|.cells (bytesRow s cap) e ((bytesRow s cap).size,(bytesRow s cap).size+1)):=by
  rw [execOp,ho];simp only [h1];simp only [Sem.run_bind,hrun,Result.andThen_ok,Sem.run_pure]
 rw [this];refine hK _ (c.drew.newF ⟨0,1,e,(ik s).map cY⟩ (bytesRow s cap) ((bytesRow s cap).size,(bytesRow s cap).size+1)) (by rw [<- hH];rfl) hrel (c.drew_ext.trans<|Cx.newF_ext hdr _ _ _) ?_;rw [hlen,<- hH];exact hh
end
end
end Go.Proofs.YtjcmfddobaplbaaGreat
