/-
 Contracts and words, several texts joined. No conditions.
-/
import Derived.Test.YtlgfihlflchhgaaGF
import Derived.BigRegion
import Derived.Deep.RegionLaw
import Derived.Deep.Upon
import Derived.Lib.SliceRun
namespace Go.Proofs.Ytlgfihlflchhgaa
open Go.ChangeShapes Go.WideShapes Go.ChangeAt Go.RowKit
set_option maxRecDepth 100000
theorem OwOw.of_row {α:Type} {f:α->List Value} {s:Nat} {to ti:TypeId} {w:World} {base n:Nat} {v:Value} {p:List (List α)} {V:Nat->Value}
  (ho:w.ownsRow base to 1 v n ((List.range n).map V)) (hn:n=p.length)
  (hrow:∀ j (h:j<p.length),Ow f s ti w base w.heap.size (V j) p[j])
  (hsep:∀ i j (hi:i<p.length) (hj:j<p.length),i≠j->0<p[i].length->0<p[j].length->(V i).ownBlock≠(V j).ownBlock):OwOw f s to ti w base w.heap.size v p:=by
 subst hn
 have hlen:((List.range p.length).map V).length=p.length:=by simp
 refine ⟨(List.range p.length).map V,Ow.of_row val_len ho hlen.symm (flat_vals _).symm,hlen,fun k h h' => ?_,fun i j hi hj hi' hj' hne h1 h2 => ?_⟩
 ·have : ((List.range p.length).map V)[k]=V k:=by simp
  rw [this]
  exact hrow k h'
 ·have e1:((List.range p.length).map V)[i]=V i:=by simp
  have e2:((List.range p.length).map V)[j]=V j:=by simp
  rw [e1,e2]
  exact hsep i j hi' hj' hne h1 h2
theorem map_range_succ {V:Nat->Value} (k:Nat) (x:Value):(List.range (k+1)).map (upd V k x)=(List.range k).map V++[x]:=by
 rw [List.range_succ,List.map_append]
 congr 1
 ·apply List.map_congr_left
  intro a ha
  rw [List.mem_range] at ha
  exact upd_ne _ _ (by omega)
 ·simp [upd_same]
theorem copy_step {to ti:TypeId} (hne:ti≠to) {B k n:Nat} {wr w1 w2:World} {o1 o2:Obj} {u v1:Value} {cells:List Value} {q:List (List Ins)} {V:Nat->Value} (hB:B<=wr.heap.size)
  (hI:∀ j (h:j<q.length),j<k->Ow Ins.cells 4 ti wr B wr.heap.size (V j) q[j])
  (hD:∀ i j (hi:i<q.length) (hj:j<q.length),i<k->j<k->i≠j->0<q[i].length->0<q[j].length->(V i).ownBlock≠(V j).ownBlock)
  (hk:k<q.length) (hO:Ow Ins.cells 4 ti w1 wr.heap.size w1.heap.size v1 q[k]) (hg1:(wr.alloc o1).grownBy w1 (some wr.heap.size))
  (hout:(w1.alloc o2).ownsRow B to 1 u n cells) (hg2:(w1.alloc o2).grownBy w2 u.ownBlock) :
  (∀ j (h:j<q.length),j<k+1->Ow Ins.cells 4 ti w2 B w2.heap.size (upd V k v1 j) q[j]) /\
  (∀ i j (hi:i<q.length) (hj:j<q.length),i<k+1->j<k+1->i≠j->0<q[i].length->0<q[j].length->(upd V k v1 i).ownBlock≠(upd V k v1 j).ownBlock):=by
 have s1:=hg1.size
 have s2:=hg2.size
 simp only [World.size_alloc] at s1 s2
 refine ⟨fun j h hj => ?_,fun i j hi hj hik hjk hij h1 h2 => ?_⟩
 ·by_cases e:j=k
  ·subst e
   rw [upd_same]
   exact ((hO.fr ((Fr.refl 0 0 w1).alloc o2) (by omega)).grownRow hout hne hg2).mono hB (by omega)
  ·rw [upd_ne _ _ e]
   have h0:=hI j h (by omega)
   have h3:=(h0.fr ((Fr.refl 0 0 wr).alloc o1) (by omega)).grown hg1 (fun hn=>by
    obtain ⟨g,cur,h4,_,h5,_⟩:=h0.block hn
    rw [h4]
    intro h6
    injection h6 with h6
    omega)
   exact ((h3.fr ((Fr.refl 0 0 w1).alloc o2) (by omega)).grownRow hout hne hg2).mono (Nat.le_refl _) (by omega)
 ·by_cases e:i=k
  ·subst e
   rw [upd_same,upd_ne _ _ (by omega)]
   obtain ⟨g1,_,hg1,hl1,_⟩:=hO.block h1
   obtain ⟨g2,_,hg2,_,hl2,_⟩:=(hI j hj (by omega)).block h2
   rw [hg1,hg2]
   intro h
   injection h with h
   omega
  ·rw [upd_ne _ _ e]
   by_cases e2:j=k
   ·subst e2
    rw [upd_same]
    obtain ⟨g1,_,hg1,hl1,_⟩:=hO.block h2
    obtain ⟨g2,_,hg2,_,hl2,_⟩:=(hI i hi (by omega)).block h1
    rw [hg1,hg2]
    intro h
    injection h with h
    omega
   ·rw [upd_ne _ _ e2]
    exact hD i j hi hj (by omega) (by omega) hij h1 h2
set_option maxHeartbeats 1000000 in
theorem l1Copy_any {lo hi:Nat} {u:Value} {p:List (List Ins)} {w:World} (hu:SlSl Ins.cells 4 w lo hi u p) (hhi:hi<=w.heap.size) (hl:p.length<=1048576) (ht:total p<=1048576) :
  Calls Try.prog 21 #[u] w fun e w'=>(∃ (A:Option Addr) (c:Nat),e = .returned (.slice A p.length c)/\OwOw Ins.cells 4 31 33 w' w.heap.size w'.heap.size (.slice A p.length c) p)/\Below w.heap.size w w':=by
 obtain ⟨xs,hxs,hxl,hxr⟩:=hu
 obtain ⟨A,ca,rfl,hca,hma,hA⟩:=hxs.vals
 clear hxs hma
 obtain ⟨i0,hi0,hz0,hz1,hz2⟩:=info_parts Try.infoIns
 obtain ⟨j0,hj0,hy0,hy1,hy2⟩:=info_parts Try.infoInsS
 have HX:=Lib.hid hxl
 have hxle:xs.length<=1048576:=by omega
 clear hxl
 have HXR:=Lib.hid hxr;clear hxr
 go_enter Try.func21,Try.ntmps21
 go_wp2_with fail
 go_loopw [3,4] (fun sv i wr=>∃ (k:Nat) (V:Nat->Value) (A:Option Addr) (c:Nat),k<=xs.length/\i = .int .i64 k/\sv = .slice A k c/\Below w.heap.size w wr /\
   wr.ownsRow w.heap.size 31 1 (.slice A k c) k ((List.range k).map V) /\
   (∀ j (h:j<p.length),j<k->Ow Ins.cells 4 33 wr w.heap.size wr.heap.size (V j) p[j]) /\
   (∀ i j (hi:i<p.length) (hj:j<p.length),i<k->j<k->i≠j->0<p[i].length->0<p[j].length->(V i).ownBlock≠(V j).ownBlock)) (fun _ i _=>xs.length-(intOf i).toNat)
 case atStart=>
  exact ⟨0,fun _ => .slice none 0 0,_,_,Nat.zero_le _,rfl,rfl,(Below.refl _ _).alloc (Nat.le_refl _) _,World.ownsRow_made w #[] 0 (Nat.le_refl _) (by simp [maxLen]) rfl,fun j _ h=>absurd h (by omega),fun i j _ _ h=>absurd h (by omega)⟩
 case round=>
  obtain ⟨k,V,A',c',hk,rfl,rfl,hb,hown,hin,hdj⟩:=hrel
  have HI:=Lib.hid hin;clear hin
  have HD:=Lib.hid hdj;clear hdj
  have HOUT:=Lib.hid hown;clear hown
  have hws:=hb.size
  by_cases hlt:k<xs.length
  ·obtain ⟨ba,oa,rfl,_,_,hba,hA⟩:=hA (by omega)
   have hp:k<p.length:=HX.out ▸ hlt
   have ca1:=(hb.cell (p:=⟨ba,oa+k,none⟩) hba).trans (hA k hlt)
   obtain ⟨Ak,ck,hk1,hsrc⟩:=((HXR.out k hlt hp).below hb hhi).src ins_len (by omega)
   rw [hk1] at ca1
   have hr:p[k].length<=1048576:=Nat.le_trans (row_le_total p k hp) ht
   clear hA hk1
   have i1:(0:Int)<=(k:Int):=by omega
   have i2:(k:Int)<(xs.length:Int):=by omega
   have NEW:Hid ((wr.alloc (.cells #[] 33)).ownsRow wr.heap.size 33 4 (.slice (some ⟨wr.heap.size,0,none⟩) 0 0) 0 []):=World.ownsRow_made wr #[] 0 (Nat.le_refl _) (by simp [maxLen]) rfl
   have SRC:Hid (Src (wr.alloc (.cells #[] 33)) Ak p[k].length (p[k].flatMap Ins.cells)):=hsrc.below ((Below.refl wr.heap.size wr).alloc (Nat.le_refl _) _) (Nat.le_refl _)
   clear hsrc
   have ca2:(wr.alloc (.cells #[] 33)).cell? ⟨ba,oa+k,none⟩=some (.slice Ak p[k].length ck):=by
    rw [World.cell?_alloc_lt _ _ _ (World.block_lt_of_cell? wr _ ca1)]
    exact ca1
   clear ca1
   have OUT2:Hid (∀ w1:World,(wr.alloc (.cells #[] 33)).grownBy w1 (some wr.heap.size)->∀ o,(w1.alloc o).ownsRow w.heap.size 31 1 (.slice A' k c') k ((List.range k).map V)):=by
    intro w1 hg o
    refine ((HOUT.out.alloc _).kept hg ?_).alloc o
    by_cases h:(Value.slice A' k c').ownBlock=some wr.heap.size
    ·have := (HOUT.out.lt _ h).2
     omega
    ·exact .inr h
   go_wp2_with (first
    | (at_builtin;refine wpList_append_new _ rfl (.tmp 13) (.tmp 17) 31 rfl wr.heap.size 33 i0 _ 4 32 Try.underlying31 hi0 hz0 hz1 hz2 rfl (by omega) (.slice (some ⟨wr.heap.size,0,none⟩) 0 0) rfl NEW.out Ak ck p[k] ins_len rfl SRC.out (ins_one p[k]) (by simp only [maxLen];omega) (by omega) (by simp) ?_;intro A1 c1 w1 hown1 hg1;have s1:=hg1.size;have HO1:=Lib.hid hown1;clear hown1;have HG1:=Lib.hid hg1;clear hg1)
    | (at_builtin;refine wpList_append_srcx _ rfl (.tmp 12) (.tmp 19) 23 rfl w.heap.size 31 j0 _ 1 24 Try.underlying23 hj0 hy0 hy1 hy2 rfl (by omega) (.slice A' k c') k ((List.range k).map V) rfl (OUT2.out w1 HG1.out _) (some ⟨w1.heap.size,0,none⟩) 1 1 [.slice A1 p[k].length c1] rfl rfl (Src.one (Blk.new w1 _ _)) (by simp [Value.oneCell']) (by simp only [maxLen];omega) (by omega) (by simp at s1 ⊢;omega) (by omega) ?_;intro gg cap w2 hown2 hg2 hat2 hlt2))
   go_roundw
   case rel=>
    have CS:=copy_step (by decide) hb.size HI.out HD.out hp HO1.out HG1.out (OUT2.out w1 HG1.out _) hg2
    have s2:=hg2.size
    refine ⟨k+1,upd V k (.slice A1 p[k].length c1),some ⟨gg,0,none⟩,cap,by omega,by go_num,rfl,?_,?_,CS.1,CS.2⟩
    ·have g1:=((Below.refl w.heap.size wr).alloc hb.size (.cells #[] 33)).grown HG1.out (by simp;omega) (fun q hq=>by simp [Value.ownBlock] at hq;omega)
     have g2:=((hb.trans g1).alloc (by simp at s1;omega) (.cells #[.slice A1 p[k].length c1] 31)).grown hg2 (by simp at s1 ⊢;omega) (fun q hq=>(HOUT.out.lt q hq).1)
     exact g2
    ·rw [map_range_succ]
     exact hown2
   case measure=>simp [intOf];omega
  ·have hkx:k=xs.length:=by omega
   go_wp2
   go_ret
   have hX:=HX.out
   refine ⟨⟨A',c',by rw [<- hX,<- hkx];rfl,?_⟩,hb⟩
   rw [<- hX,<- hkx]
   exact OwOw.of_row HOUT.out (by omega) (fun j h=>HI.out j h (by omega)) (fun i j hi hj=>HD.out i j hi hj (by omega) (by omega))
end Go.Proofs.Ytlgfihlflchhgaa
namespace Go.Proofs.Ytlgfihlflchhgaa
open Go.ChangeShapes Go.WideShapes Go.ChangeAt Go.RowKit
set_option maxRecDepth 100000
theorem isThread_any {lo hi:Nat} {u:Value} {p:List (List Ins)} {w:World} (t:Int) (b:Bool) (hu:SlSl Ins.cells 4 w lo hi u p) (hhi:hi<=w.heap.size) (ht:total p<=1048576) (hp:p.length<=1048576)
  (hb:(validB p&&inB t ((p.length:Int)-1))=b) :
  Calls Try.prog 16 #[u,.int .i64 t] w fun e w'=>e = .returned (.bool b)/\Below w.heap.size w w':=by
 subst hb
 have HU:=Lib.hid hu
 obtain ⟨xs,hxs,hxl,hxr⟩:=hu
 obtain ⟨A,ca,rfl,hca,hma,hA⟩:=hxs.vals
 clear hxs hxr hA
 have HX:=Lib.hid hxl
 have hxle:xs.length<=1048576:=by omega
 clear hxl
 have PV:=Lib.hid (impl_ProgramValid_any (w:=w) HU.out hhi ht)
 cases hv:validB p with
 | false=>
  rw [hv] at PV
  go_enter Try.func16,Try.ntmps16
  go_wp2_with (go_at_call 25;refine PV.out.mono ?_;rintro e w1 ⟨rfl,hb⟩)
  go_ret
  exact ⟨rfl,hb⟩
 | true=>
  rw [hv] at PV
  have hw:(decide (0<=t)&&decide (t<=(xs.length:Int)-1))=inB t ((p.length:Int)-1):=by rw [HX.out];rfl
  have HW:=Lib.hid hw;clear hw
  go_enter Try.func16,Try.ntmps16
  go_wp2_with (first | (go_at_call 25;refine PV.out.mono ?_;rintro e w1 ⟨rfl,hb⟩) | (go_at_call 37;refine (within_any _ _ _ _ HW.out _).mono ?_;rintro e w2 ⟨rfl,rfl⟩))
  go_ret
  exact ⟨ret_bool (by simp),hb⟩
def thrB (p:List (List Ins)) (t:Int):Bool:=validB p&&inB t ((p.length:Int)-1)
end Go.Proofs.Ytlgfihlflchhgaa
namespace Go.Proofs.Ytlgfihlflchhgaa
open Go.ChangeShapes Go.WideShapes Go.ChangeAt Go.RowKit
set_option maxRecDepth 100000
end Go.Proofs.Ytlgfihlflchhgaa
namespace Go.Proofs.Ytlgfihlflchhgaa
open Go.ChangeShapes Go.WideShapes Go.ChangeAt Go.RowKit
set_option maxRecDepth 100000
end Go.Proofs.Ytlgfihlflchhgaa
namespace Go.Proofs.Ytlgfihlflchhgaa
open Go.ChangeShapes Go.WideShapes Go.ChangeAt Go.RowKit
set_option maxRecDepth 100000
theorem thr_cases (p:List (List Ins)) (t:Int):(validB p=false/\thrB p t=false)\/(validB p=true/\inB t ((p.length:Int)-1)=false/\thrB p t=false)\/(validB p=true/\inB t ((p.length:Int)-1)=true/\thrB p t=true/\∃ a:Nat,t=a/\a<p.length):=by
 unfold thrB
 cases h:validB p with
 | false=>exact .inl ⟨rfl,rfl⟩
 | true=>
  cases h2:inB t ((p.length:Int)-1) with
  | false=>exact .inr (.inl ⟨rfl,rfl,rfl⟩)
  | true=>
   refine .inr (.inr ⟨rfl,rfl,rfl,?_⟩)
   simp only [inB,Bool.and_eq_true,decide_eq_true_eq] at h2
   obtain ⟨a,rfl⟩:=Int.eq_ofNat_of_zero_le h2.1
   exact ⟨a,rfl,by omega⟩
end Go.Proofs.Ytlgfihlflchhgaa
namespace Go.Proofs.Ytlgfihlflchhgaa
open Go.ChangeShapes Go.WideShapes Go.ChangeAt Go.RowKit
set_option maxRecDepth 100000
section
variable {w:World} {g:Nat} {t:TypeId} {cs:Array Value}
theorem Blk.setCells (vs:List Value):∀ (o:Nat) (w:World) (cs:Array Value),Blk w g t cs->o+vs.length<=cs.size ->
  ∃ cs',Blk (w.setCells g o vs) g t cs'/\cs'.size=cs.size/\(∀ k,k<vs.length->cs'[o+k]? = vs[k]?)/\(∀ k,k<o\/o+vs.length<=k->cs'[k]? = cs[k]?):=by
 induction vs with
 | nil=>exact fun o w cs h _=>⟨cs,h,rfl,fun k hk=>absurd hk (by simp),fun k _=>rfl⟩
 | cons v r ih=>
  intro o w cs h hs
  simp only [List.length_cons] at hs
  obtain ⟨cs',h1,h2,h3,h4⟩:=ih (o+1) (w.setCell ⟨g,o,none⟩ v) _ (h.set_ o v) (by simp;omega)
  refine ⟨cs',h1,by simpa using h2,fun k hk => ?_,fun k hk => ?_⟩
  ·match k,hk with
   | 0,_=>
    rw [h4 (o+0) (by omega)]
    simp [show o<cs.size by omega]
   | k+1,hk=>
    have := h3 k (by simpa using hk)
    rw [show o+(k+1)=o+1+k by omega,this]
    simp
  ·simp only [List.length_cons] at hk
   rw [h4 k (by omega)]
   rw [Array.getElem?_setIfInBounds_ne (by omega)]
theorem Fr.setCells {lo hi:Nat} {a:World} (hg:lo<=g/\g<hi) (vs:List Value):∀ (o:Nat) (w:World),Fr lo hi a w->Fr lo hi a (w.setCells g o vs):=by
 induction vs with
 | nil=>exact fun o w h=>h
 | cons v r ih=>exact fun o w h=>ih (o+1) _ (h.setCell hg v)
end
theorem zeroS (w:World):(zeroValue 31).run Try.prog w = .ok (.slice none 0 0) w:=by kernel_rfl
set_option maxHeartbeats 2000000 in
theorem Delete_any {g n i:Nat} {cs:Array Value} {w:World} (hB:Blk w g 31 cs) (hcs:cs.size=n) (hi:i<n) (hn:n<=1048576) (hone:∀ u∈cs.toList,u.oneCell'=true) :
  Calls Try.prog 17 #[.slice (some ⟨g,0,none⟩) n n,.int .i64 (i:Int),.int .i64 ((i:Int)+1)] w fun e w'=>e = .returned (.slice (some ⟨g,0,none⟩) (n-1) n) /\
   (∃ cs',Blk w' g 31 cs'/\cs'.size=n/\∀ k,k<n-1->cs'[k]? = cs[if k<i then k else k+1]?)/\Fr g (g+1) w w':=by
 obtain ⟨i0,hi0,hz0,hz1,hz2⟩:=info_parts Try.infoInsS
 obtain ⟨news,hnews⟩:∃ news,news=cs.toList.drop (i+1):=⟨_,rfl⟩
 have hlen:news.length=n-(i+1):=by rw [hnews];simp [hcs]
 have hget:∀ t,t<n-(i+1)->news[t]? = cs[i+1+t]? := by
  intro t ht
  rw [hnews,List.getElem?_drop,Array.getElem?_toList]
 obtain ⟨A,hA,hsrc⟩:∃ A:Addr,(if n=i+1 then some (⟨g,0,none⟩:Addr) else some ⟨g,i+1,none⟩)=some A/\Hid (∀ t u,news[t]? = some u->w.drew.cell? (A.add t)=some u):=by
  by_cases h:n=i+1
  ·refine ⟨⟨g,0,none⟩,by simp [h],fun t u hu => ?_⟩
   have h0:news.length=0:=by rw [hlen];omega
   rw [List.length_eq_zero_iff.1 h0] at hu
   simp at hu
  ·refine ⟨⟨g,i+1,none⟩,by simp [h],fun t u hu => ?_⟩
   have ht:t<n-(i+1):=by
    have := (List.getElem?_eq_some_iff.1 hu).1
    rwa [hlen] at this
   rw [hget t ht] at hu
   rw [add_plain',hB.drew.cell]
   exact hu
 have s1:Hid (news.length=(n-(i+1))*1):=by rw [Nat.mul_one];exact hlen
 have s2:Hid (∀ u∈news,u.oneCell'=true):=by
  intro u hu
  rw [hnews] at hu
  exact hone u (List.mem_of_mem_drop hu)
 have s3:Hid (∀ t,t<news.length->(w.drew.cell? ⟨g,0+i*1+t,none⟩).isSome=true/\w.drew.frozen? ⟨g,0+i*1+t,none⟩=false):=by
  intro t ht
  rw [hlen] at ht
  rw [hB.drew.cell,Array.getElem?_eq_getElem (by omega)]
  exact ⟨rfl,hB.drew.frozen _⟩
 obtain ⟨W1,hW1⟩:∃ W1,W1=w.drew.setCells g (0+i*1) news:=⟨_,rfl⟩
 obtain ⟨c1,hB1,hs1,hc1,hc2⟩:=hB.drew.setCells news (0+i*1) _ _ (by omega)
 rw [<- hW1] at hB1
 have F1:Fr g (g+1) w W1:=by rw [hW1];exact Fr.setCells ⟨Nat.le_refl _,by omega⟩ _ _ _ (Fr.refl _ _ _).drew
 have hcl:∀ ty,(Builtin.clear_ #[23] ty #[.slice (some ⟨g,i+(n-(i+1)),none⟩) (n-(i+(n-(i+1)))) (n-(i+(n-(i+1))))]).run Try.prog W1 = .ok (.tuple #[]) (W1.setCells g (i+(n-(i+1))) (List.replicate (n-(i+(n-(i+1)))) (.slice none 0 0))):=
  fun ty=>Lib.run_clear_slice W1 _ _ ty _ Try.underlying23 zeroS rfl rfl g (i+(n-(i+1))) _ _ (by omega) (fun t ht=>by rw [hB1.cell,Array.getElem?_eq_getElem (by omega)];rfl) (fun t ht=>hB1.frozen _)
 obtain ⟨c2,hB2,hs2,hd1,hd2⟩:=hB1.setCells (List.replicate (n-(i+(n-(i+1)))) (.slice none 0 0)) (i+(n-(i+1))) _ _ (by simp;omega)
 have F2:Fr g (g+1) w (W1.setCells g (i+(n-(i+1))) (List.replicate (n-(i+(n-(i+1)))) (.slice none 0 0))):=Fr.setCells ⟨Nat.le_refl _,by omega⟩ _ _ _ F1
 have hfin:∀ k,k<n-1->c2[k]? = cs[if k<i then k else k+1]? := by
  intro k hk
  rw [hd2 k (by omega)]
  split
  ·exact hc2 k (by omega)
  ·have h1:=hc1 (k-i) (by omega)
   rw [show 0+i*1+(k-i)=k by omega,hget (k-i) (by omega),show i+1+(k-i)=k+1 by omega] at h1
   exact h1
 have HF:=Lib.hid hfin
 have HB2:=Lib.hid hB2
 have HS2:=Lib.hid (hs2.trans (hs1.trans hcs))
 have HF2:=Lib.hid F2
 have hW:Hid (W1=w.drew.setCells g (0+i*1) news):=hW1
 have i1 : ¬ (i:Int)=(i:Int)+1:=by omega
 have i2:(0:Int)<=(i:Int):=by omega
 have i3:(i:Int)<=(n:Int):=by omega
 have i4:(0:Int)<=(i:Int)+1:=by omega
 have i5:(i:Int)+1<=(n:Int):=by omega
 have i6:(i:Int)<=(i:Int)+1:=by omega
 have i7:((i:Int)+1).toNat=i+1:=by omega
 clear hW1 hnews hlen hget hB hcs hone hB1 hs1 hc1 hc2 F1 hB2 hs2 hd1 hd2 F2 hfin
 go_enter Try.func17,Try.ntmps17
 go_wp2_with fail
 go_region_law (refine step_append_room rfl (.tmp 22) (.tmp 25) 23 rfl 31 i0 1 Try.underlying23 hi0 hz1 g 0 i n (by simp [Act.eval,Act.put]) A (n-(i+1)) (n-(i+1)) news (by simp [Act.eval,Act.put]) s1.out hsrc.out s2.out (by omega) s3.out ?_;rw [<- hW.out])
 go_wp2_with (simp only [hcl])
 go_ret
 exact ⟨by rw [show n-1=i+(n-(i+1)) by omega];rfl,⟨c2,HB2.out,HS2.out,HF.out⟩,HF2.out⟩
end Go.Proofs.Ytlgfihlflchhgaa
namespace Go.Proofs.Ytlgfihlflchhgaa
open Go.ChangeShapes Go.WideShapes Go.ChangeAt Go.RowKit
set_option maxRecDepth 100000
theorem Ow.frOther {α:Type} {f:α->List Value} {s:Nat} {to ti:TypeId} {w w':World} {lo hi g:Nat} {v:Value} {xs:List α} {cs:Array Value} (h:Ow f s ti w lo hi v xs) (hB:Blk w g to cs) (hne:ti≠to) (hF:Fr g (g+1) w w'):Ow f s ti w' lo hi v xs:=by
 obtain ⟨A,c,rfl,hc,hm,hx⟩:=h
 refine ⟨A,c,rfl,hc,hm,fun hn => ?_⟩
 obtain ⟨gk,cur,rfl,h1,h2,hBk,hs,hcur⟩:=hx hn
 have hgk:gk≠g:=by
  intro e
  subst e
  exact hne (hBk.inj hB).1
 exact ⟨gk,cur,rfl,h1,h2,hBk.fr hF (by omega),hs,hcur⟩
def dropR (p:List (List Ins)) (t:Int):List (List Ins)×Bool:=if (thrB p t&&decide (p.length≠1))=true then (p.eraseIdx t.toNat,true) else ([],false)
set_option maxHeartbeats 1000000 in
theorem impl_DropThread_any {lo hi:Nat} {u:Value} {p:List (List Ins)} {w:World} (t:Int) (hu:SlSl Ins.cells 4 w lo hi u p) (hhi:hi<=w.heap.size) (ht:total p<=1048576) (hp:p.length<=1048576) :
  Calls Try.prog 6 #[u,.int .i64 t] w fun e w'=>(∃ v,e = .returned (.tuple #[v,.bool (dropR p t).2])/\OwOw Ins.cells 4 31 33 w' w.heap.size w'.heap.size v (dropR p t).1)/\Below w.heap.size w w':=by
 have HU:=Lib.hid hu
 obtain ⟨xs,hxs,hxl,hxr⟩:=hu
 obtain ⟨A,ca,rfl,hca,hma,hA⟩:=hxs.vals
 clear hxs hma hxr hA
 have HX:=Lib.hid hxl
 have hxle:xs.length<=1048576:=by omega
 clear hxl
 have IT:=Lib.hid (isThread_any (w:=w) t (thrB p t) HU.out hhi ht hp rfl)
 rcases thr_cases p t with ⟨hv,h1⟩ | ⟨hv,h2,h1⟩ | ⟨hv,h2,h1,a,rfl,ha⟩
 ·have hr:dropR p t=([],false):=by unfold dropR;rw [h1];rfl
  rw [hr]
  rw [h1] at IT
  clear hr h1 hv
  go_enter Try.func6,Try.ntmps6
  go_wp2_with fail
  refine IT.out.mono ?_
  rintro e w1 ⟨rfl,hb1⟩
  go_wp2_with fail
  go_ret2
  exact ⟨⟨_,rfl,OwOw.nil_ _ _ (by omega)⟩,hb1⟩
 ·have hr:dropR p t=([],false):=by unfold dropR;rw [h1];rfl
  rw [hr]
  rw [h1] at IT
  clear hr h1 h2 hv
  go_enter Try.func6,Try.ntmps6
  go_wp2_with fail
  refine IT.out.mono ?_
  rintro e w1 ⟨rfl,hb1⟩
  go_wp2_with fail
  go_ret2
  exact ⟨⟨_,rfl,OwOw.nil_ _ _ (by omega)⟩,hb1⟩
 ·rw [h1] at IT
  by_cases h3:p.length=1
  ·have hr:dropR p a=([],false):=by unfold dropR;rw [if_neg (by simp [h3])]
   rw [hr]
   have hx1:(xs.length:Int)=1:=by rw [HX.out,h3];rfl
   clear hr h1 h2 hv h3
   go_enter Try.func6,Try.ntmps6
   go_wp2_with fail
   refine IT.out.mono ?_
   rintro e w1 ⟨rfl,hb1⟩
   go_wp2_with fail
   go_ret2
   exact ⟨⟨_,rfl,OwOw.nil_ _ _ (by omega)⟩,hb1⟩
  ·have hr:dropR p a=(p.eraseIdx a,true):=by unfold dropR;rw [if_pos (by simp [h1,h3])];rfl
   rw [hr]
   have hx1 : ¬ (xs.length:Int)=1:=by rw [HX.out];omega
   clear hr h1 h2 hv h3
   go_enter Try.func6,Try.ntmps6
   go_wp2_with fail
   refine IT.out.mono ?_
   rintro e w1 ⟨rfl,hb1⟩
   have s1:=hb1.size
   go_wp2_with fail
   refine (cloneProgram_any (HU.out.below hb1 hhi) (by omega) hp ht).mono ?_
   rintro e w3 ⟨⟨g,cs,V,rfl,hB,hg,hcs,hrow,hsep⟩,hb3⟩
   have hone:∀ u∈cs.toList,u.oneCell'=true:=by
    intro u hu
    obtain ⟨k,hk,rfl⟩:=List.getElem_of_mem hu
    have hk':k<p.length:=by simpa [hcs] using hk
    have h5:=(hrow k hk').1
    obtain ⟨_,_,hv6,-⟩:=(hrow k hk').2
    rw [hv6,Array.getElem?_eq_getElem (by omega)] at h5
    injection h5 with h5
    simp only [Array.getElem_toList]
    rw [h5]
    rfl
   have DL:=Lib.hid (Delete_any (w:=w3) hB hcs ha (by omega) hone)
   have HROW:=Lib.hid hrow;clear hrow
   have HSEP:=Lib.hid hsep;clear hsep
   have HB:=Lib.hid hB;clear hB
   have HCS:=Lib.hid hcs;clear hcs hone
   go_wp2_with fail
   refine DL.out.mono ?_
   rintro e w4 ⟨rfl,⟨cs',hB',hcs',hget'⟩,hF⟩
   go_wp2_with fail
   go_ret2
   have g2:Below w.heap.size w w3:=hb1.trans (hb3.mono s1)
   refine ⟨⟨_,rfl,?_⟩,g2.trans (hF.below (by omega) g2.size)⟩
   have hlen:(p.eraseIdx a).length=p.length-1:=by rw [List.length_eraseIdx,if_pos ha]
   have hM:=OwOw.made2 (f:=Ins.cells) (s:=4) (ti:=33) (p:=p.eraseIdx a) (c:=p.length) (V:=fun j=>V (if j<a then j else j+1)) hB' (lo:=w.heap.size) (hi:=w4.heap.size) ⟨by omega,hB'.lt⟩ hcs' (by omega) (by omega)
    (fun j h => ?_) (fun i j hi hj hij h1 h2 => ?_)
   ·rw [hlen] at hM
    exact hM
   ·rw [hlen] at h
    rw [List.getElem_eraseIdx]
    have hk:(if j<a then j else j+1)<p.length:=by split <;> omega
    obtain ⟨h5,h6⟩:=HROW.out _ hk
    refine ⟨(hget' j h).trans h5,?_⟩
    have h7:=(h6.frOther HB.out (by decide) hF).mono s1 hF.size
    split
    ·rename_i e
     simpa [e] using h7
    ·rename_i e
     simpa [e] using h7
   ·rw [hlen] at hi hj
    rw [List.getElem_eraseIdx] at h1 h2
    have hk1:(if i<a then i else i+1)<p.length:=by split <;> omega
    have hk2:(if j<a then j else j+1)<p.length:=by split <;> omega
    refine HSEP.out _ _ hk1 hk2 (by split <;> split <;> omega) ?_ ?_
    ·split at h1
     ·rename_i e;simpa [e] using h1
     ·rename_i e;simpa [e] using h1
    ·split at h2
     ·rename_i e;simpa [e] using h2
     ·rename_i e;simpa [e] using h2
end Go.Proofs.Ytlgfihlflchhgaa
namespace Go.Proofs.Ytlgfihlflchhgaa
open Go.ChangeShapes Go.WideShapes Go.ChangeAt Go.RowKit
set_option maxRecDepth 100000
theorem OwOw.openAll {α:Type} {f:α->List Value} {s:Nat} {to ti:TypeId} {w:World} {lo hi:Nat} {v:Value} {p:List (List α)} (h:OwOw f s to ti w lo hi v p) (hn:0<p.length) :
  ∃ (g c:Nat) (cs:Array Value) (V:Nat->Value),v = .slice (some ⟨g,0,none⟩) p.length c/\p.length<=c/\c<=9223372036854775807/\lo<=g/\g<hi/\Blk w g to cs/\cs.size=c /\
   (∀ j (h:j<p.length),cs[j]? = some (V j)/\Ow f s ti w lo hi (V j) p[j]) /\
   (∀ i j (hi:i<p.length) (hj:j<p.length),i≠j->0<p[i].length->0<p[j].length->(V i).ownBlock≠(V j).ownBlock):=by
 obtain ⟨vs,ho,hl,hrow,hsep⟩:=h
 obtain ⟨A,c,rfl,hc,hm,hx⟩:=ho
 obtain ⟨g,cur,rfl,hg1,hg2,hB,hsz,hcells⟩:=hx (by omega)
 have hV:∀ j (h:j<vs.length),vs.getD j (.slice none 0 0)=vs[j]:=fun j h=>by simp [h]
 refine ⟨g,c,cur,fun j=>vs.getD j (.slice none 0 0),by rw [hl],by omega,hm,hg1,hg2,hB,by omega,fun j h => ?_,fun i j hi hj hij h1 h2 => ?_⟩
 ·have hj:j<vs.length:=by omega
  have := hcells j hj 0 vs[j] (by simp [val1])
  refine ⟨?_,?_⟩
  ·show _=some (vs.getD j (.slice none 0 0))
   rw [hV j hj]
   simpa using this
  ·show Ow f s ti w lo hi (vs.getD j (.slice none 0 0)) p[j]
   rw [hV j hj]
   exact hrow j hj h
 ·show (vs.getD i (.slice none 0 0)).ownBlock≠(vs.getD j (.slice none 0 0)).ownBlock
  rw [hV i (by omega),hV j (by omega)]
  exact hsep i j (by omega) (by omega) hi hj hij h1 h2
set_option maxHeartbeats 2000000 in
theorem spec_DropThread_any {lo hi:Nat} {u:Value} {p:List (List Ins)} {w:World} (t:Int) (hu:SlSl Ins.cells 4 w lo hi u p) (hhi:hi<=w.heap.size) (ht:total p<=1048576) (hp:p.length<=1048576) :
  Calls Try.prog 7 #[u,.int .i64 t] w fun e w'=>(∃ v,e = .returned (.tuple #[v,.bool (dropR p t).2])/\OwOw Ins.cells 4 31 33 w' w.heap.size w'.heap.size v (dropR p t).1)/\Below w.heap.size w w':=by
 have HU:=Lib.hid hu
 obtain ⟨xs,hxs,hxl,hxr⟩:=hu
 obtain ⟨A,ca,rfl,hca,hma,hA⟩:=hxs.vals
 clear hxs hma hxr hA
 have HX:=Lib.hid hxl
 have hxle:xs.length<=1048576:=by omega
 clear hxl
 have PV:=Lib.hid (spec_ProgramValid_any (w:=w) HU.out hhi ht)
 have hl1:(decide (0<=t)&&decide (t<=(xs.length:Int)-1))=inB t ((p.length:Int)-1):=by rw [HX.out];rfl
 rcases thr_cases p t with ⟨hv,h1⟩ | ⟨hv,h2,h1⟩ | ⟨hv,h2,h1,a,rfl,ha⟩
 ·have hr:dropR p t=([],false):=by unfold dropR;rw [h1];rfl
  rw [hr]
  rw [hv] at PV
  clear hr h1 hv hl1
  go_enter Try.func7,Try.ntmps7
  go_wp2_with fail
  refine PV.out.mono ?_
  rintro e w1 ⟨rfl,hb1⟩
  go_wp2_with fail
  go_ret2
  exact ⟨⟨_,rfl,OwOw.nil_ _ _ (by omega)⟩,hb1.alloc hb1.size _⟩
 ·have hr:dropR p t=([],false):=by unfold dropR;rw [h1];rfl
  rw [hr]
  rw [hv] at PV
  rw [h2] at hl1
  have L1:=Lib.hid hl1
  clear hr h1 hv h2 hl1
  go_enter Try.func7,Try.ntmps7
  go_wp2_with fail
  refine PV.out.mono ?_
  rintro e w1 ⟨rfl,hb1⟩
  go_wp2_with fail
  refine (l1In_any _ _ false L1.out _).mono ?_
  rintro e w2 ⟨rfl,rfl⟩
  go_wp2_with fail
  go_ret2
  exact ⟨⟨_,rfl,OwOw.nil_ _ _ (by omega)⟩,hb1.alloc hb1.size _⟩
 ·rw [hv] at PV
  rw [h2] at hl1
  have L1:=Lib.hid hl1
  by_cases h3:p.length=1
  ·have hr:dropR p a=([],false):=by unfold dropR;rw [if_neg (by simp [h3])]
   rw [hr]
   have HX1:Hid ((xs.length:Int)=1):=by rw [HX.out,h3];rfl
   clear hr h1 hv h2 hl1 h3
   go_enter Try.func7,Try.ntmps7
   go_wp2_with fail
   refine PV.out.mono ?_
   rintro e w1 ⟨rfl,hb1⟩
   go_wp2_with fail
   refine (l1In_any _ _ true L1.out _).mono ?_
   rintro e w2 ⟨rfl,rfl⟩
   have hx1:=HX1.out
   go_wp2_with fail
   go_ret2
   exact ⟨⟨_,rfl,OwOw.nil_ _ _ (by omega)⟩,hb1.alloc hb1.size _⟩
  ·have hr:dropR p a=(p.eraseIdx a,true):=by unfold dropR;rw [if_pos (by simp [h1,h3])];rfl
   rw [hr]
   have HX1:Hid (¬ (xs.length:Int)=1):=by rw [HX.out];show ¬ _;omega
   obtain ⟨i0,hi0,hz0,hz1,hz2⟩:=info_parts Try.infoInsS
   clear hr h1 hv h2 hl1 h3
   go_enter Try.func7,Try.ntmps7
   go_wp2_with fail
   refine PV.out.mono ?_
   rintro e w1 ⟨rfl,hb1⟩
   go_wp2_with fail
   refine (l1In_any _ _ true L1.out _).mono ?_
   rintro e w2 ⟨rfl,rfl⟩
   have hx1:=HX1.out
   have s1:=hb1.size
   go_wp2_with fail
   refine (l1Copy_any (HU.out.below hb1 hhi) (by omega) hp ht).mono ?_
   rintro e w3 ⟨⟨A0,c0,rfl,hM⟩,hb3⟩
   obtain ⟨g,c,cs,V,he,hpc,hc63,hg,hg2,hB,hcs,hrow,hsep⟩:=hM.openAll (by omega)
   injection he with he1 he2 he3
   subst he1 he3
   clear hM
   have g2:Below w.heap.size w w3:=hb1.trans (hb3.mono s1)
   have G2:=Lib.hid g2
   have hgw:w.heap.size<=g:=by omega
   have hone:∀ u∈cs.toList.take p.length,u.oneCell'=true:=by
    intro u hu
    obtain ⟨k,hk,rfl⟩:=List.getElem_of_mem hu
    have hk':k<p.length:=by simp at hk;omega
    have h5:=(hrow k hk').1
    obtain ⟨_,_,hv6,-⟩:=(hrow k hk').2
    rw [hv6,Array.getElem?_eq_getElem (by omega)] at h5
    injection h5 with h5
    rw [List.getElem_take,Array.getElem_toList,h5]
    rfl
   obtain ⟨news,hnews⟩:∃ news,news=(cs.toList.take p.length).drop (a+1):=⟨_,rfl⟩
   have hlen:news.length=p.length-(a+1):=by rw [hnews];simp [hcs];omega
   have hget:∀ t,t<p.length-(a+1)->news[t]? = cs[a+1+t]? := by
    intro t ht
    rw [hnews,List.getElem?_drop,List.getElem?_take,if_pos (by omega),Array.getElem?_toList]
   obtain ⟨A,hA,hsrc⟩:∃ A:Addr,(if c0=a+1 then some (⟨g,0,none⟩:Addr) else some ⟨g,a+1,none⟩)=some A/\Hid (∀ t u,news[t]? = some u->w3.drew.cell? (A.add t)=some u):=by
    by_cases h:c0=a+1
    ·refine ⟨⟨g,0,none⟩,by simp [h],fun t u hu => ?_⟩
     have h0:news.length=0:=by rw [hlen];omega
     rw [List.length_eq_zero_iff.1 h0] at hu
     simp at hu
    ·refine ⟨⟨g,a+1,none⟩,by simp [h],fun t u hu => ?_⟩
     have ht:t<p.length-(a+1):=by
      have := (List.getElem?_eq_some_iff.1 hu).1
      rwa [hlen] at this
     rw [hget t ht] at hu
     rw [add_plain',hB.drew.cell]
     exact hu
   have S1:Hid (news.length=(p.length-(a+1))*1):=by rw [Nat.mul_one];exact hlen
   have S2:Hid (∀ u∈news,u.oneCell'=true):=by
    intro u hu
    rw [hnews] at hu
    exact hone u (List.mem_of_mem_drop hu)
   have S3:Hid (∀ t,t<news.length->(w3.drew.cell? ⟨g,0+a*1+t,none⟩).isSome=true/\w3.drew.frozen? ⟨g,0+a*1+t,none⟩=false):=by
    intro t ht
    rw [hlen] at ht
    rw [hB.drew.cell,Array.getElem?_eq_getElem (by omega)]
    exact ⟨rfl,hB.drew.frozen _⟩
   obtain ⟨W1,hW1⟩:∃ W1,W1=w3.drew.setCells g (0+a*1) news:=⟨_,rfl⟩
   obtain ⟨c1,hB1,hs1,hc1,hc2⟩:=hB.drew.setCells news (0+a*1) _ _ (by omega)
   rw [<- hW1] at hB1
   have F1:Fr g (g+1) w3 W1:=by rw [hW1];exact Fr.setCells ⟨Nat.le_refl _,by omega⟩ _ _ _ (Fr.refl _ _ _).drew
   have hget':∀ k,k<p.length-1->c1[k]? = cs[if k<a then k else k+1]? := by
    intro k hk
    split
    ·exact hc2 k (by omega)
    ·have h1:=hc1 (k-a) (by omega)
     rw [show 0+a*1+(k-a)=k by omega,hget (k-a) (by omega),show a+1+(k-a)=k+1 by omega] at h1
     exact h1
   have HG:=Lib.hid hget'
   have HB1:=Lib.hid hB1
   have HS1:=Lib.hid (hs1.trans hcs)
   have HF1:=Lib.hid F1
   have HB:=Lib.hid hB
   have HROW:=Lib.hid hrow
   have HSEP:=Lib.hid hsep
   have HW:Hid (W1=w3.drew.setCells g (0+a*1) news):=hW1
   clear hW1 hnews hlen hget hB hcs hone hB1 hs1 hc1 hc2 F1 hget' hrow hsep g2
   have i2:(0:Int)<=(a:Int):=by omega
   have i3:(a:Int)<=(p.length:Int):=by omega
   have i4:(0:Int)<=(a:Int)+1:=by omega
   have i5:(a:Int)+1<=(p.length:Int):=by omega
   have i6:(a:Int)<=(c0:Int):=by omega
   have i7:((a:Int)+1).toNat=a+1:=by omega
   have i8:IntKind.i64.wrap ((a:Int)+1)=(a:Int)+1:=IntWalk.i64_in _ (by omega)
   go_wp2_with fail
   go_region_law (refine step_append_room rfl (.tmp 28) (.tmp 32) 23 rfl 31 i0 1 Try.underlying23 hi0 hz1 g 0 a c0 (by simp [Act.eval,Act.put]) A (p.length-(a+1)) (c0-(a+1)) news (by simp [Act.eval,Act.put]) S1.out hsrc.out S2.out (by omega) S3.out ?_;rw [<- HW.out])
   go_wp2_with fail
   go_ret2
   refine ⟨⟨.slice (some ⟨g,0,none⟩) (a+(p.length-(a+1))) c0,rfl,?_⟩,G2.out.trans (HF1.out.below hgw G2.out.size)⟩
   have hlen:(p.eraseIdx a).length=p.length-1:=by rw [List.length_eraseIdx,if_pos ha]
   have hM:=OwOw.made2 (f:=Ins.cells) (s:=4) (ti:=33) (p:=p.eraseIdx a) (c:=c0) (V:=fun j=>V (if j<a then j else j+1)) HB1.out (lo:=w.heap.size) (hi:=W1.heap.size) ⟨by omega,HB1.out.lt⟩ HS1.out (by omega) (by omega)
    (fun j h => ?_) (fun i j hi hj hij h1 h2 => ?_)
   ·rw [hlen,show p.length-1=a+(p.length-(a+1)) by omega] at hM
    exact hM
   ·rw [hlen] at h
    rw [List.getElem_eraseIdx]
    have hk:(if j<a then j else j+1)<p.length:=by split <;> omega
    obtain ⟨h5,h6⟩:=HROW.out _ hk
    refine ⟨(HG.out j h).trans h5,?_⟩
    have h7:=(h6.frOther HB.out (by decide) HF1.out).mono s1 HF1.out.size
    split
    ·rename_i e
     simpa [e] using h7
    ·rename_i e
     simpa [e] using h7
   ·rw [hlen] at hi hj
    rw [List.getElem_eraseIdx] at h1 h2
    have hk1:(if i<a then i else i+1)<p.length:=by split <;> omega
    have hk2:(if j<a then j else j+1)<p.length:=by split <;> omega
    refine HSEP.out _ _ hk1 hk2 (by split <;> split <;> omega) ?_ ?_
    ·split at h1
     ·rename_i e;simpa [e] using h1
     ·rename_i e;simpa [e] using h1
    ·split at h2
     ·rename_i e;simpa [e] using h2
     ·rename_i e;simpa [e] using h2
end Go.Proofs.Ytlgfihlflchhgaa
