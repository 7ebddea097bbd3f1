/- Texts joined. No conditions. -/
import Derived.Laws.Rows
import Derived.OpenShut
import Derived.Test.YtlmjnhnpahicmaaGreatY13
namespace Go.Proofs.YtlmjnhnpahicmaaGreat
noncomputable section
open Go.RowKit
set_option maxRecDepth 100000
set_option maxHeartbeats 4000000 in
theorem mU (p:List (List Jh)) (x:Ji) {q:(LI)×Bool} (h:av p x=some q):bg Tryz.prog 32 [eL (cL Jh.c) p,.agg (Ji.c x)] [] (yB 1 3 (fun x => .tup [x,Bo q.2]) q.1.length (q.1.map cI) 0 []):=by
 refine bg.mkO Tryz.func32 Z (by kernel_rfl) Z (by kernel_rfl) (e0:=ae [(0,eL (cL Jh.c) p),(1,.agg (Ji.c x))]) (Jd Z (Jd Z Jc)) (G5 Z) (jN (fun _=>Z)) (T.sr (oN (Je.bxF (Ji.c x) Z Z Z) (oN as' (oN as' (TO.nil (T.seq (T.reserve (T.reserve (T.reserve (T.drawF (fun i=>[([],false),([],false),([],false),([],false),([0],true),([1],true),([],false),([2],true),([],false)].getD i ([],false)) (by kernel_rfl) (by kernel_rfl) (fN Z mv (fN Z (lf (.agg (Ji.c x)) tQ Z) (fN Z mv (fC h (fun _=>lI _) Z Z Z Z Z fun v1 _ h=>fW 0 [] Z Z (fun G hG=>EvA.mkOR (c:=cI) 0 ([]:LI) [] bh Z Z Z (fun _=>Z) (fun _=>Z) Z (hG.a0 Z)) ?_))))))))))))));refine fW 1 [] Z Z (fun G hG=>EvA.mmkA (kn:=3) kI3 1 (hG.a0 Z)) (fN Z (Je.build [eL (cL Jh.c) p,eL cI x.From,eL (cL cI) x.Order,eL (cL cI) v1,hS false 0 0 1 (([]:LI).length),.mp 1 4] Tryz.underlying95 IX wy Z Z) (fW 2 [] Z Z (fun G hG=>EvA.bxA (cs:=[eL (cL Jh.c) p,eL cI x.From,eL (cL cI) x.Order,eL (cL cI) v1,hS false 0 0 1 (([]:LI).length),.mp 1 4]) 2 Z Z (hG.a0 Z)) (fN Z as' (TF.nil (T.seq (T.sr (oN mv (oN (Je.buildZ Tryz.underlying97 ID Ju) (jB h fun v2 cv2 h=>?_)))))))));refine oW Z Z Z (bg.outAt (jc (⟨p,(⟨x.From,x.Order⟩:Ji),v1,([]:LI),([]:List ((Int×Int×Int)×Bool))⟩:ZTr) (⟨U,U,U⟩:Z3i) 0 0 cv2) [2,0,1] (by decide) (.cons Z (.rowL (.cons (ax 9 _ Z) (.cons (ax 9 _ Z) (.cons (ax 9 _ Z) (.cons (ax 9 _ Z) (.cons (cF Z) (.cons (.mp Z) .nil))))))) (.cons Z (RenK.bE' (fun _=>Z)) (.cons Z (RenK.mB _ (fun _=>Z)) .nil))) (.cons (.hp Z) (.cons (ax 9 _ Z) .nil)) (G:=fun v_=>[some ⟨0,6,95,[[eL (cL Jh.c) v2.1.p,eL cI v2.1.x.From,eL (cL cI) v2.1.x.Order,eL (cL cI) v2.1.number,hS false 0 v_ 1 v2.1.schedule.length,.mp 1 4]]⟩,bE false v_ 1 3 (v2.1.schedule.map cI),(some (mB 3 1 kI3 cB v2.1.failed))]) (G':=fun v_=>[bE false v_ 1 3 (v2.1.schedule.map cI),(some (mB 3 1 kI3 cB v2.1.failed)),some ⟨0,6,95,[[eL (cL Jh.c) v2.1.p,eL cI v2.1.x.From,eL (cL cI) v2.1.x.Order,eL (cL cI) v2.1.number,hS false 0 v_ 1 v2.1.schedule.length,.mp 1 4]]⟩]) 3 Z (fun v_ => .some (.rowL (.cons (ax 9 _ Z) (.cons (ax 9 _ Z) (.cons (ax 9 _ Z) (.cons (ax 9 _ Z) (.cons (cF (.inl Z)) (.cons (.mp (.inl Z)) .nil))))))) (.some (RenK.bE' (fun _=>Z)) (.some (RenK.mB _ (fun _=>Z)) .nil))) (fun _=>Z) (r:=Bo v2.2) (ax 9 _ Z) (fun _=>Z)) (fun u3=>?_);refine oN (Je.not Z) (TO.nil ?_);refine T.ifH Z h (fun q4 h=>?_) (fun q4 h=>?_)
 ·refine T.seq (T.clean (H0:=[bE false u3 1 3 (v2.1.schedule.map cI),(some (mB 3 1 kI3 cB v2.1.failed)),some ⟨0,6,95,[[eL (cL Jh.c) v2.1.p,eL cI v2.1.x.From,eL (cL cI) v2.1.x.Order,eL (cL cI) v2.1.number,hS false 0 u3 1 v2.1.schedule.length,.mp 1 4]]⟩]) (e0:=ae []) Z Jc (T.region (oN as' (oN as' (TO.nil (T.ret ?_))))));obtain rfl:=Jg h
  repeat (first|refine kP ?_|refine kQ ?_)
  exact Fin.ret (vs:=[.nil,Bo false]) (.cons (.tmp Z) (.cons (.tmp Z) .nil)) ⟨0,true,0,fun _=>Z,Z,nofun⟩
 ·refine T.skip (T.seq (T.clean (H0:=[bE false u3 1 3 (v2.1.schedule.map cI),(some (mB 3 1 kI3 cB v2.1.failed)),some ⟨0,6,95,[[eL (cL Jh.c) v2.1.p,eL cI v2.1.x.From,eL (cL cI) v2.1.x.Order,eL (cL cI) v2.1.number,hS false 0 u3 1 v2.1.schedule.length,.mp 1 4]]⟩]) (e0:=ae [(6,.hp 2 0 6 0 0)]) Z (Jd Z Jc) (T.region (oN mv (oN (nl Z) (oN (fa wy Z) (oA (lh (hS false 0 u3 1 v2.1.schedule.length) jm Z Z Z) (oN (Je.asg (hS false 0 u3 1 v2.1.schedule.length) Z) (oN as' (TO.nil (T.ret ?_)))))))))));obtain rfl:=Jg h
  repeat (first|refine kP ?_|refine kQ ?_)
  exact Fin.ret (vs:=[hS false 0 u3 1 v2.1.schedule.length,Bo true]) (.cons (.tmp Z) (.cons (.tmp Z) .nil)) ⟨0,false,u3,nofun,Z,ownB Z⟩
open Go.ChangeShapes Go.WideShapes Go.ChangeAt Go.RowKit
theorem Tryz.infoIntS:(Tryz.prog.info? 35).map (fun i=>(i.zero,i.size,i.bytes))=some (some (.slice none 0 0),1,24):=by kernel_rfl
def mV (p:List (List Ins)):List (List Jh):=p.map fun r=>r.map Gy
def trK (f:Ji->List Int×Bool) (cs:List Ji):LL:=cs.filterMap fun c=>if (f c).2=true then some (f c).1 else none
theorem H6 {W:World} {p:List (List Ins)} {x:Ji} {q:List Int×Bool} {lo hi lo' hi':Nat} {a c:Value} (hI:av (mV p) x=some q) (h:iO Ins.cells 4 W lo hi a p) (h':SlX W lo' hi' c x) :
  Calls Tryz.prog 32 #[a,c] W fun e w'=>(∃ v0,e = .returned (.tuple #[v0,.bool q.2])/\OwF w' W.heap.size w'.heap.size v0 q.1)/\Below W.heap.size W w':=
 xQ (mU _ _ hI) rfl (Aa (oZ h) (H5 h'))
theorem H7 {W:World} {p:List (List Ins)} {lo hi:Nat} {a:Value} (hI:az (mV p)=some true) (h:iO Ins.cells 4 W lo hi a p) :
  Calls Tryz.prog 21 #[a] W fun e w'=>e = .returned (.bool true)/\Below W.heap.size W w':=
 tj (eG _ hI) rfl (EJ (oZ h))
theorem H8 {W:World} {p:List (List Ins)} {cs:List Ji} {lo hi:Nat} {a:Value} (hI:dh (mV p)=some cs) (h:iO Ins.cells 4 W lo hi a p) :
  Calls Tryz.prog 31 #[a] W fun e w'=>(∃ v,e = .returned v/\SlE w' v cs)/\Below W.heap.size W w':=
 (eY (kN _ hI) _ rfl (EJ (oZ h))).mono fun e w' ⟨v,fz',he,hb,hv⟩=>⟨⟨v,he,ze hv⟩,hb⟩
theorem Dy {w w':World} {base n s:Nat} {e:TypeId} {v:Value} {xs:List Value} (h:w.ownsRow base e s v n xs) (hb:Below w.heap.size w w'):w'.ownsRow base e s v n xs:=
 h.kept (row:=none) ⟨hb.os,hb.tape,hb.output,hb.size,fun b hb' _=>hb.block b hb'⟩ (by cases hv:v.ownBlock <;> simp)
theorem OwF.grown {w w':World} {g:Nat} {v:Value} {xs:LI} {row:Option Nat} (x:OwF w g (g+1) v xs) (hg:w.grownBy w' row) (hne:row≠some g):OwF w' g (g+1) v xs:=
 x.keep fun k hk h1 h2=>hg.block k hk (by
  obtain rfl:k=g:=by omega
  exact fun e=>hne e.symm)
theorem OwF.one {w:World} {lo hi:Nat} {v:Value} {xs:LI} (x:OwF w lo hi v xs) (d:Nat):∃ g,OwF w g (g+1) v xs/\(g=d\/(lo<=g/\g<hi/\g<w.heap.size)):=by
 obtain ⟨A,c,e,h1,h2,r⟩:=x
 by_cases hn:0<xs.length
 ·obtain ⟨g,o,t,fr,cur,q1,q2,q3,q4,q5⟩:=r hn;exact ⟨g,⟨A,c,e,h1,h2,fun _=>⟨g,o,t,fr,cur,q1,Nat.le_refl _,Nat.lt_succ_self _,q4,q5⟩⟩,.inr ⟨q2,q3,q4.lt⟩⟩
 ·exact ⟨d,⟨A,c,e,h1,h2,fun h=>absurd h hn⟩,.inl rfl⟩
theorem ES (f:Ji->List Int×Bool) (cs:List Ji) {k:Nat} (hk:k<cs.length):trK f (cs.take (k+1))=if (f (cs.getD k default)).2=true then trK f (cs.take k)++[(f (cs.getD k default)).1] else trK f (cs.take k):=by
 have e:cs.getD k default=cs[k]:=by rw [gdq,geq hk];rfl
 unfold trK;rw [List.take_succ_eq_append_getElem hk,List.filterMap_append,e]
 by_cases h:(f cs[k]).2=true
 ·rw [if_pos h];simp [h]
 ·rw [if_neg h];simp [h]
theorem H9 {α:Type} [Inhabited α] {l:List α} {i:Nat} (h:i<l.length):l.getD i default∈l:=by
 rw [gdq,geq h];exact List.getElem_mem _
theorem GA (w:World) (u:Value) (t:TypeId):Src (w.alloc (.cells #[u] t)) (some ⟨w.heap.size,0,none⟩) 1 [u]:=fun _=>⟨_,rfl,fun j v hv=>by
 match j,hv with
 | 0,hv=>
  obtain rfl:=osl hv;exact Jl.cell (Jl.new w t #[u]) 0
 | j+1,hv=>simp at hv⟩
theorem Dz (f:Ji->List Int×Bool) (cs:List Ji):(trK f cs).length<=cs.length:=List.length_filterMap_le _ _
def I9 {w:World} {blk:Nat} (v:Value) (xs:LI) (g:Nat) (h1:v.oneCell'=true) (h2:OwF w g (g+1) v xs) (h3:g≠blk):RdV w blk:=⟨(v,xs,g),h1,h2,h3⟩
theorem IJ {wr:World} {base:Nat} {u:Value} {es:List Value} {rows:LL} {gs:Nat->Nat} (ho:wr.ownsRow base 35 1 u es.length es) (hlen:es.length=rows.length)
  (hr:∀ j (h:j<es.length),OwF wr (gs j) (gs j+1) es[j] (rows.getD j [])/\base<=gs j/\gs j<wr.heap.size/\u.ownBlock≠some (gs j)/\es[j].oneCell'=true) (hd:∀ i j,i<es.length->j<es.length->i≠j->gs i≠gs j)
  (hnd:rows.Nodup) (hl:∀ x∈rows,x.length<=1048576) (hpos:0<rows.length) (hsz:rows.length<=3000) :
  Calls Tryz.prog 33 #[u] wr fun e w'=>∃ v gO gs' us' rows',e = .returned v/\rows'.Perm rows/\rows'.Pairwise (fun x y=>leL x y=true)/\EP w' gO gs' us' v rows'/\(base<=gO/\gO<w'.heap.size)/\(∀ i,i<rows'.length->base<=gs' i/\gs' i<w'.heap.size)/\FrS (fun b=>b=gO) wr w':=by
 obtain ⟨_,⟨_,h0⟩ | ⟨g,cap,cur,rfl,hb,hB,hc1,hc2,hc3,hcur⟩⟩:=ho
 ·omega
 simp only [maxLen] at hc2;have hg:∀ j (h:j<es.length),gs j≠g:=fun j h e=>(hr j h).2.2.2.1 (by rw [e];rfl);obtain ⟨d,hdd⟩:∃ d:Array (RdV wr g),d=Array.ofFn (α:=RdV wr g) (n:=es.length) fun i=>I9 es[i] (rows.getD i []) (gs i) (hr i i.2).2.2.2.2 (hr i i.2).1 (hg i i.2):=⟨_,rfl⟩;have hds:d.size=es.length:=by rw [hdd,Array.size_ofFn]
 have hdi:∀ j (h:j<d.size),(d[j]).1=(es[j]'(by omega),rows.getD j [],gs j):=fun j h=>by
  subst hdd;rw [Array.getElem_ofFn]
  rfl
 have hml:d.toList.map qO=rows:=by
  refine List.ext_getElem (by simp [hds,hlen]) fun i h1 h2=>?_;rw [List.getElem_map];rw [Array.getElem_toList];show (d[i]'(by simpa using h1)).1.2.1=_;rw [hdi i (by simpa using h1),gdq,geq h2]
  rfl
 have hmg:(d.toList.map fun x=>x.1.2.2).Nodup:=by
  refine List.pairwise_iff_getElem.2 fun i j h1 h2 hij=>?_;rw [List.getElem_map,List.getElem_map,Array.getElem_toList,Array.getElem_toList,hdi i (by simpa using h1),hdi j (by simpa using h2)];exact hd i j (by rw [<- hds];simpa using h1) (by rw [<- hds];simpa using h2) (Nat.ne_of_lt hij)
 have hmem:∀ x∈d.toList,base<=x.1.2.2/\x.1.2.2<wr.heap.size:=fun x hx=>by
  obtain ⟨i,hi,rfl⟩:=List.getElem_of_mem hx;rw [Array.getElem_toList,hdi i (by simpa using hi)];have := hr i (by rw [<- hds];simpa using hi);exact ⟨this.2.1,this.2.2.1⟩
 rw [Nat.mul_one] at hc3 hcur;refine (zb (cap:=cap) (off:=0) (t:=35) (cs:=cur) hds (by omega) hB (by omega) (fun j hj=>?_) (by rw [hml];exact hnd) (fun x hx=>hl _ (by rw [<- hml];exact List.mem_map_of_mem hx)) ⟨hc1,hc2⟩ (by omega)).mono ?_
 ·rw [Nat.zero_add,getElem!_pos d j (by omega)];show _=some (d[j].1.1);rw [hdi j (by omega)];have e:cur.toList[j]? = es[j]? := by
   rw [<- hcur,List.getElem?_take_of_lt hj]
  rw [Array.getElem?_toList,geq hj] at e;exact e
 ·rintro e w' ⟨rfl,d',cs',hp,hs,hB',hcs,hfr⟩;have hds':d'.size=es.length:=by rw [<- hds];simpa using hp.length_eq
  have hel:∀ k,k<es.length->d'[k]! ∈ d'.toList:=fun k hk=>by
   rw [getElem!_pos d' k (by omega)];exact Array.getElem_mem_toList (by omega)
  have hgl:g<wr.heap.size:=(Array.getElem?_eq_some_iff.1 hB).1;have hsl:=hfr.size;have hll:(d'.toList.map qO).length=es.length:=by simp [hds']
  refine ⟨_,g,fun k=>d'[k]!.1.2.2,fun k=>ve d'[k]!,d'.toList.map qO,rfl,?_,hs,⟨some ⟨g,0,none⟩,cap,0,by rw [hll],by rw [hll];exact hc1,hc2,fun _=>⟨rfl,Nat.lt_of_lt_of_le hgl hsl⟩,fun i hi=>?_,fun i j hi hj hij=>?_⟩,⟨hb,Nat.lt_of_lt_of_le hgl hsl⟩,fun i hi=>?_,hfr⟩
  ·rw [<- hml];exact hp.map _
  ·rw [hll] at hi;refine ⟨?_,?_,d'[i]!.2.2.2,Nat.lt_of_lt_of_le (hmem _ (hp.mem_iff.1 (hel i hi))).2 hsl⟩
   ·rw [Jl.cell hB'];exact hcs i hi
   ·have e:(d'.toList.map qO).getD i []=qO d'[i]! := by
     rw [gdq,List.getElem?_map,Array.getElem?_toList,qJ (by omega)]
     rfl
    rw [e];have := d'[i]!.2.2.2;exact d'[i]!.2.2.1.keepS hfr fun k h1 h2 hk=>by omega
  ·rw [hll] at hi hj;have hn:(d'.toList.map fun x=>x.1.2.2).Nodup:=(hp.map _).nodup_iff.2 hmg;have key:∀ i j,i<j->i<es.length->j<es.length->d'[i]!.1.2.2≠d'[j]!.1.2.2:=fun i j hij hi hj=>by
    have := List.pairwise_iff_getElem.1 hn i j (by simp;omega) (by simp;omega) hij;rw [List.getElem_map,List.getElem_map,Array.getElem_toList,Array.getElem_toList] at this;rw [getElem!_pos d' i (by omega),getElem!_pos d' j (by omega)];exact this
   rcases Nat.lt_or_gt_of_ne hij with h | h
   ·exact key i j h hi hj
   ·exact fun e=>key j i h hj hi e.symm
  ·rw [hll] at hi;have := hmem _ (hp.mem_iff.1 (hel i hi));exact ⟨this.1,Nat.lt_of_lt_of_le this.2 hsl⟩
set_option maxHeartbeats 2000000 in
theorem GD {w:World} {p:List (List Ins)} {cs:List Ji} {f:Ji->List Int×Bool} {lo hi:Nat} {a:Value} (h:iO Ins.cells 4 w lo hi a p) (hhi:hi<=w.heap.size) (hv:az (mV p)=some true) (hcs:dh (mV p)=some cs) (hcl:cs.length<=3000)
  (hf:∀ c∈cs,av (mV p) c=some (f c)) (hl:∀ c∈cs,(f c).1.length<=1048576) (hnd:(trK f cs).Nodup) (hne:0<(trK f cs).length) :
  Calls Tryz.prog 9 #[a] w fun e w'=>(∃ v gO gs us rows,e = .returned v/\rows.Perm (trK f cs)/\rows.Pairwise (fun x y=>leL x y=true)/\EP w' gO gs us v rows/\(w.heap.size<=gO/\gO<w'.heap.size)/\∀ i,i<rows.length->w.heap.size<=gs i/\gs i<w'.heap.size)/\Below w.heap.size w w':=by
 have RP:=Lib.hid h;clear h;have HF:=Lib.hid hf;clear hf;have HL:=Lib.hid hl;clear hl;have HND:=Lib.hid hnd;clear hnd;have HV:=Lib.hid hv;clear hv;have HCS:=Lib.hid hcs;clear hcs;obtain ⟨i0,hi0,hz0,hz1,hz2⟩:=info_parts Tryz.infoIntS
 go_enter Tryz.func9,Tryz.ntmps9
 go_wp2_with fail
 refine (H7 HV.out RP.out).mono ?_;rintro e w1 ⟨rfl,hb1⟩;have RP1:=Lib.hid (RP.out.below hb1 hhi);have s1:=hb1.size;have HB1:=Lib.hid hb1;clear hb1
 go_wp2_with fail
 refine (H8 HCS.out RP1.out).mono ?_;rintro e w2 ⟨⟨v2,rfl,hE⟩,hb2⟩;have RP2:=Lib.hid (RP1.out.below hb2 (by omega));have s2:=hb2.size;have HB2:=Lib.hid (HB1.out.trans (hb2.mono s1));clear hb2;obtain ⟨A,c,b,o,us,vs,rfl,hc1,hc2,hA,hel⟩:=hE;have HA:=Lib.hid hA;clear hA;have HEL:=Lib.hid hel;clear hel
 go_wp2_with fail
 go_loopw [14,3] (fun i tr wr=>∃ (k:Nat) (es:List Value) (gs:Nat->Nat),k<=cs.length/\i = .int .i64 k/\wr.ownsRow w2.heap.size 35 1 tr es.length es/\es.length=(trK f (cs.take k)).length /\
   (∀ j (h:j<es.length),OwF wr (gs j) (gs j+1) es[j] ((trK f (cs.take k)).getD j [])/\w2.heap.size<=gs j/\gs j<wr.heap.size/\tr.ownBlock≠some (gs j)/\es[j].oneCell'=true)/\(∀ i j,i<es.length->j<es.length->i≠j->gs i≠gs j)/\Below w2.heap.size w2 wr) (fun i _ _=>cs.length-(intOf i).toNat)
 case atStart=>exact ⟨0,[],fun _=>0,Nat.zero_le _,rfl,⟨rfl,.inl ⟨rfl,rfl⟩⟩,rfl,fun j h=>absurd h (by simp),fun i j h=>absurd h (by simp),Below.refl _ _⟩
 case round=>
  obtain ⟨k,es,gs,hk,rfl,hown,hlen,hrow,hdis,hbl⟩:=hrel;have HO:=Lib.hid hown;clear hown;have HR:=Lib.hid hrow;clear hrow;have HD:=Lib.hid hdis;clear hdis
  by_cases hlt:k<cs.length
  ·obtain ⟨rfl,hbb⟩:=HA.out (by omega);obtain ⟨c0',c1',hx'⟩:=HEL.out k hlt;have c0:=(hbl.cell (p:=⟨b,o+k*2,none⟩) hbb).trans c0';have c1:=(hbl.cell (p:=⟨b,o+k*2+1,none⟩) hbb).trans c1';have i1:(0:Int)<=(k:Int):=by omega
   have i2:(k:Int)<(cs.length:Int):=by omega
   clear c0' c1';obtain ⟨A1,n1,d1,A2,n2,d2,he⟩:=hx'.form;simp only [Value.agg.injEq,Array.mk.injEq,List.cons.injEq,and_true] at he;obtain ⟨he1,he2⟩:=he;rw [he1] at c0;rw [he2] at c1;rw [he1,he2] at hx';have HX:=Lib.hid (hx'.below hbl (Nat.le_refl _));clear hx';clear he1 he2;have RPr:=Lib.hid (RP2.out.below hbl (by omega));have hbs:=hbl.size;have BK:=Lib.hid (fun (cells:Array Value) (t:TypeId)=>show Jl (wr.alloc (.cells cells t)) wr.heap.size t cells from Jl.new _ _ _);have BA:=Lib.hid (fun ob:Obj=>(Below.refl wr.heap.size wr).alloc (Nat.le_refl _) ob);obtain ⟨y,hy⟩:∃ y,y=f (cs.getD k default):=⟨_,rfl⟩;have hfk:=HF.out _ (H9 hlt);have hyl:=HL.out _ (H9 hlt);have hks:=ES f cs hlt;rw [<- hy] at hfk hyl hks;clear hy;have HFK:=Lib.hid hfk;clear hfk
   go_wp2_with fail
   refine (H6 HFK.out (RPr.out.below (BA.out _) (by omega)) (HX.out.below (BA.out _) (by omega))).mono ?_;rintro e w3 ⟨⟨v3,rfl,hS⟩,hb3⟩;have hkl:=Dz f (cs.take k);rw [List.length_take] at hkl;simp only [World.size_alloc] at hS;obtain ⟨g,hg,hgw⟩:=hS.one wr.heap.size;obtain ⟨A3,c3,rfl,_⟩:=hS;have hb3s:=hb3.size;simp only [World.size_alloc] at hb3s;have HG:=Lib.hid hg;clear hg;have HB3:=Lib.hid ((BA.out _).trans (hb3.mono (by simp)));clear hb3;have HO3:=Lib.hid (Dy HO.out HB3.out);have hol:=HO.out.lt;have hw23:Below w2.heap.size w2 w3:=hbl.trans (HB3.out.mono hbs)
   cases hbb3:y.2 with
   | false=>
    rw [hbb3,if_neg (by decide)] at hks
    go_wp2_with fail
    go_roundw
    case rel=>
     refine ⟨k+1,es,gs,by omega,by go_num,HO3.out,by rw [hks];exact hlen,fun j hj=>?_,HD.out,hw23⟩;obtain ⟨r1,r2,r3,r4,r5⟩:=HR.out j hj;rw [hks];exact ⟨r1.below HB3.out (by omega),r2,by omega,r4,r5⟩
    case measure=>simp [intOf];omega
   | true=>
    rw [hbb3,if_pos rfl] at hks;have NB:=Lib.hid (fun ob:Obj=>HO3.out.alloc ob);have SRC:=Lib.hid (GA w3);have hel3:es.length<=3000:=by omega
    go_wp2_with (at_builtin;refine pU _ rfl (.tmp 25) (.tmp 27) 24 rfl w2.heap.size 35 i0 _ 1 24 Tryz.underlying24 hi0 hz0 hz1 hz2 rfl (by omega) _ es.length es rfl (NB.out _) (some ⟨w3.heap.size,0,none⟩) 1 1 [_] rfl rfl (SRC.out _ _) (by intro u hu;rw [List.mem_singleton] at hu;subst hu;rfl) (by simp only [maxLen];omega) (by omega) (by simp;omega) ?_;intro v' w4 hown hgrow hat)
    have hal:∀ ob:Obj,(w3.alloc ob).heap.size=w3.heap.size+1:=fun ob=>by simp
    rw [hal] at hat;have BA3:=fun ob:Obj=>(Below.refl w3.heap.size w3).alloc (Nat.le_refl _) ob;have h4s:=hgrow.size;rw [hal] at h4s;have hg2:wr.heap.size<=g/\g<w3.heap.size:=by
     rcases hgw with e | ⟨e1,e2,_⟩
     ·rw [e];exact ⟨Nat.le_refl _,hb3s⟩
     ·exact ⟨Nat.le_of_succ_le e1,e2⟩
    have hog:u3.ownBlock≠some g:=fun e=>by have := (hol g e).2;omega
    refine ⟨⟨k+1,es++[.slice A3 y.1.length c3],upd gs es.length g,by omega,by go_num,?_,?_,fun j hj=>?_,fun i j hi hj hij=>?_,?_⟩,by simp [intOf];omega⟩
    ·simpa using hown
    ·rw [hks,lla,lla,hlen]
     rfl
    ·rw [lla,List.length_singleton] at hj;rw [hks]
     by_cases e:j<es.length
     ·obtain ⟨r1,r2,r3,r4,r5⟩:=HR.out j e;rw [upd_ne _ _ (by omega),List.getElem_append_left e,gdq,gal (by omega),<- gdq];refine ⟨((r1.below HB3.out (by omega)).below (BA3 _) (by omega)).grown hgrow r4,r2,by omega,?_,r5⟩;rcases hat with e2 | e2
      ·rw [e2];exact r4
      ·rw [e2];intro e3;have := osl e3;omega
     ·obtain rfl:j=es.length:=by omega
      rw [upd_same,List.getElem_append_right (Nat.le_refl _),gdq,gar (by omega)];simp only [Nat.sub_self,hlen,List.getElem_cons_zero,List.getElem?_cons_zero,Option.getD_some];refine ⟨(HG.out.below (BA3 _) (by omega)).grown hgrow hog,by omega,by omega,?_,rfl⟩;rcases hat with e2 | e2
      ·rw [e2];exact hog
      ·rw [e2];intro e3;have := osl e3;omega
    ·rw [lla,List.length_singleton] at hi hj
     by_cases ei:i=es.length
     ·subst ei;rw [upd_same,upd_ne _ _ (by omega)];have := (HR.out j (by omega)).2.2.1;omega
     ·rw [upd_ne _ _ ei];have := (HR.out i (by omega)).2.2.1
      by_cases ej:j=es.length
      ·subst ej;rw [upd_same];omega
      ·rw [upd_ne _ _ ej];exact HD.out i j (by omega) (by omega) hij
    ·exact (hw23.trans ((BA3 _).mono hw23.size)).grown hgrow (by rw [hal];have := hw23.size;omega) (fun q hq=>(hol q hq).1)
  ·have hkx:k=cs.length:=by omega
   subst hkx
   go_wp2_with fail
   rw [List.take_length] at hlen;simp only [List.take_length] at HR;have hkl:=Dz f cs;have HN:=hne;refine (IJ HO.out hlen HR.out HD.out HND.out (fun x hx=>?_) hne (by omega)).mono ?_
   ·obtain ⟨y,hy,e⟩:=List.mem_filterMap.1 hx
    split at e
    ·obtain rfl:=osl e;exact HL.out y hy
    ·cases e
   ·rintro e w4 ⟨v4,gO,gs',us',rows',rfl,hp,hs,ho4,hO,hgs,hfr⟩;have hbls:=hbl.size;have hb4:Below w2.heap.size wr w4:=⟨hfr.os,hfr.tape,hfr.output,hfr.size,fun q hq=>hfr.block q (by omega) (by omega)⟩;have HF4:=Lib.hid ho4;clear ho4;have HP4:=Lib.hid hp;clear hp;have HS4:=Lib.hid hs;clear hs;have HG4:=Lib.hid hgs;clear hgs;have HB4:=Lib.hid (hbl.trans hb4);clear hb4 hfr
    go_wp2_with fail
    go_ret
    refine ⟨⟨_,gO,gs',us',rows',rfl,HP4.out,HS4.out,HF4.out,⟨by omega,hO.2⟩,fun i hi=>⟨Nat.le_trans (Nat.le_trans s1 s2) (HG4.out i hi).1,(HG4.out i hi).2⟩⟩,HB2.out.trans (HB4.out.mono (Nat.le_trans s1 s2))⟩
def iX (a:LI) (b:LI):Int->Option (Int ⊕ (Unit ⊕ Bool)):=fun s5=>
 bif decide (s5<(a.length:Int)) then
  gd (decide (0<=s5/\s5<(a.length:Int))) <|
  gd (decide (0<=s5/\s5<(b.length:Int))) <|
  bif ((a.getD s5.toNat default) != (b.getD s5.toNat default)) then
   some (.inr (.inr false))
  else
   gd (Jf .i64 (s5+(1:Int))) <|
   some (.inl (s5+(1:Int)))
 else
  some (.inr (.inl ()))
def jk (a:LI) (b:LI):Option Bool:=
 bif ((a.length:Int) != (b.length:Int)) then
  some false
 else
  sumK (
   loopO (iX a b) (0:Int)
  ) fun s2=>
  some true
def iB (a:LL) (b:LL):Int->Option (Int ⊕ (Unit ⊕ Bool)):=fun s5=>
 bif decide (s5<(a.length:Int)) then
  gd (decide (0<=s5/\s5<(a.length:Int))) <|
  gd (decide (0<=s5/\s5<(b.length:Int))) <|
  Option.bind (jk (a.getD s5.toNat default) (b.getD s5.toNat default)) fun v10=>
  bif !v10 then
   some (.inr (.inr false))
  else
   gd (Jf .i64 (s5+(1:Int))) <|
   some (.inl (s5+(1:Int)))
 else
  some (.inr (.inl ()))
def kz (a:LL) (b:LL):Option Bool:=
 bif ((a.length:Int) != (b.length:Int)) then
  some false
 else
  sumK (
   loopO (iB a b) (0:Int)
  ) fun s2=>
  some true
def ko (a:LI):(Int×Int)->Option ((Int×Int) ⊕ (Int ⊕ Int)):=fun s4=>
 bif decide (s4.1<(a.length:Int)) then
  gd (decide (0<=s4.1/\s4.1<(a.length:Int))) <|
  bif ((a.getD s4.1.toNat default) != s4.2) then
   some (.inr (.inr (-1:Int)))
  else
   gd (Jf .i64 (s4.2+(1:Int))) <|
   gd (Jf .i64 (s4.1+(1:Int))) <|
   some (.inl ((s4.1+(1:Int)),(s4.2+(1:Int))))
 else
  some (.inr (.inl s4.2))
def gX (a:LI) (k_:Int):Option Int:=
 sumK (
  loopO (ko a) ((0:Int),k_)
 ) fun s1=>
 some s1
def jK (a:LL):(Int×Int)->Option ((Int×Int) ⊕ (Int ⊕ Int)):=fun s4=>
 bif decide (s4.1<(a.length:Int)) then
  gd (decide (0<=s4.1/\s4.1<(a.length:Int))) <|
  Option.bind (gX (a.getD s4.1.toNat default) s4.2) fun v8=>
  bif decide (v8<(0:Int)) then
   some (.inr (.inr (-1:Int)))
  else
   gd (Jf .i64 (s4.1+(1:Int))) <|
   some (.inl ((s4.1+(1:Int)),v8))
 else
  some (.inr (.inl s4.2))
def iY (a:LL) (k_:Int):Option Int:=
 sumK (
  loopO (jK a) ((0:Int),k_)
 ) fun s1=>
 some s1
theorem A7 (a:LI) (h:a.length<=4000000):Jo (jk a a) (· = true):=by
 unfold jk;refine .bif (fun h=>by simp at h) fun _=>?_;refine Jo.sum (PS:=fun _=>True) (PW:=(· = true)) ((Fb (a:=a) (b:=a) rfl (bad:=false) (fun i h1 h2=>?_) fun i hi=>?_).mono fun v hv=>by rw [hv,if_pos rfl];trivial) fun _ _ => .pure rfl
 ·unfold iX;exact .bifD (fun _ => .gdD ⟨h1,h2⟩ (.gdD ⟨h1,h2⟩ (.bif (fun h=>by simp at h) fun _ => .gdI (by omega) (.pure (by rw [if_pos rfl]))))) fun h=>absurd h2 h
 ·unfold iX;rw [decide_eq_false hi]
  rfl
theorem zf (a:LL) (h:a.length<=4000000) (hr:∀ i:Nat,(a.getD i default).length<=4000000):Jo (kz a a) (· = true):=by
 unfold kz;refine .bif (fun h=>by simp at h) fun _=>?_;refine Jo.sum (PS:=fun _=>True) (PW:=(· = true)) ((Fb (a:=a) (b:=a) rfl (bad:=false) (fun i h1 h2=>?_) fun i hi=>?_).mono fun v hv=>by rw [hv,if_pos rfl];trivial) fun _ _ => .pure rfl
 ·unfold iB;exact .bifD (fun _ => .gdD ⟨h1,h2⟩ (.gdD ⟨h1,h2⟩ ((A7 _ (hr _)).bind fun v hv => .bif (fun h=>by rw [hv] at h;simp at h) fun _ => .gdI (by omega) (.pure (by rw [if_pos rfl]))))) fun h=>absurd h2 h
 ·unfold iB;rw [decide_eq_false hi]
  rfl
theorem DC {k:Int} {n:Nat} (hk0:0<=k) (hk1:k+n<=1000000000):Jo (gX (gW k n) k) (· = k+n):=by
 have hl:=ni k n;unfold gX;refine Jo.sum (PS:=(· = k+(n:Int))) (PW:=(· = k+(n:Int))) ?_ fun s hs => .pure hs;refine Jo.loop (fun z=>∃ i:Nat,i<=n/\z.1=(i:Int)/\z.2=k+(i:Int)) (fun z=>((n:Int)-z.1).toNat) ⟨0,by omega,rfl,by simp⟩ fun z ⟨i,h1,h2,h3⟩ => ?_;obtain ⟨z1,z2⟩:=z;simp only at h2 h3;subst h2 h3;unfold ko;refine .bifD (fun hk=>?_) fun hk => .pure ?_
 ·simp only [hl] at hk;have hi:i<n:=by omega
  have e:(gW k n).getD i default=k+(i:Int):=by
   rw [gdq,geq (by omega)];exact tG k n i (by omega)
  simp only [tnn,hl,e];exact .gdD ⟨by omega,by omega⟩ (.bif (fun h=>by simp at h) fun _ => .gdI (by omega) (.gdI (by omega) (.pure ⟨⟨i+1,by omega,rfl,by simp only [];omega⟩,by simp only [];omega⟩)))
 ·simp only [hl] at hk;have : i=n:=by omega
  subst this
  rfl
theorem A8 {k:Int} {rows:LL} (hk0:0<=k) (hk1:k+total rows<=1000000000) (hrl:rows.length<=1000000000):Jo (iY (fJ k rows) k) (· = k+total rows):=by
 have hl:=eH k rows;unfold iY;refine Jo.sum (PS:=(· = k+(total rows:Int))) (PW:=(· = k+(total rows:Int))) ?_ fun s hs => .pure hs;refine Jo.loop (fun z=>∃ i:Nat,i<=rows.length/\z.1=(i:Int)/\z.2=k+(total (rows.take i):Int)) (fun z=>((rows.length:Int)-z.1).toNat) ⟨0,by omega,rfl,by simp [total]⟩ fun z ⟨i,h1,h2,h3⟩ => ?_;obtain ⟨z1,z2⟩:=z;simp only at h2 h3;subst h2 h3;unfold jK;refine .bifD (fun hk=>?_) fun hk => .pure ?_
 ·simp only [hl] at hk;have hi:i<rows.length:=by omega
  have e:(fJ k rows).getD i default=gW (k+(total (rows.take i):Int)) (rows.getD i []).length:=qL k rows hi;have hT:total (rows.take (i+1))=total (rows.take i)+(rows.getD i []).length:=by
   rw [cW rows i hi];have : rows.getD i []=rows[i]:=by simp [hi]
   rw [this]
  have hT1:=gu rows (i+1);simp only [tnn,hl,e];refine .gdD ⟨by omega,by omega⟩ ((DC (by omega) (by omega)).bind fun v hv => .bifD (fun h=>absurd h (by omega)) fun _ => .gdI (by omega) (.pure ⟨⟨i+1,by omega,rfl,by simp only [];omega⟩,by simp only [];omega⟩))
 ·simp only [hl] at hk;have : i=rows.length:=by omega
  subst this;show k+_=_;rw [List.take_length]
theorem zg {α:Type}:∀ {cs:List (List α)},(∀ c∈cs,c.Nodup)->(ja cs).Nodup
 | [],_=>by
  show ([[]]:List (List α)).Nodup;simp
 | c::cs,h=>by
  show (c.flatMap fun y=>(ja cs).map (y :: ·)).Nodup;refine List.pairwise_flatMap.2 ⟨fun y _=>?_,?_⟩
  ·exact List.pairwise_map.2 ((zg fun d hd=>h d (List.mem_cons_of_mem _ hd)).imp fun hne e=>hne (List.cons.inj e).2)
  ·refine List.Pairwise.imp (fun hne x hx y hy e=>?_) (h c List.mem_cons_self);obtain ⟨a,_,rfl⟩:=List.mem_map.1 hx;obtain ⟨b,_,rfl⟩:=List.mem_map.1 hy;exact hne (List.cons.inj e).1
theorem Fx:∀ (n:Nat) (l:LI),l.length=n->l.Nodup->(prm n l).Nodup
 | 0,_,_,_=>by
  show ([[]]:LL).Nodup;simp
 | n+1,l,hl,hn=>by
  show ((List.range l.length).flatMap fun i=>(prm n (l.take i++l.drop (i+1))).map (l.getD i default :: ·)).Nodup;refine List.pairwise_flatMap.2 ⟨fun i hi=>?_,?_⟩
  ·have hi':=List.mem_range.1 hi;have h2:=(wm hi').nodup_iff.2 hn;exact List.pairwise_map.2 ((Fx n _ (by rw [lla,List.length_take,List.length_drop];omega) (List.nodup_cons.1 h2).2).imp fun hne e=>hne (List.cons.inj e).2)
  ·refine List.Pairwise.imp_of_mem (fun {i j} hi hj hne x hx y hy e=>?_) List.nodup_range;have hi':=List.mem_range.1 hi;have hj':=List.mem_range.1 hj;obtain ⟨a,_,rfl⟩:=List.mem_map.1 hx;obtain ⟨b,_,rfl⟩:=List.mem_map.1 hy;have e1:=(List.cons.inj e).1;rw [gdq,gdq,geq hi',geq hj'] at e1;exact hne ((List.getElem_inj hn).1 e1)
section
variable {p:List (List Jh)}
theorem Ia (i:Nat):(chE p i).Nodup:=by
 unfold chE
 split
 ·exact List.Pairwise.filter _ (zV _)
 ·simp
theorem DD (l:Nat):(chL p l).Nodup:=by
 unfold chL;exact List.pairwise_map.2 ((Fx _ _ rfl ((zV (p:=p) (l:Int)).sublist (List.tail_sublist _))).imp fun hne e=>hne (List.cons.inj e).2)
theorem ET:(bM p).Nodup:=by
 unfold bM;refine List.pairwise_flatMap.2 ⟨fun f _=>?_,?_⟩
 ·refine List.pairwise_map.2 ((zg fun c hc=>?_).imp fun hne e=>hne (Ji.mk.inj e).2);unfold Js at hc;simp only [List.mem_cons,List.not_mem_nil,or_false] at hc;rcases hc with rfl | rfl | rfl
  ·exact DD 0
  ·exact DD 1
  ·exact DD 2
 ·refine List.Pairwise.imp (fun hne x hx y hy e=>?_) (zg (cs:=chF p) fun c hc=>?_)
  ·obtain ⟨a,_,rfl⟩:=List.mem_map.1 hx;obtain ⟨b,_,rfl⟩:=List.mem_map.1 hy;exact hne (Ji.mk.inj e).1
  ·unfold chF at hc;obtain ⟨i,_,rfl⟩:=List.mem_map.1 hc;exact Ia i
theorem EU (hp:PV p) {s:LI} (hg:Good p s s.length) (hcn:∀ t:Nat,t<p.length->s.count (t:Int)<=(p.getD t default).length):s.length<=21:=by
 have hl:=hp.vs.1;have key:∀ s:LI,(∀ v∈s,0<=v/\v<3)->s.length=s.count 0+s.count 1+s.count 2:=fun s=>by
  induction s with
  | nil=>intro _;rfl
  | cons a l ih=>
   intro h;have h1:=ih fun v hv=>h v (List.mem_cons_of_mem _ hv);have h2:=h a List.mem_cons_self;rw [llc,List.count_cons,List.count_cons,List.count_cons];simp only [beq_iff_eq];rcases (by omega:a=0\/a=1\/a=2) with rfl | rfl | rfl <;> simp <;> omega
 have hin:∀ v∈s,0<=v/\v<(p.length:Int):=fun v hv=>by
  obtain ⟨i,hi,e⟩:=List.getElem_of_mem hv;have := (hg i hi).1;rw [gdq,geq hi] at this;rw [<- e];exact this
 have := key s fun v hv=>by have := hin v hv;omega
 have hc:∀ t:Nat,s.count (t:Int)<=7:=fun t=>by
  by_cases ht:t<p.length
  ·exact Nat.le_trans (hcn t ht) (hp.vs.2 t)
  ·rw [List.count_eq_zero.2 fun hm=>by have := hin _ hm;omega];omega
 have c0:s.count 0<=7:=hc 0;have c1:s.count 1<=7:=hc 1;have c2:s.count 2<=7:=hc 2;omega
theorem A9 (hv:aZ (Jt p)=true):∃ s,Whole p s:=by
 have key:∀ n:Nat,(∃ s,Whole p s)\/∃ s,Good p s s.length/\(∀ t:Nat,t<p.length->s.count (t:Int)<=(p.getD t default).length)/\s.length=n:=fun n=>by
  induction n with
  | zero=>exact .inr ⟨[],fun j hj=>absurd hj (by simp),fun t _=>by simp,rfl⟩
  | succ n ih=>
   rcases ih with h | ⟨s,hg,hc,hl⟩
   ·exact .inl h
   ·by_cases ha:∀ t:Nat,t<p.length->s.count (t:Int)=(p.getD t default).length
    ·exact .inl ⟨s,hv,hg,ha⟩
    ·obtain ⟨t,ha⟩:=Classical.not_forall.1 ha;obtain ⟨ht,hne⟩:=Classical.not_imp.1 ha;have hlt:s.count (t:Int)<(p.getD t default).length:=by have := hc t ht;omega
     refine .inr ⟨s++[(t:Int)],Dk hg ht hlt,fun u hu=>?_,by simp [hl]⟩;rw [List.count_append,List.count_singleton];have := hc u hu
     by_cases e:t=u
     ·subst e;rw [if_pos (by simp)];omega
     ·have e3:((t:Int)==(u:Int))=false:=by simp;omega
      rw [e3,if_neg (by decide)];omega
 have hp:=PV.of hv;have hpl:=hp.vs.1;rcases key 1000 with h | ⟨s,hg,hc,hl⟩
 ·exact h
 ·exfalso;have := EU hp hg hc;omega
end
theorem tP (a:LI) (b:LI) {q:Bool} (h:jk a b=some q):aJ Tryz.prog 34 [eL cI a,eL cI b] (Bo q):=by
 refine pM Tryz.func34 rfl (by kernel_rfl) rfl (T.sr (oN as' (TO.nil (T.seq (T.sr (oN mv (oN (Je.lenL bh rfl) (oN mv (oN (Je.lenL bh rfl) (oN (Je.ine rfl rfl) (TO.nil ?_)))))))))));refine T.ifH rfl h (fun q1 h=>?_) (fun q1 h=>?_)
 ·refine T.sr (oN as' (TO.nil (T.ret ?_)));obtain rfl:=Jg h;exact fB rfl rfl rfl
 ·refine T.skip ?_;obtain ⟨Ks2,es2,ws2,h,ks2⟩:=sumL h;refine T.join (S:=Unit) (G:=Unit) (fun s2=>Ks2 s2=some q) (fun s2 gh=>True) (fun s2 gh=>[]) (fun s2 gh=>[]) (fun s2 gh h hg=>?_) ?_
  ·clear ks2;subst es2;refine T.sr (oN as' (TO.nil (T.ret ?_)));obtain rfl:=Jg h;exact fB rfl rfl rfl
  ·refine T.sr (oN as' (TO.nil (T.block ?_)));refine T.lU h (fun s5=>[(5,I s5),(0,eL cI a),(1,eL cI b)]) (fun s5=>[]) (kw rfl rfl) (fun s5 ws5 h=>?_);refine T.seq (T.sr (oN mv (oN mv (oN (Je.lenL bh rfl) (oN (Je.ilt rfl rfl) (TO.nil ?_))))));refine T.ifH rfl h (fun q7 h=>?_) (fun q7 h=>?_)
   ·refine T.skip (T.seq (T.block (T.seq (T.drawF (fun _=>([],false)) (by kernel_rfl) (by kernel_rfl) (fN rfl mv (fN rfl mv (jD h fun g8 h=>fN rfl (Je.ixL bh rfl rfl g8 (fun _=>rfl)) (fN rfl (lf (I (a.getD s5.toNat default)) Ju rfl) (fN rfl mv (fN rfl mv (jD h fun g9 h=>fN rfl (Je.ixL bh rfl rfl g9 (fun _=>rfl)) (fN rfl (lf (I (b.getD s5.toNat default)) Ju rfl) (fN rfl (Je.ine rfl rfl) ?_)))))))))))));refine TF.nil ?_;refine T.ifH rfl h (fun q10 h=>?_) (fun q10 h=>?_)
    ·refine T.seq (T.clean (H0:=[]) (e0:=ae []) rfl Jc (T.region (oN as' (TO.nil (T.ret (lX h fun h=>?_))))));obtain rfl:=Jg h;replace h:=congrArg some (show _=_ from ks2);obtain rfl:=Jg h;exact fB rfl rfl rfl
    ·refine T.skip (T.region (oN mv (jW h fun g11 h=>oN (Je.add rfl rfl g11) (oN as' (TO.nil ?_)))));exact lE h (kw rfl rfl)
   ·refine T.exit (lX h fun h=>?_);obtain rfl:=Jg h;exact ⟨(),(),ks2,trivial,kw rfl rfl⟩
theorem qW (a:LL) (b:LL) {q:Bool} (h:kz a b=some q):aJ Tryz.prog 10 [eL (cL cI) a,eL (cL cI) b] (Bo q):=by
 refine pM Tryz.func10 rfl (by kernel_rfl) rfl (T.sr (oN as' (TO.nil (T.seq (T.sr (oN mv (oN (Je.lenL bR rfl) (oN mv (oN (Je.lenL bR rfl) (oN (Je.ine rfl rfl) (TO.nil ?_)))))))))));refine T.ifH rfl h (fun q1 h=>?_) (fun q1 h=>?_)
 ·refine T.sr (oN as' (TO.nil (T.ret ?_)));obtain rfl:=Jg h;exact fB rfl rfl rfl
 ·refine T.skip ?_;obtain ⟨Ks2,es2,ws2,h,ks2⟩:=sumL h;refine T.join (S:=Unit) (G:=Unit) (fun s2=>Ks2 s2=some q) (fun s2 gh=>True) (fun s2 gh=>[]) (fun s2 gh=>[]) (fun s2 gh h hg=>?_) ?_
  ·clear ks2;subst es2;refine T.sr (oN as' (TO.nil (T.ret ?_)));obtain rfl:=Jg h;exact fB rfl rfl rfl
  ·refine T.sr (oN as' (TO.nil (T.block ?_)));refine T.lU h (fun s5=>[(5,I s5),(0,eL (cL cI) a),(1,eL (cL cI) b)]) (fun s5=>[]) (kw rfl rfl) (fun s5 ws5 h=>?_);refine T.seq (T.sr (oN mv (oN mv (oN (Je.lenL bR rfl) (oN (Je.ilt rfl rfl) (TO.nil ?_))))));refine T.ifH rfl h (fun q7 h=>?_) (fun q7 h=>?_)
   ·refine T.skip (T.seq (T.block (T.seq (T.drawF (fun _=>([],false)) (by kernel_rfl) (by kernel_rfl) (fN rfl mv (fN rfl mv (jD h fun g8 h=>fN rfl (Je.ixL bR rfl rfl g8 (fun _=>rfl)) (fN rfl (lf (eL cI (a.getD s5.toNat default)) jm rfl) (fN rfl mv (fN rfl mv (jD h fun g9 h=>fN rfl (Je.ixL bR rfl rfl g9 (fun _=>rfl)) (fN rfl (lf (eL cI (b.getD s5.toNat default)) jm rfl) (fC h (fun _=>tP _ _) rfl rfl rfl rfl rfl fun v10 _ h=>?_)))))))))))));refine fN rfl (Je.not rfl) (TF.nil ?_);refine T.ifH rfl h (fun q11 h=>?_) (fun q11 h=>?_)
    ·refine T.seq (T.clean (H0:=[]) (e0:=ae []) rfl Jc (T.region (oN as' (TO.nil (T.ret (lX h fun h=>?_))))));obtain rfl:=Jg h;replace h:=congrArg some (show _=_ from ks2);obtain rfl:=Jg h;exact fB rfl rfl rfl
    ·refine T.skip (T.region (oN mv (jW h fun g12 h=>oN (Je.add rfl rfl g12) (oN as' (TO.nil ?_)))));exact lE h (kw rfl rfl)
   ·refine T.exit (lX h fun h=>?_);obtain rfl:=Jg h;exact ⟨(),(),ks2,trivial,kw rfl rfl⟩
theorem qq (a:LI) (k_:Int) {q:Int} (h:gX a k_=some q):aJ Tryz.prog 38 [eL cI a,I k_] (I q):=by
 refine pM Tryz.func38 rfl (by kernel_rfl) rfl (T.sr (oN as' (TO.nil ?_)));obtain ⟨Ks1,es1,ws1,h,ks1⟩:=sumL h;refine T.join (S:=Int) (G:=Unit) (fun s1=>Ks1 s1=some q) (fun s1 gh=>True) (fun s1 gh=>[(1,I s1)]) (fun s1 gh=>[]) (fun s1 gh h hg=>?_) ?_
 ·clear ks1;subst es1;refine T.sr (oN mv (oN as' (TO.nil (T.ret ?_))));obtain rfl:=Jg h;exact fB rfl rfl rfl
 ·refine T.sr (oN as' (TO.nil (T.block ?_)));refine T.lU h (fun s4=>[(5,I s4.1),(0,eL cI a),(1,I s4.2)]) (fun s4=>[]) (kw rfl rfl) (fun s4 ws4 h=>?_);refine T.seq (T.sr (oN mv (oN mv (oN (Je.lenL bh rfl) (oN (Je.ilt rfl rfl) (TO.nil ?_))))));refine T.ifH rfl h (fun q6 h=>?_) (fun q6 h=>?_)
  ·refine T.skip (T.seq (T.block (T.seq (T.sr (oN mv (oN mv (jD h fun g7 h=>oN (Je.ixL bh rfl rfl g7 (fun _=>rfl)) (oN (lf (I (a.getD s4.1.toNat default)) Ju rfl) (oN mv (oN (Je.ine rfl rfl) (TO.nil ?_)))))))))));refine T.ifH rfl h (fun q8 h=>?_) (fun q8 h=>?_)
   ·refine T.sr (oN as' (TO.nil (T.ret (lX h fun h=>?_))));obtain rfl:=Jg h;replace h:=congrArg some (show _=_ from ks1);obtain rfl:=Jg h;exact fB rfl rfl rfl
   ·refine T.skip (T.region (oN mv (jW h fun g9 h=>oN (Je.add rfl rfl g9) (oN as' (TO.nil (T.region (oN mv (jW h fun g10 h=>oN (Je.add rfl rfl g10) (oN as' (TO.nil ?_))))))))));exact lE h (kw rfl rfl)
  ·refine T.exit (lX h fun h=>?_);obtain rfl:=Jg h;exact ⟨s4.2,(),ks1,trivial,kw rfl rfl⟩
theorem o8 (a:LL) (k_:Int) {q:Int} (h:iY a k_=some q):aJ Tryz.prog 14 [eL (cL cI) a,I k_] (I q):=by
 refine pM Tryz.func14 rfl (by kernel_rfl) rfl (T.sr (oN as' (TO.nil ?_)));obtain ⟨Ks1,es1,ws1,h,ks1⟩:=sumL h;refine T.join (S:=Int) (G:=Unit) (fun s1=>Ks1 s1=some q) (fun s1 gh=>True) (fun s1 gh=>[(1,I s1)]) (fun s1 gh=>[]) (fun s1 gh h hg=>?_) ?_
 ·clear ks1;subst es1;refine T.sr (oN mv (oN as' (TO.nil (T.ret ?_))));obtain rfl:=Jg h;exact fB rfl rfl rfl
 ·refine T.sr (oN as' (TO.nil (T.block ?_)));refine T.lU h (fun s4=>[(5,I s4.1),(0,eL (cL cI) a),(1,I s4.2)]) (fun s4=>[]) (kw rfl rfl) (fun s4 ws4 h=>?_);refine T.seq (T.sr (oN mv (oN mv (oN (Je.lenL bR rfl) (oN (Je.ilt rfl rfl) (TO.nil ?_))))));refine T.ifH rfl h (fun q6 h=>?_) (fun q6 h=>?_)
  ·refine T.skip (T.seq (T.block (T.sr (oN mv (oN mv (jD h fun g7 h=>oN (Je.ixL bR rfl rfl g7 (fun _=>rfl)) (oN (lf (eL cI (a.getD s4.1.toNat default)) jm rfl) (oN mv (oC h (fun _=>qq _ _) rfl rfl rfl rfl fun v8 _ h=>oN as' (TO.nil (T.sr (oN mv (oN (Je.ilt rfl rfl) ?_)))))))))))));refine TO.nil ?_;refine T.ifH rfl h (fun q9 h=>?_) (fun q9 h=>?_)
   ·refine T.seq (T.clean (H0:=[]) (e0:=ae []) rfl Jc (T.region (oN as' (TO.nil (T.ret (lX h fun h=>?_))))));obtain rfl:=Jg h;replace h:=congrArg some (show _=_ from ks1);obtain rfl:=Jg h;exact fB rfl rfl rfl
   ·refine T.skip (T.region (oN mv (jW h fun g10 h=>oN (Je.add rfl rfl g10) (oN as' (TO.nil ?_)))));exact lE h (kw rfl rfl)
  ·refine T.exit (lX h fun h=>?_);obtain rfl:=Jg h;exact ⟨s4.2,(),ks1,trivial,kw rfl rfl⟩
def OwT (w:World) (lo hi:Nat) (v:Value) (rows:LL):Prop:=
 ∃ gO gs us,EP w gO gs us v rows/\(0<rows.length->lo<=gO/\gO<hi)/\∀ i,i<rows.length->lo<=gs i/\gs i<hi
section
variable {w w':World} {lo hi l h B:Nat} {v:Value} {rows:LL}
theorem OwT.keep (x:OwT w lo hi v rows) (hs:w.heap.size<=w'.heap.size) (hk:∀ b,b<w.heap.size->lo<=b->b<hi->w'.heap[b]? = w.heap[b]?):OwT w' lo hi v rows:=by
 obtain ⟨gO,gs,us,h1,h2,h3⟩:=x;refine ⟨gO,gs,us,h1.keep hs fun k hb hS=>?_,h2,h3⟩;rcases hS with ⟨h0,rfl⟩ | ⟨i,hi',rfl⟩
 ·exact hk _ hb (h2 h0).1 (h2 h0).2
 ·exact hk _ hb (h3 i hi').1 (h3 i hi').2
theorem OwT.below (x:OwT w lo hi v rows) (b:Below B w w') (hB:hi<=B):OwT w' lo hi v rows:=x.keep b.size fun k _ _ h2=>b.block k (by omega)
theorem OwT.fr (x:OwT w lo hi v rows) (b:Fr l h w w') (hB:hi<=l\/h<=lo):OwT w' lo hi v rows:=x.keep b.size fun k hk h1 h2=>b.block k hk (by omega)
theorem OwT.sl (x:OwT w lo hi v rows):iO lM 1 w lo hi v rows:=by
 obtain ⟨gO,gs,us,⟨A,c,o,e2,hc,hm,hA,hR,_⟩,h4,h5⟩:=x;refine ⟨(List.range rows.length).map us,⟨A,c,by simpa using e2,by simpa using hc,hm,fun hn=>?_⟩,by simp,fun k hk hk' => ?_⟩
 ·simp only [llm,List.length_range] at hn;obtain ⟨rfl,hlt⟩:=hA hn;refine ⟨gO,o,rfl,(h4 hn).1,(h4 hn).2,hlt,fun k hk j u hu=>?_⟩;simp only [llm,List.length_range] at hk;simp only [List.getElem_map,List.getElem_range] at hu
  match j,hu with
  | 0,hu=>
   simp only [Bb,List.getElem?_cons_zero,sie] at hu;rw [<- hu,Nat.mul_one,Nat.add_zero];exact (hR k hk).1
  | n+1,hu=>simp [Bb] at hu
 ·simp only [llm,List.length_range] at hk;simp only [List.getElem_map,List.getElem_range];have := ((hR k hk).2.1.widen (lo:=lo) (hi:=hi) (h5 k hk).1 (by have := (h5 k hk).2;omega)).sl;have e3:rows.getD k []=rows[k]:=by simp [hk]
  rwa [e3] at this
end
theorem markT {lo hi:Nat} {v:Value} {rows:LL} {k:Int} {w:World} (hu:OwT w lo hi v rows) (hk0:0<=k) (hk1:k+total rows<=1000000000) (hrl:rows.length<=1000000000) :
  Calls Tryz.prog 13 #[v,.int .i64 k] w fun e w'=>e = .returned (.int .i64 (k+total rows))/\OwT w' lo hi v (fJ k rows)/\Fr lo hi w w':=by
 obtain ⟨gO,gs,us,h1,h2,h3⟩:=hu;refine (wD h1 hk0 hk1 hrl).mono fun e w' ⟨he,h4,h5⟩=>⟨he,⟨gO,gs,us,h4,?_,?_⟩,h5.toFr fun b ⟨i,hi',e⟩=>e ▸ h3 i hi'⟩
 ·rw [eH];exact h2
 ·rw [eH];exact h3
theorem zi {w:World} {lo hi:Nat} {v:Value} {rows:LL} (h:iO lM 1 w lo hi v rows):FRel w (fun g=>g<w.heap.size) (eL (cL cI) rows) v:=by
 have f2:=tH (f:=lM) (s:=1) (c:=cI) (e:=id) (fun _=>rfl) (fun _=>rfl) (fun x u hu=>by simp [lM] at hu;subst hu;rfl) h;simp only [List.map_id,List.map_id'] at f2;exact f2
def Sm (rows:LL):Prop:=rows.length<=3000/\∀ r∈rows,r.length<=21
theorem Ac:∀ l:LL,(∀ r∈l,r.length<=21)->total l<=l.length*21
 | [],_=>by simp [total]
 | a::l,h=>by
  have h1:=Ac l fun r hr=>h r (List.mem_cons_of_mem _ hr);have h2:=h a List.mem_cons_self;have h3:total (a::l)=a.length+total l:=by simp [total]
  rw [h3,llc];omega
theorem EW {rows:LL} (h:Sm rows):total rows<=63000:=by
 have h1:=h.1;have := Ac rows h.2;omega
theorem IK {w:World} {lo hi lo' hi':Nat} {v v':Value} {rows:LL} (hx:Sm rows) (h:iO lM 1 w lo hi v rows) (h':iO lM 1 w lo' hi' v' rows) :
  Calls Tryz.prog 10 #[v,v'] w fun e w'=>e = .returned (.bool true)/\Below w.heap.size w w':=
 tj (qW _ _ (zf _ (by have := hx.1;omega) fun i=>by
  by_cases hi:i<rows.length
  ·have := hx.2 _ (getD_in hi);omega
  ·rw [gdq,gen (by omega)];exact Nat.zero_le _).eq) rfl (Aa (zi h) (zi h'))
theorem Fy {w:World} {lo hi:Nat} {v:Value} {rows:LL} {k:Int} (hk0:0<=k) (hk1:k+total rows<=1000000000) (hrl:rows.length<=1000000000) (h:iO lM 1 w lo hi v (fJ k rows)) :
  Calls Tryz.prog 14 #[v,.int .i64 k] w fun e w'=>e = .returned (.int .i64 (k+total rows))/\Below w.heap.size w w':=by
 refine (eY (o8 _ _ (A8 hk0 hk1 hrl).eq) #[v,.int .i64 k] rfl (Aa (zi h) (.v rfl))).mono fun e w' ⟨v,fz',he,hb,hv⟩=>⟨?_,hb⟩;rw [he,xM hv]
theorem IL {W:World} {p:List (List Ins)} {q:LL} {lo hi:Nat} {a:Value} (hS:bD (mV p)=some q) (h:iO Ins.cells 4 W lo hi a p) :
  Calls Tryz.prog 7 #[a] W fun e w'=>(∃ v0,e = .returned v0/\iO lM 1 w' 0 w'.heap.size v0 q)/\Below W.heap.size W w':=by
 refine (eY (o7 _ hS) _ rfl (EJ (oZ h))).mono fun e w' ⟨v,fz',he,hb,hv⟩=>⟨⟨v,he,?_⟩,hb⟩;have h2:=j6 (f:=lM) (s:=1) (c:=cI) (e:=id) (fun _=>rfl) (fun _=>rfl) hv;simp only [List.map_id,List.map_id'] at h2;exact h2
theorem EY {W:World} {p:List (List Ins)} {lo hi:Nat} {a:Value} (hI:az (mV p)=some false) (h:iO Ins.cells 4 W lo hi a p) :
  Calls Tryz.prog 9 #[a] W fun e w'=>(∃ v0,e = .returned v0/\OwT w' W.heap.size w'.heap.size v0 [])/\Below W.heap.size W w':=by
 have HV:Calls Tryz.prog 21 #[a] W fun e w'=>e = .returned (.bool false)/\Below W.heap.size W w':=
  (eY (eG _ hI) _ rfl (EJ (oZ h))).mono fun e w' ⟨v,fz',he,hb,hv⟩=>⟨by rw [he,xM hv],hb⟩
 have HH:=Lib.hid HV;clear HV;clear h hI
 go_enter Tryz.func9,Tryz.ntmps9
 go_wp2_with fail
 refine HH.out.mono ?_;rintro e w1 ⟨rfl,hb1⟩;have HB:=Lib.hid hb1;clear hb1
 go_wp2_with fail
 go_ret
 exact ⟨⟨_,rfl,0,fun _=>0,fun _ => .slice none 0 0,⟨none,0,0,rfl,Nat.le_refl _,by decide,fun h=>absurd h (by simp),fun i h=>absurd h (by simp),fun i j h=>absurd h (by simp)⟩,fun h=>absurd h (by simp),fun i h=>absurd h (by simp)⟩,HB.out⟩
theorem zk {p:List (List Ins)} (hl:p.length<=1048576) (ht:total p<=1048576):∃ q,bD (mV p)=some q/\Sm q/\∀ (W:World) (lo hi:Nat) (a:Value),iO Ins.cells 4 W lo hi a p->hi<=W.heap.size ->
  Calls Tryz.prog 9 #[a] W fun e w'=>(∃ v0,e = .returned v0/\OwT w' W.heap.size w'.heap.size v0 q)/\Below W.heap.size W w':=by
 have hsz:(mV p).length<=1048576/\total (mV p)<=1048576:=⟨by unfold mV;rw [llm];exact hl,by unfold mV;rw [sD];exact ht⟩;obtain ⟨q,_,hS,h3,h4⟩:=AR hsz;have hI:az (mV p)=some (aZ (Jt (mV p))):=jq (decide_eq_true hsz);refine ⟨q,hS,?_⟩
 cases hv:aZ (Jt (mV p)) with
 | false=>
  rw [hv] at hI;obtain rfl:=h3 hv;exact ⟨⟨by decide,fun r hr=>by cases hr⟩,fun W lo hi a h _=>EY hI h⟩
 | true=>
  rw [hv] at hI;obtain ⟨h5,h6,h7⟩:=h4 hv;have hp:=PV.of hv;have Fw:=few hv;have hcl:(bM (mV p)).length<=3000:=by
   unfold bM;rw [bz (m:=(ja (Js (mV p))).length) fun _ _=>llm _];exact Fw.all
  let f:Ji->List Int×Bool:=fun c=>(av (mV p) c).getD ([],false);have hf:∀ c∈bM (mV p),∃ l b,av (mV p) c=some (l,b)/\f c=(l,b)/\l.length<=21/\(b=true->TrL (mV p) l/\nE (mV p) (fw (mV p) l l.length)=(c.From,c.Order))/\(∀ s,Whole (mV p) s->nE (mV p) (fw (mV p) s s.length)=(c.From,c.Order)->b=true):=fun c hc=>by
   obtain ⟨l,b,e1,_,e2,e3,e4⟩:=kK hv hc;exact ⟨l,b,e1,by show Option.getD _ _=_;rw [show av (mV p) c=some (l,b) from e1];rfl,e2,e3,e4⟩
  have hmem:∀ o,o∈trK f (bM (mV p))↔TrL (mV p) o:=fun o=>by
   unfold trK;rw [List.mem_filterMap]
   constructor
   ·rintro ⟨c,hc,e⟩;obtain ⟨l,b,_,e2,_,e3,_⟩:=hf c hc;rw [e2] at e
    cases b with
    | false=>simp at e
    | true=>
     obtain rfl:l=o:=by simpa using e
     exact (e3 rfl).1
   ·intro h;obtain ⟨l,b,_,e2,_,e3,e4⟩:=hf _ (lm hp (mN h.1));obtain rfl:=e4 o h.1 rfl;obtain ⟨g1,g2⟩:=e3 rfl;refine ⟨_,lm hp (mN h.1),?_⟩;rw [e2,if_pos rfl];have g3:=g1.2;rw [g2] at g3;exact congrArg some (h.2.uniq g3).symm
  have hnd:(trK f (bM (mV p))).Nodup:=by
   unfold trK;refine List.pairwise_filterMap.2 (List.Pairwise.imp_of_mem (fun {c d} hc hd hne o ho o' ho' e=>?_) (ET (p:=mV p)));obtain ⟨l,b,_,e2,_,e3,_⟩:=hf c hc;obtain ⟨l',b',_,e2',_,e3',_⟩:=hf d hd;rw [e2] at ho;rw [e2'] at ho'
   cases b with
   | false=>simp at ho
   | true=>
    cases b' with
    | false=>simp at ho'
    | true=>
     obtain rfl:l=o:=by simpa using ho
     obtain rfl:l'=o':=by simpa using ho'
     subst e;have := (e3 rfl).2.symm.trans (e3' rfl).2
     cases c
     cases d
     simp only [Prod.mk.injEq] at this;obtain ⟨rfl,rfl⟩:=this;exact hne rfl
  have hne:0<(trK f (bM (mV p))).length:=by
   obtain ⟨s,hs⟩:=A9 hv;obtain ⟨l,hl,_⟩:=EI hsz hs;exact List.length_pos_of_mem ((hmem l).2 hl)
  refine ⟨⟨h7,fun r hr=>?_⟩,fun W lo hi a h k=>(GD (f:=f) h k hI (xH hv).eq hcl (fun c hc=>?_) (fun c hc=>?_) hnd hne).mono fun e w' ⟨⟨v,gO,gs,us,rows,he,r1,r2,r3,r4,r5⟩,hb⟩=>⟨⟨v,he,?_⟩,hb⟩⟩
  ·obtain ⟨c,hc,e⟩:=List.mem_filterMap.1 ((hmem r).2 ((h6 r).1 hr));obtain ⟨l,b,_,e2,e3,_⟩:=hf c hc;rw [e2] at e
   cases b with
   | false=>simp at e
   | true=>
    obtain rfl:l=r:=by simpa using e
    exact e3
  ·obtain ⟨l,b,e1,e2,_⟩:=hf c hc;rw [e2];exact e1
  ·obtain ⟨l,b,_,e2,e3,_⟩:=hf c hc;rw [e2];exact Nat.le_trans e3 (by decide)
  ·have hqn:q.Nodup:=h5.imp fun h=>Cu h;obtain rfl:rows=q:=kY (r1.trans ((List.perm_ext_iff_of_nodup hnd hqn).2 fun o=>(hmem o).trans (h6 o).symm)) (by simpa using r2) (h5.imp fun h=>vM.2 (.inl h));exact ⟨gO,gs,us,r3,fun _=>r4,r5⟩
set_option maxHeartbeats 4000000 in
theorem mW {u:Value} {p:List (List Ins)} {w:World} (hu:iO Ins.cells 4 w 0 w.heap.size u p) :
  Calls Tryz.prog 3 #[u] w fun e w'=>e = .returned (.bool true)/\Below w.heap.size w w':=by
 have RP:=Lib.hid hu;clear hu;have G:=Lib.hid (Below.refl w.heap.size w)
 go_enter Tryz.func3,Tryz.ntmps3
 go_wp2_with fail
 refine (vH RP.out).mono ?_;rintro e w1 ⟨⟨r,rfl,hr⟩,hb1⟩;have s1:=hb1.size;replace RP:=Lib.hid (RP.out.below hb1 (by omega));replace G:=Lib.hid (G.out.trans (hb1.mono G.out.size));rcases hr with hr | ⟨hr0,hsz⟩
 ·go_wp2_with fail
  go_ret
  exact ⟨rfl,G.out⟩
 have hr1 : ¬ r<0:=by omega
 have ht:total p<=1048576:=by omega
 have hpl:p.length<=1048576:=by omega
 clear hr0 hsz;obtain ⟨q,hS,hsm,hI⟩:=zk hpl ht;have HIM:=Lib.hid hI;clear hI;have HSM:=Lib.hid hsm;have hqt:=EW hsm;have hql:=hsm.1;clear hsm;have HSP:=Lib.hid (fun (W:World) lo hi a (h:iO Ins.cells 4 W lo hi a p)=>IL (W:=W) hS h);clear hS;have d2:decide (p=p)=true:=by simp
 go_wp2_with fail
 refine (ji RP.out (by omega) hpl ht).mono ?_;rintro e w2 ⟨⟨t2,rfl,hT2⟩,hb2⟩;have T2:=Lib.hid hT2;clear hT2;have s2:=hb2.size;replace RP:=Lib.hid (RP.out.below hb2 (by omega));replace G:=Lib.hid (G.out.trans (hb2.mono G.out.size))
 go_wp2_with fail
 refine (HSP.out _ _ _ _ T2.out.sl).mono ?_;rintro e w3 ⟨⟨v0,rfl,hV0⟩,hb3⟩;have V0:=Lib.hid hV0;clear hV0;have s3:=hb3.size;replace RP:=Lib.hid (RP.out.below hb3 (by omega));replace T2:=Lib.hid (T2.out.below hb3 (by omega));replace G:=Lib.hid (G.out.trans (hb3.mono G.out.size));clear T2
 go_wp2_with fail
 refine (ji RP.out (by omega) hpl ht).mono ?_;rintro e w4 ⟨⟨x0,rfl,hX0⟩,hb4⟩;have X0:=Lib.hid hX0;clear hX0;have s4:=hb4.size;replace RP:=Lib.hid (RP.out.below hb4 (by omega));replace V0:=Lib.hid (V0.out.below hb4 (by omega));replace G:=Lib.hid (G.out.trans (hb4.mono G.out.size))
 go_wp2_with fail
 refine (HIM.out _ _ _ _ X0.out.sl (by omega)).mono ?_;rintro e w5 ⟨⟨g0,rfl,hG0⟩,hb5⟩;have G0:=Lib.hid hG0;clear hG0;have s5:=hb5.size;replace RP:=Lib.hid (RP.out.below hb5 (by omega));replace V0:=Lib.hid (V0.out.below hb5 (by omega));replace X0:=Lib.hid (X0.out.below hb5 (by omega));replace G:=Lib.hid (G.out.trans (hb5.mono G.out.size))
 go_wp2_with fail
 refine (IK HSM.out G0.out.sl V0.out).mono ?_;rintro e w6 ⟨rfl,hb6⟩;have s6:=hb6.size;replace RP:=Lib.hid (RP.out.below hb6 (by omega));replace V0:=Lib.hid (V0.out.below hb6 (by omega));replace X0:=Lib.hid (X0.out.below hb6 (by omega));replace G0:=Lib.hid (G0.out.below hb6 (by omega));replace G:=Lib.hid (G.out.trans (hb6.mono G.out.size))
 go_wp2_with fail
 refine (ji RP.out (by omega) hpl ht).mono ?_;rintro e w7 ⟨⟨y0,rfl,hY0⟩,hb7⟩;have Y0:=Lib.hid hY0;clear hY0;have s7:=hb7.size;replace RP:=Lib.hid (RP.out.below hb7 (by omega));replace V0:=Lib.hid (V0.out.below hb7 (by omega));replace X0:=Lib.hid (X0.out.below hb7 (by omega));replace G0:=Lib.hid (G0.out.below hb7 (by omega));replace G:=Lib.hid (G.out.trans (hb7.mono G.out.size))
 go_wp2_with fail
 refine (vG X0.out.sl Y0.out.sl (by omega) (by omega)).mono ?_;rintro e w8 ⟨rfl,hb8⟩;have s8:=hb8.size;replace RP:=Lib.hid (RP.out.below hb8 (by omega));replace V0:=Lib.hid (V0.out.below hb8 (by omega));replace X0:=Lib.hid (X0.out.below hb8 (by omega));replace G0:=Lib.hid (G0.out.below hb8 (by omega));replace Y0:=Lib.hid (Y0.out.below hb8 (by omega));replace G:=Lib.hid (G.out.trans (hb8.mono G.out.size));clear Y0
 go_wp2_with fail
 refine (tF X0.out (by decide) (by omega) (by omega) (by omega)).mono ?_;rintro e w9 ⟨rfl,_,hb9⟩;have s9:=hb9.size;replace RP:=Lib.hid (RP.out.fr hb9 (by omega));replace V0:=Lib.hid (V0.out.fr hb9 (by omega));replace G0:=Lib.hid (G0.out.fr hb9 (by omega));replace G:=Lib.hid (G.out.trans (hb9.below (by omega) G.out.size));have d4 : ¬ (1+4*(total p:Int))<0:=by omega
 go_wp2_with fail
 refine (IK HSM.out G0.out.sl V0.out).mono ?_;rintro e w10 ⟨rfl,hb10⟩;have s10:=hb10.size;replace RP:=Lib.hid (RP.out.below hb10 (by omega));replace V0:=Lib.hid (V0.out.below hb10 (by omega));replace G0:=Lib.hid (G0.out.below hb10 (by omega));replace G:=Lib.hid (G.out.trans (hb10.mono G.out.size))
 go_wp2_with fail
 refine (markT G0.out (by decide) (by omega) (by omega)).mono ?_;rintro e w11 ⟨rfl,hM0,hb11⟩;have M0:=Lib.hid hM0;clear hM0;have s11:=hb11.size;replace RP:=Lib.hid (RP.out.fr hb11 (by omega));replace V0:=Lib.hid (V0.out.fr hb11 (by omega));replace G:=Lib.hid (G.out.trans (hb11.below (by omega) G.out.size))
 go_wp2_with fail
 refine (Fy (by decide) (by omega) (by omega) M0.out.sl).mono ?_;rintro e w12 ⟨rfl,hb12⟩;have s12:=hb12.size;replace RP:=Lib.hid (RP.out.below hb12 (by omega));replace V0:=Lib.hid (V0.out.below hb12 (by omega));replace M0:=Lib.hid (M0.out.below hb12 (by omega));replace G:=Lib.hid (G.out.trans (hb12.mono G.out.size));have d5 : ¬ (1+(total q:Int))<0:=by omega
 go_wp2_with fail
 refine (ji RP.out (by omega) hpl ht).mono ?_;rintro e w13 ⟨⟨t4,rfl,hT4⟩,hb13⟩;have T4:=Lib.hid hT4;clear hT4;have s13:=hb13.size;replace RP:=Lib.hid (RP.out.below hb13 (by omega));replace V0:=Lib.hid (V0.out.below hb13 (by omega));replace M0:=Lib.hid (M0.out.below hb13 (by omega));replace G:=Lib.hid (G.out.trans (hb13.mono G.out.size))
 go_wp2_with fail
 refine (HIM.out _ _ _ _ T4.out.sl (by omega)).mono ?_;rintro e w14 ⟨⟨h0,rfl,hH0⟩,hb14⟩;have H0:=Lib.hid hH0;clear hH0;have s14:=hb14.size;replace RP:=Lib.hid (RP.out.below hb14 (by omega));replace V0:=Lib.hid (V0.out.below hb14 (by omega));replace M0:=Lib.hid (M0.out.below hb14 (by omega));replace T4:=Lib.hid (T4.out.below hb14 (by omega));replace G:=Lib.hid (G.out.trans (hb14.mono G.out.size));clear T4
 go_wp2_with fail
 refine (IK HSM.out H0.out.sl V0.out).mono ?_;rintro e w15 ⟨rfl,hb15⟩;have s15:=hb15.size;replace RP:=Lib.hid (RP.out.below hb15 (by omega));replace V0:=Lib.hid (V0.out.below hb15 (by omega));replace M0:=Lib.hid (M0.out.below hb15 (by omega));replace H0:=Lib.hid (H0.out.below hb15 (by omega));replace G:=Lib.hid (G.out.trans (hb15.mono G.out.size))
 go_wp2_with fail
 refine (Fy (by decide) (by omega) (by omega) M0.out.sl).mono ?_;rintro e w16 ⟨rfl,hb16⟩;have s16:=hb16.size;replace RP:=Lib.hid (RP.out.below hb16 (by omega));replace V0:=Lib.hid (V0.out.below hb16 (by omega));replace M0:=Lib.hid (M0.out.below hb16 (by omega));replace H0:=Lib.hid (H0.out.below hb16 (by omega));replace G:=Lib.hid (G.out.trans (hb16.mono G.out.size))
 go_wp2_with fail
 go_ret
 exact ⟨rfl,G.out⟩
theorem lawr_FnExactAllTraces {w:World} (u:Value) (p:List (List Ins)) (hu:iO Ins.cells 4 w 0 w.heap.size u p) :
 Calls Tryz.prog 3 #[u] w fun e w'=>e = .returned (.bool true)/\Below w.heap.size w w':=mW hu
namespace fnExactAllTraces
theorem own:ownKnob Tryz.prog.godebug=none:=by kernel_rfl
theorem laidOut:laidOutB Tryz.prog=true:=by kernel_rfl
theorem DF:([22].all fun t=>Tryz.prog.readableRec t&&decide (t<Tryz.prog.types.size))=true:=by kernel_rfl
theorem readable:∀ t∈([22]:List TypeId),Tryz.prog.readableRec t=true/\t<Tryz.prog.types.size:=fun t ht=>by
 have := List.all_eq_true.1 DF t ht;simpa using this
theorem lifted (os:Os) (started:os.Started) (H:Type) (enc:TypeId×Value->H) :
  ReturnsInHanded {} Tryz.checked os 3 .any (Rows.fnExactAllTracesSpec.pre6 enc Tryz.prog Tryz.f3 Rows.fnExactAllTracesRow.domain false) (Rows.fnExactAllTracesSpec.post enc Tryz.prog Tryz.f3 false true false false):=by
 refine returnsInHanded_of_change (C:=Tryz.checked) own started (by kernel_rfl) Tryz.func3
  (ChangeSpec.witness6 (enc:=enc) (C:=Tryz.checked) false ⟨#[],#[.slice none 0 0],[]⟩ 8 (by kernel_rfl) (by kernel_rfl) (by kernel_rfl) (by kernel_rfl)) ?_
 intro W base args ds gs before hval0 hW hcnd _;have hval:∀ (j:Nat) t v,Tryz.f3.params[j]? = some t->args[j]? = some v->Value.okWide Tryz.prog W .any base t v:=hval0;have hW':=hW;obtain ⟨p,q,hA0,hV,rfl,hfz,hnd⟩:=hW;have hA:DataW.TrodAll enc Tryz.prog W 0 (fun _=>true) true Tryz.f3.params.toList args.toList ds p:=hA0;rw [Tryz.params3] at hA hval;have hA1:=hA;obtain ⟨v0,vs0,d0,ds0,p0,q0,hargs0,rfl,rfl,h0,r0⟩:=trodAll_cons hA;obtain ⟨rfl,rfl,rfl⟩:=trodAll_nil r0;obtain rfl:args = #[v0]:=by cases args;simp_all
 obtain ⟨rfl,rfl⟩:=trodVars_none hV;obtain ⟨a0,w0⟩:∃ p:List (List Ins),iO Ins.cells 4 W 0 W.heap.size v0 p:=by
  obtain ⟨fuel,hf⟩:=h0;obtain ⟨v,hv,p,hp,_⟩:=Dr (f:=Ins.cells) (s:=4) (Good:=fun _=>True) (by kernel_rfl) (by omega) (by kernel_rfl) Tryz.underlying22 Tryz.underlying43 (fun fuel cs x h=>Hy Tryz.underlying82 Tryz.underlying3 ⟨rfl,rfl⟩ ⟨rfl,rfl⟩ ⟨rfl,rfl⟩ ⟨rfl,rfl⟩ (by kernel_rfl) (by kernel_rfl) fuel cs x h) hf;rw [one_cell hv (okWide_slice Tryz.underlying22 (hval 0 22 v0 rfl rfl))];exact ⟨p,hp⟩
 clear hA0 hval0;simp only [List.append_nil] at hW';have hlt:=fun x hx=>hW'.lt x hx;refine (lawr_FnExactAllTraces v0 a0 w0).mono fun e W' ⟨he,hg⟩ => ?_;subst he;exact ⟨_,rfl,wA (pv:=[]) hW' (fun _ _ _=>trodAll_cons_mk (shut_bool Tryz.underlying4 _) trodAll_mk0) (fun sp hsp=>oL laidOut hg _ _ _ _ readable hA1 (by simpa using hlt) (by simpa using hsp)) (fun _ _=>rfl) (by simp)
  hg (ok_one (by kernel_rfl) rfl (okWide_bool_mk Tryz.underlying4 _))⟩
theorem over:Rows.fnExactAllTracesRow.holds Tryz.pinned (OpenSpec.ofChange Rows.fnExactAllTracesSpec):=
 OpenClaim.holds_of_wide 3 Tryz.f3 rfl rfl rfl rfl rfl rfl rfl ⟨rfl,rfl,rfl,rfl,rfl⟩ rfl rfl rfl rfl rfl (by kernel_rfl) Tryz.func3 (by kernel_rfl)
  (of_decide_eq_true (by kernel_rfl)) (by unfold Func.isWrapper;first | (rw [if_pos (by decide +kernel)];kernel_rfl) | (rw [if_neg (by decide +kernel)];exact ⟨rfl,rfl⟩))
  (fun os started H enc _=>lifted os started H enc)
theorem proved:Rows.FnExactAllTracesSaid:=over
end fnExactAllTraces
end
end Go.Proofs.YtlmjnhnpahicmaaGreat
