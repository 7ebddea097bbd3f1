/- Texts joined. No conditions. -/
import Derived.OpenShut
import Derived.BigRegion
import Derived.Laws.IdiomStrings
import Derived.Test.YtjcmfddobaplbaaGreatK8
namespace Go.Proofs.YtjcmfddobaplbaaGreat
noncomputable section
open _root_.List renaming eq_nil_of_length_eq_zero -> M8, replicate -> M9, getElem?_map -> Na, drop_eq_getElem_cons -> Nb, drop_eq_nil_of_le -> Nf
open _root_.Option renaming map_eq_some_iff -> Nc
open _root_.Array renaming getElem?_modify -> Ng, getElem_ofFn -> Nh, extract_eq_self_of_le -> Ni
set_option maxHeartbeats 4000000
open Go.ChangeShapes Go.WideShapes Go.ChangeAt Go.RowKit Go.Shelf Go.Sort
set_option maxRecDepth 100000
theorem Dr {α:Type} (f:α->LI):SWO (ltOf λx y=>cmpL (f x)<|f y) where
 irrefl x:=by simp [ltOf,l5]
 trans x y z h1 h2:=by
  simp only [ltOf,dte] at *;exact mN h1 h2
 ntrans x y z h1 h2:=by
  simp only [ltOf,decide_eq_false_iff_not] at *;intro h;rcases mO (f x) (f y) with g | g | g
  ·exact h1 g
  ·rw [g] at h;exact h2 h
  exact h2<|mN g h
theorem tj (x y:Int) (w:World) :
  Calls Tryz.prog 138 #[.int .i64 x,.int .i64 y] w λe w'=>e = .returned (.int .i64<|if x<y then -1 else if y<x then 1 else 0)/\w'=w:=by
 go_enter Tryz.func138,Tryz.ntmps138
 by_cases h1:x<y
 ·rw [if_pos h1]
  go_wp2
  go_ret
  exact ⟨rfl,rfl⟩
 rw [if_neg h1]
 by_cases h2:y<x
 ·rw [if_pos h2]
  go_wp2
  go_ret
  exact ⟨rfl,rfl⟩
 rw [if_neg h2]
 go_wp2
 go_ret
 exact ⟨rfl,rfl⟩
theorem xI {lo hi lo' hi':Nat} {u v:Value} {xs ys:LI} {w:World} (hu:Sl Fc 1 w lo hi u xs) (hv:Sl Fc 1 w lo' hi' v ys) :
  Calls Tryz.prog 123 #[u,v] w λe w'=>e = .returned (.int .i64<|cmpL xs ys)/\w'=w:=by
 obtain ⟨A,ca,rfl,hca,hma,hA⟩:=hu.ints;obtain ⟨B,cb,rfl,hcb,hmb,hB⟩:=hv.ints;have HAA:=Lib.hid hA;clear hA;have HBB:=Lib.hid hB;clear hB
 go_enter Tryz.func123,Tryz.ntmps123
 go_wp2_with fail
 go_loopw [11] (λi wr=>∃ k:Nat,k<=xs.length/\k<=ys.length/\i = .int .i64 k/\wr=w/\cmpL xs ys=cmpL (xs.drop k) (ys.drop k)) (λi _=>xs.length-(intOf i).toNat)
 case atStart=>exact ⟨0,Nat.zero_le _,Nat.zero_le _,rfl,rfl,rfl⟩
 case round=>
  obtain ⟨k,hk,hk2,rfl,rfl,he⟩:=hrel;have HE:=Lib.hid he;clear he
  by_cases hlt:k<xs.length
  ·obtain ⟨ba,oa,rfl,_,_,hba,hA⟩:=HAA.out (by omega);have ca1:=hA k hlt;clear hA;have i1:(0:Int)<=(k:Int):=by omega
   have i2:(k:Int)<(xs.length:Int):=by omega
   have HX:=Lib.hid<|Nb hlt
   by_cases hlt2:k<ys.length
   ·obtain ⟨bb,ob,rfl,_,_,hbb,hB⟩:=HBB.out (by omega);have cb1:=hB k hlt2;clear hB;have i3:(k:Int)<(ys.length:Int):=by omega
    have HY:=Lib.hid<|Nb hlt2;generalize xs[k]=x at *;generalize ys[k]=y at *;have hc:=tj x y wr
    by_cases h1:x<y
    ·rw [if_pos h1] at hc;have HR:=Lib.hid (show cmpL xs ys = -1 by rw [HE.out,HX.out,HY.out,cmpL,if_pos h1])
     go_wp2_with (go_at_call 138;refine hc.mono ?_;rintro e w' ⟨rfl,rfl⟩)
     go_ret
     exact ⟨by rw [HR.out];rfl,rfl⟩
    rw [if_neg h1] at hc
    by_cases h2:y<x
    ·rw [if_pos h2] at hc;have HR:=Lib.hid (show cmpL xs ys=1 by rw [HE.out,HX.out,HY.out,cmpL,if_neg h1,if_pos h2])
     go_wp2_with (go_at_call 138;refine hc.mono ?_;rintro e w' ⟨rfl,rfl⟩)
     go_ret
     exact ⟨by rw [HR.out];rfl,rfl⟩
    rw [if_neg h2] at hc;have HR:=Lib.hid (show cmpL xs ys=cmpL (xs.drop<|k+1) (ys.drop<|k+1) by rw [HE.out,HX.out,HY.out,cmpL,if_neg h1,if_neg h2])
    go_wp2_with (go_at_call 138;refine hc.mono ?_;rintro e w' ⟨rfl,rfl⟩)
    go_roundw
    case rel=>exact ⟨k+1,by omega,by omega,by go_num,by first | rfl | trivial,HR.out⟩
    case measure=>simp [intOf];omega
   have hky:k=ys.length:=by omega
   have i3:((ys.length:Int)<=(k:Int)):=by omega
   have HR:=Lib.hid (show cmpL xs ys=1 by rw [HE.out,HX.out,Nf (show ys.length<=k by omega)];rfl);clear hky
   go_wp2_with fail
   go_ret
   exact ⟨by rw [HR.out];rfl,rfl⟩
  have hkx:k=xs.length:=by omega
  have HF:=Lib.hid (show cmpL xs ys=cmpL [] (ys.drop xs.length) by rw [HE.out,hkx,List.drop_length]);clear HE;subst hkx
  by_cases hl:xs.length<ys.length
  ·have i3:((xs.length:Int)<(ys.length:Int)):=by omega
   go_wp2_with fail
   go_ret
   exact ⟨by rw [HF.out,Nb hl];rfl,rfl⟩
  have i3 : ¬ ((xs.length:Int)<(ys.length:Int)):=by omega
  go_wp2_with fail
  go_ret
  exact ⟨by rw [HF.out,Nf (by omega)];rfl,rfl⟩
theorem oW {w:World} {fz:Nat->Prop} {v:Value} {l:LI} (h:FRel w fz (eL cI l) v):Sl Fc 1 w 0 w.heap.size v l:=by
 have := um (f:=Fc) (s:=1) (c:=cI) (e:=id) (λ_=>rfl) (λ_=>rfl) h
 rwa [List.map_id] at this
def Rd1 (w:World) (fz:Nat->Prop):Type:={ p:Value×LI // p.1.oneCell'=true/\FRel w fz (eL cI p.2) p.1 }
theorem B0 (w:World) (fz:Nat->Prop):FRel w fz (eL cI ([]:LI)) (.slice none 0 0):=
 .sl (s:=1) (g:=0) (o:=0) (λ_ _ => .bool false) (Nat.le_refl _) (by decide) (λh=>absurd h<|by simp) (λi h=>absurd h<|by simp) (λi j a h=>absurd h<|by simp) (λi j a h=>absurd h<|by simp) λi j a h=>absurd h (by simp)
instance {w:World} {fz:Nat->Prop}:Inhabited (Rd1 w fz):=⟨⟨(.slice none 0 0,[]),rfl,B0 w fz⟩⟩
def vu {w:World} {fz:Nat->Prop} (x:Rd1 w fz):Value:=x.1.1
def Ca {w:World} {fz:Nat->Prop} (x:Rd1 w fz):LI:=x.1.2
theorem m9 {α:Type} [Inhabited α] {enc:α->Value} {w:World} {blk off g:Nat} {d:Array α} (h:g≠blk):(putRow enc w blk off d).heap[g]? = w.heap[g]? := by
 show (w.heap.modify blk _)[g]? = _;rw [Ng,if_neg (Ne.symm h)]
theorem tq {α:Type} [Inhabited α] {enc:α->Value} {w:World} {blk off:Nat} {d:Array α} {cs:Array Value} {t:TypeId} {fr:Nat×Nat} (h:w.heap[blk]? = some (.cells cs t fr)):(putRow enc w blk off d).heap[blk]? = some (.cells (putCells enc off d cs) t fr):=by
 show (w.heap.modify blk _)[blk]? = _;rw [Ng,if_pos rfl,h]
 rfl
theorem ng {α:Type} [Inhabited α] {enc:α->Value} {w:World} {blk off m g:Nat} {d:Array α} {os:Array Obj} (hg:g<w.heap.size):(sortWorld enc w blk off m d os).heap[g]? = (putRow enc w blk off d).heap[g]? := by
 show ((putRow enc (Sort.ahead w m) blk off d).heap++os)[g]? = _;have hs:(putRow enc (Sort.ahead w m) blk off d).heap.size=w.heap.size:=by rw [size_putRow];rfl
 rw [Array.getElem?_append_left (by rw [hs];exact hg)]
 rfl
theorem kY {α:Type} [Inhabited α] {enc:α->Value} {off:Nat} {d:Array α} {cs:Array Value}:(putCells enc off d cs).size=cs.size:=by simp [putCells]
theorem wC {α:Type} [Inhabited α] {enc:α->Value} {off:Nat} {d:Array α} {cs:Array Value} {k:Nat} (h:off+d.size<=cs.size) (hk:k<d.size):(putCells enc off d cs)[off+k]? = some (enc d[k]!):=by
 unfold putCells;rw [Array.getElem?_mapIdx,Array.getElem?_eq_getElem (by omega)];simp only [Option.map_some];rw [if_pos (by omega),show off+k-off=k by omega]
theorem EF {c:Cx} {blk off size:Nat} (hnf : ¬ c.fz blk) (hlt:∀ g,c.fz g->g<c.w.heap.size):CmpLays1 Tryz.prog 123 #[] (vu (w:=c.w) (fz:=c.fz)) (λx y=>cmpL (Ca x)<|Ca y) blk off size c.w:=by
 intro m os dk hs x y;have hW:∀ g,c.fz g->g<c.w.heap.size->(sortWorld vu c.w blk off m dk os).heap[g]? = c.w.heap[g]? /\ c.fz g:=λg hg hl=>by
  rw [ng hl,m9 (by rintro rfl;exact hnf hg)];exact ⟨rfl,hg⟩
 have hsz:c.w.heap.size<=(sortWorld vu c.w blk off m dk os).heap.size:=by
  show _<=((putRow vu (Sort.ahead c.w m) blk off dk).heap++os).size;rw [Array.size_append,size_putRow];show c.w.heap.size<=c.w.heap.size+os.size;omega
 have hx:=oW<|x.2.2.mono hsz hW;have hy:=oW<|y.2.2.mono hsz hW;refine (xI hx hy).mono λe w' ⟨he,hw⟩=>⟨he,0,#[],?_⟩;rw [hw,grow_empty]
 rfl
theorem Dt {c:Cx} (hr:HRel c) {l:LL} {ver:Nat} (hH:c.H=[some ⟨ver,1,41,l.map<|cL cI⟩]) {u:Value} (hu:c.rel (.hs 0 ver 1 0 l.length) u) (hl:l.length<4611686018427387904) (hn:0<l.length) :
  Calls Tryz.prog 122 #[u,.func (.func 123) #[] #[]] c.w λe w'=>∃ c',e = .returned (.tuple #[])/\c'.w=w'/\c'.H=[some ⟨ver,1,41,(vW l).map<|cL cI⟩]/\HRel c'/\Ext c c':=by
 have hlv:c.live 0 ⟨ver,1,41,l.map<|cL cI⟩:=by
  unfold Cx.live;rw [hH]
  rfl
 obtain ⟨cs,fr0,hB⟩:=hr.blk 0 _ hlv
 cases hu with
 | fr h=>cases h
 | @hs _ _ _ _ _ cap A hb hc hm h0 h=>
 obtain ⟨f,rfl,hat,hhd⟩:=hB.cells hlv λx hx=>(h x hx).1;obtain ⟨_,_,h3,_⟩:=h _ hhd;have hA:=h3 (by omega);have hfit:(c.φ 0).2+l.length<=cs.size:=by
  have := hB.fits;simpa using this
 have hrow:∀ i (hi:i<l.length),∃ p:Rd1 c.w c.fz,cs[(c.φ 0).2+i]? = some (vu p)/\Ca p=l[i]:=λi hi=>by
  obtain ⟨u,g1,g2,g3⟩:=hB.rel i (cL cI l[i]) 0 (eL cI l[i]) (by simp [hi]) rfl;refine ⟨⟨(u,l[i]),g2,ni 1 _ _ rfl g3⟩,?_,rfl⟩;show _=some u;simpa using g1
 obtain ⟨d,hds,hd1,hd2⟩:∃ d:Array (Rd1 c.w c.fz),d.size=l.length/\(∀ i,i<l.length->cs[(c.φ 0).2+i]? = some (vu d[i]!))/\d.toList.map Ca=l:=by
  refine ⟨Array.ofFn (λi:_root_.Fin l.length=>(hrow i.1 i.2).choose),by simp,λi hi=>?_,?_⟩
  ·rw [getElem!_pos _ i (by simpa using hi),Nh];exact (hrow i hi).choose_spec.1
  apply List.ext_getElem
  ·simp
  intro i h1 h2;simp only [List.getElem_map,Array.getElem_toList,Nh];exact (hrow i h2).choose_spec.2
 have hblk:(c.φ 0).1<c.w.heap.size:=hr.live_lt hlv;have hH2:Holds (vu (w:=c.w) (fz:=c.fz)) c.w (c.φ 0).1 (c.φ 0).2 d:=λj hj=>by
  have hj2:(c.φ 0).2+j<cs.size:=by omega
  refine ⟨?_,?_⟩
  ·simp only [World.cell?,hat];exact hd1 j (by omega)
  have := hB.free f rfl _ hj2;obtain ⟨lo,hi'⟩:=f;simp only [World.frozen?,hat,Bool.and_eq_false_iff,decide_eq_false_iff_not];simp only at this;omega
 have eg:∀ args w,(callFunc 123 args).run Tryz.prog w = .ok (.enter 123 args) w:=enters_of Tryz.func123 (by kernel_rfl) rfl;have hcon:=Any.slices_SortFunc DJ (vu (w:=c.w) (fz:=c.fz)) (λx=>x.2.1) (λx y=>cmpL (Ca x)<|Ca y) (Dr Ca) 123 #[] (c.φ 0).1 (c.φ 0).2 cap d c.w eg (EF (hr.not_fz hlv) hr.lt) hH2 hblk (by omega);rw [hA,show (c.φ 0).2+0*1=(c.φ 0).2 by omega,<- hds];refine (show Calls Tryz.prog 122 _ _ _ from hcon).mono ?_;rintro e w' ⟨rfl,d',m,os,hp,hs,rfl⟩;have hds':d'.size=l.length:=hp.1.trans hds;have hpl:d'.toList.Perm d.toList:=by
  have := hp.2.2
  rwa [Ni (by omega),Ni (by omega)] at this
 have hsl:d'.toList.map Ca=vW l:=by
  refine rO ((hpl.map Ca).trans<|hd2 ▸ (jl l).symm) ?_<|rN l;rw [List.pairwise_map,List.pairwise_iff_getElem];intro i j h1 h2 hij;have := hs i j (Nat.zero_le _) hij (by rw [hds,<- hds'];simpa using h2);rw [getElem!_pos d' j (by simpa using h2),getElem!_pos d' i (by simpa using h1)] at this;unfold ltOf at this;unfold leL;rw [dte];simpa using this
 have hat':∀ i (hi:i<(vW l).length),Ca d'[i]! = (vW l)[i]:=λi hi=>by
  have hi2:i<d'.size:=by
   rw [(jl l).length_eq] at hi;omega
  rw [getElem!_pos d' i hi2];have : (d'.toList.map Ca)[i]? = (vW l)[i]? := by rw [hsl]
  rw [geq (by simpa using hi2),geq hi] at this;simpa using this
 have hll:(vW l).length=l.length:=(jl l).length_eq;have he1:Ext c (c.upd 0 ⟨ver,1,41,(vW l).map (cL cI)⟩ ((c.φ 0).1,(c.φ 0).2) (putCells vu (c.φ 0).2 d' cs)):=Cx.upd_ext hr hlv hB kY (.inl ⟨rfl,rfl,by simp [hll],rfl⟩);have hr1:=Cx.upd_rel hr hlv hB (k:=⟨ver,1,41,(vW l).map (cL cI)⟩) (o:=(c.φ 0).2) (cs:=putCells vu (c.φ 0).2 d' cs) kY rfl he1 Nat.one_pos (by rw [kY];simpa [hll] using hfit) (λi row h=>by
  obtain ⟨x,_,rfl⟩:=by simpa [Na,Nc] using h
  rfl) (λi row j a h1 h2=>by
  have hi:i<(vW l).length:=by simpa using (ges h1).1
  have hrw:row=cL cI (vW l)[i]:=by
   have := (ges h1).2;rw [<- this];simp
  subst hrw
  match j,h2 with
  | 0,h2=>
   obtain rfl:=osl h2;refine ⟨vu d'[i]!,?_,d'[i]!.2.1,?_⟩
   ·have := wC (enc:=vu) (off:=(c.φ 0).2) (d:=d') (cs:=cs) (k:=i) (by omega) (by omega);simpa using this
   rw [<- hat' i hi];exact .fr d'[i]!.2.2
  | j+1,h2=>simp [cL] at h2)
 have hbl:Below (c.upd 0 ⟨ver,1,41,(vW l).map<|cL cI⟩ ((c.φ 0).1,(c.φ 0).2)<|putCells vu (c.φ 0).2 d' cs).w.heap.size (c.upd 0 ⟨ver,1,41,(vW l).map<|cL cI⟩ ((c.φ 0).1,(c.φ 0).2)<|putCells vu (c.φ 0).2 d' cs).w (sortWorld vu c.w (c.φ 0).1 (c.φ 0).2 m d' os):=by
  have hz:(c.upd 0 ⟨ver,1,41,(vW l).map<|cL cI⟩ ((c.φ 0).1,(c.φ 0).2)<|putCells vu (c.φ 0).2 d' cs).w.heap.size=c.w.heap.size:=by simp [Cx.upd]
  refine ⟨rfl,rfl,rfl,?_,λg hg=>?_⟩
  ·rw [hz];show _<=((putRow vu (Sort.ahead c.w m) (c.φ 0).1 (c.φ 0).2 d').heap++os).size;rw [Array.size_append,size_putRow];show c.w.heap.size<=c.w.heap.size+os.size;omega
  rw [hz] at hg;rw [ng hg];show _=(c.w.setRow (c.φ 0).1<|putCells vu (c.φ 0).2 d' cs).heap[g]?
  by_cases e:g=(c.φ 0).1
  ·subst e;rw [tq hat,setRow_heap _ _ _ _ _ _ hat]
  rw [m9 e,setRow_other _ _ _ _ e]
 obtain ⟨g1,g2⟩:=rC hr1 hbl (fz':=λ_=>False) (λ_ h=>h.elim) (λ_ h=>h.elim) λ_ _ _ h=>h;refine ⟨_,rfl,rfl,?_,g1,he1.trans g2⟩;show c.H.set 0 _=_;rw [hH]
 rfl
theorem nN (l:LL) (g:Bool) (ver:Nat) (hg:g=true->l=[]) {q} (h:dD l=some q) :
  dB Tryz.prog 122 [hS g 0 ver 1 l.length,.fn (.func 123) []] [bE g ver 1 41 (l.map<|cL cI)] (.tup []) [bE g ver 1 41 (q.map<|cL cI)]:=by
 obtain ⟨hl,h⟩:=gdD h;obtain rfl:=osl h;refine ⟨by kernel_rfl,λc vs hH hr hall=>?_⟩;obtain ⟨hsz,hrel⟩:=hall;obtain ⟨u,f,rfl⟩:∃ u f,vs = #[u,f]:=by
  match vs,hsz with
  | ⟨[u,f]⟩,_=>exact ⟨u,f,rfl⟩
 have hu:=hrel 0 _ u rfl rfl;obtain ⟨vs2,rfl,h5,_⟩:=qg<|hrel 1 _ f rfl rfl;obtain rfl:vs2 = #[]:=Array.eq_empty_of_size_eq_zero h5
 by_cases hn:0<l.length
 ·obtain rfl:g=false:=by
   cases g with
   | false=>rfl
   | true=>
    rw [hg rfl] at hn;exact absurd hn (by simp)
  refine (Dt hr hH hu hl hn).mono ?_;rintro e w' ⟨c',rfl,hw,hH',h1,h2⟩;exact ⟨_,c',Z,hw,hH',h1,h2,.tup Z λi x y hx=>by simp at hx⟩
 obtain rfl:l=[]:=M8 (by omega);obtain ⟨A,cap,rfl⟩:∃ A cap,u = .slice A 0 cap:=by
  cases g with
  | true=>
   cases hu with
   | fr h=>cases h;exact ⟨_,_,rfl⟩
  | false=>
   obtain ⟨A,cap,h6,_⟩:=ig hu;exact ⟨A,cap,h6⟩
 refine (show Calls Tryz.prog 122 _ _ _ from AnyF.slices_SortFunc_none { DJ with } A cap _ c.w).mono ?_;rintro e w' ⟨rfl,rfl⟩;refine ⟨_,c,Z,Z,?_,hr,Ext.refl c,.tup Z λi x y hx=>by simp at hx⟩;rw [hH,(jl []).eq_nil]
open Go.RowKit
def Cx.newF (c:Cx) (k:ABlk) (cs:Array Value) (fr:Nat×Nat):Cx:={ w:=c.w.alloc (.cells cs k.ty fr),fz:=c.fz,H:=c.H++[some k],φ:=λb=>if b=c.H.length then (c.w.heap.size,0) else c.φ b }
section
variable {c:Cx} {k:ABlk} {cs:Array Value} {fr:Nat×Nat}
theorem Cx.newF_live {b:Nat} {k':ABlk} (h:(c.newF k cs fr).live b k'):(b=c.H.length/\k'=k)\/(b<c.H.length/\c.live b k'):=Cx.new_live (cs:=#[]) h
theorem Cx.newF_ext (hr:HRel c) (k:ABlk) (cs:Array Value) (fr:Nat×Nat):Ext c (c.newF k cs fr) where
 os:=rfl
 tape:=rfl
 output:=rfl
 size:=by simp [Cx.newF]
 keep:=λg hg _=>Below.heap_alloc _ _ _ hg
 fz:=λ_ h=>h
 lg:=λ_ h => .inl h
 N:=by simp [Cx.newF]
 born:=λ_ _ h=>Cx.new_born (cs:=#[]) h
 hd:=λb ver x hb hx=>by
  obtain ⟨k',hl,hv,o,hc,hx'⟩:=Cx.hd_some hx;have hlt:=dA hb;rcases Cx.newF_live hl with ⟨rfl,_⟩ | ⟨_,hl'⟩
  ·omega
  have e:(c.newF k cs fr).φ b=c.φ b:=if_neg (by omega);rw [e] at hc hx';have hh:c.w.heap[(c.φ b).1]? = some o:=by
   rw [<- hc];exact (Below.heap_alloc _ _ _<|hr.live_lt hl').symm
  rw [<- hv];exact (Cx.hd_of hl' hh).trans hx'
 dx:=λb k' hl=>by
  rcases Cx.newF_live hl with ⟨rfl,rfl⟩ | ⟨hlt,hl'⟩
  ·left
   simp [Cx.newF]
  right
  exact ⟨b,k',hl',by rw [show (c.newF k cs fr).φ b=c.φ b from if_neg (by omega)]⟩
theorem Cx.newF_rel (hr:HRel c) (hs:0<k.s) (hf:k.rows.length*k.s<=cs.size) (hfr:∀ i,i<cs.size -> ¬ (fr.1<=i/\i<fr.2)) (hl:∀ (i:Nat) (row:List AV),k.rows[i]? = some row->row.length=k.s)
  (h:∀ (i:Nat) (row:List AV) (j:Nat) (a:AV),k.rows[i]? = some row->row[j]? = some a->∃ u,cs[i*k.s+j]? = some u/\u.oneCell'=true/\c.rel a u):HRel (c.newF k cs fr) where
 gl:=hr.glx<|Cx.newF_ext hr k cs fr
 lt:=λg hg=>by
  have := hr.lt g hg;simp [Cx.newF];omega
 blk:=λb k' hb=>by
  rcases Cx.newF_live hb with ⟨rfl,rfl⟩ | ⟨hlt,hl'⟩
  ·refine ⟨cs,some fr,?_⟩;have e:(c.newF k' cs fr).φ c.H.length=(c.w.heap.size,0):=if_pos rfl;refine ⟨by rw [e];exact heap_alloc_new _ _,by rw [e];exact λhz=>Nat.lt_irrefl _<|hr.lt _ hz,hs,λf hf i hi=>by cases hf;exact hfr i hi,by simp_all,hl,λi row j a h1 h2=>?_⟩;obtain ⟨u,h3,h4,h5⟩:=h i row j a h1 h2;exact ⟨u,by simp_all,h4,h5.ext hr<|Cx.newF_ext hr k' cs fr⟩
  obtain ⟨cs',fr',hB⟩:=hr.blk b k' hl';have e:(c.newF k cs fr).φ b=c.φ b:=if_neg (by omega);refine ⟨cs',fr',⟨by rw [e];exact (Below.heap_alloc _ _ _<|hr.live_lt hl').trans hB.at_,by rw [e];exact hB.nf,hB.pos,hB.free,by rw [e];exact hB.fits,hB.len,λi row j a h1 h2=>?_⟩⟩;obtain ⟨u,h3,h4,h5⟩:=hB.rel i row j a h1 h2;exact ⟨u,by simp_all,h4,h5.ext hr<|Cx.newF_ext hr k cs fr⟩
 inj:=λb b' k1 k2 h1 h2 hne=>by
  rcases Cx.newF_live h1 with ⟨rfl,rfl⟩ | ⟨hlt,hl'⟩
  ·rcases Cx.newF_live h2 with ⟨rfl,rfl⟩ | ⟨hlt2,hl2⟩
   ·omega
   have := hr.live_lt hl2;rw [show (c.newF k1 cs fr).φ c.H.length=(c.w.heap.size,0) from if_pos rfl,show (c.newF k1 cs fr).φ b'=c.φ b' from if_neg (by omega)];omega
  rcases Cx.newF_live h2 with ⟨rfl,rfl⟩ | ⟨hlt2,hl2⟩
  ·have := hr.live_lt hl';rw [show (c.newF k2 cs fr).φ c.H.length=(c.w.heap.size,0) from if_pos rfl,show (c.newF k2 cs fr).φ b=c.φ b from if_neg (by omega)];omega
  rw [show (c.newF k cs fr).φ b=c.φ b from if_neg (by omega),show (c.newF k cs fr).φ b'=c.φ b' from if_neg (by omega)];exact hr.inj b b' k1 k2 hl' hl2 hne
theorem Cx.newF_hs (c:Cx) (k:ABlk) (cs:Array Value) (fr:Nat×Nat) {n cap:Nat} (hn:n<=k.rows.length) (hc:n<=cap) (hm:cap<=9223372036854775807) (hs:cap*k.s<=cs.size):(c.newF k cs fr).rel (.hs c.H.length k.ver k.s 0 n) (.slice (some ⟨c.w.heap.size,0,none⟩) n cap):=by
 have hd:(c.newF k cs fr).hd c.H.length k.ver=some ⟨c.w.heap.size,0,k.s,k.rows.length,cs.size⟩:=by
  have := Cx.hd_of (c:=c.newF k cs fr) (o:=.cells cs k.ty fr) (Cx.new_live_new c k #[]) (by
   rw [show (c.newF k cs fr).φ c.H.length=(c.w.heap.size,0) from if_pos rfl];exact heap_alloc_new _ _)
  rw [show (c.newF k cs fr).φ c.H.length=(c.w.heap.size,0) from if_pos rfl] at this;exact this
 refine .hs (Cx.new_bornN c k #[]) hc hm (λ_=>⟨_,rfl⟩) λx hx=>?_;rw [hd] at hx
 grind
end
section
variable {P:Program} {ρ:Operand->AV} {H:AH} {x:Operand} {t d e:TypeId}
theorem EvA.s2b {s:ByteArray} (hs:P.underlying t=some .string) (hd:P.underlying d=some (.slice e)) (he:P.underlying e=some (.int .u8)) (hx:ρ x = .v (.string s)) (hn:s.size<=35184372088832) {bl:Nat} (hbl:H.length=bl) :
  EvA P ρ (.convert t d x) H (Go.Proofs.YtjcmfddobaplbaaGreat.hS false bl 0 1 (kv s).length) (H++[bE false 0 1 e ((kv s).map cY)]):=λo ho c a K Q hH hr hxs hK=>by
 subst hbl;have h1:=hxs x (by rw [ho];simp [Op.operands]);rw [hx] at h1;obtain ⟨h1,_⟩:=df h1;have hrun:=run_bytes_of_string c.w t d e s hs hd he;have hge:=grownCap_ge c.w s.size 0 e;have hle:=grownCap_le_maxLen c.w s.size 0 e (by unfold maxLen;omega);generalize grownCap c.w s.size 0 e=cap at hrun hge hle;have hlen:(kv s).length=s.size:=by simp [kv]
 have hsz:(bytesRow s cap).size=cap:=by simp [bytesRow];omega
 have hdr:=Cx.drew_rel hr;have hrel:=Cx.newF_rel (k:=⟨0,1,e,(kv s).map cY⟩) (cs:=bytesRow s cap) (fr:=((bytesRow s cap).size,(bytesRow s cap).size+1)) hdr Nat.one_pos (by simp [hlen];omega) (λi hi h=>by omega) (λi row h=>by
  rw [Na] at h;obtain ⟨b,_,rfl⟩:=Nc.1 h
  rfl) λi row j a h h2=>by
  rw [Na] at h;obtain ⟨b,hb,rfl⟩:=Nc.1 h
  match j,h2 with
  | 0,h2=>
   injection h2 with h2;subst h2;have hi:=(ges hb).1;refine ⟨.int .u8 b,?_,rfl,bu rfl⟩;have hi':i<s.data.size:=by rw [hlen] at hi;exact hi
   have h3:=bytesRow_at s cap i hi';have h4:b=(s.data[i].toNat:Int):=by
    unfold kv at hb;rw [Na,geq (by simpa using hi')] at hb;simpa using hb.symm
   simp only [Nat.mul_one,Nat.add_zero];rw [h3,h4]
 have hh:=Cx.newF_hs c.drew ⟨0,1,e,(kv s).map cY⟩ (bytesRow s cap) ((bytesRow s cap).size,(bytesRow s cap).size+1) (n:=s.size) (cap:=cap) (by simp [hlen]) hge (by unfold maxLen at hle;omega) (by simp [hsz]);unfold Oper.wp;have : (execOp a.eval o).run P c.w = .ok (.value<|.slice (some ⟨c.w.heap.size,0,none⟩) s.size cap) (c.w.drew.alloc<|.cells (bytesRow s cap) e ((bytesRow s cap).size,(bytesRow s cap).size+1)):=by
  rw [execOp,ho];simp only [h1];simp only [Sem.run_bind,hrun,Result.andThen_ok,Sem.run_pure]
 rw [this];refine hK _ (c.drew.newF ⟨0,1,e,(kv s).map cY⟩ (bytesRow s cap) ((bytesRow s cap).size,(bytesRow s cap).size+1)) (by rw [<- hH];rfl) hrel (c.drew_ext.trans<|Cx.newF_ext hdr _ _ _) ?_;rw [hlen,<- hH];exact hh
end
theorem su (p:List<|List GY) {q} (h:oI p=some q):aJ Tryz.prog 83 [eL (cL GY.c) p] (.ifc 114<|.fp (G3.c q) 0):=by
 refine pM Tryz.func83 Z (by kernel_rfl) Z<|jI<|oN as'<|jA<|jI<|oN mv<|oN (GU.build [eL (cL GY.c) p,Y U,Y U,Y U,Y U,Y U,Y U,Y U,Y U,Y U,Y U,Y U,Y U,Y U,Y U,Y U] Tryz.underlying118 FI kG Z Z)<|oN (GU.build [eL (cL GY.c) p,Y U,Y U,Y U,Y U,Y U,Y U,Y U,Y U,Y U,Y U,Y U,Y U,Y U,Y U,Y U] Tryz.underlying120 FK BV Z Z)<|oN (GU.bxF [eL (cL GY.c) p,Y U,Y U,Y U,Y U,Y U,Y U,Y U,Y U,Y U,Y U,Y U,Y U,Y U,Y U,Y U] Z Z Z)<|oN (GU.mkifc (.fp (G3.c (⟨(⟨p,(⟨U,U,U⟩:Z3b),(⟨(⟨U,U,U⟩:Z3b),(⟨U,U,U⟩:Z3b),(⟨U,U,U⟩:Z3b)⟩:Z33),(⟨U,U,U⟩:Z3b)⟩:GZ)⟩:G3)) 0) Tryz.underlying114 (λ_ h=>nomatch h) Z)<|oN as'<|jA<|jK ?_
 cases h
 exact dL Z Z Z
theorem iP (v:GZ) {q} (h:bA v=some q):aJ Tryz.prog 216 [.fp (GZ.c v) 0] (St q):=by
 refine pM Tryz.func216 Z (by kernel_rfl) Z<|jI<|oN as'<|jA<|jI<|oA (EvA.mkO (c:=cY) ([]:LI) [] nM Z Z Z qD Z Z)<|oN mv<|oN (nl Z)<|oN (GU.fafpS 3 Tryz.underlying118 Z (by kernel_rfl) Z Z (row2:=Z3b.c v.pc))<|oN (GU.slA ([v.pc.x0,v.pc.x1,v.pc.x2]:LI) Tryz.underlying115 Ha Z Z Z Z)<|jL h λg1 h=>oA (EvA.appF (l:=([]:LI)) ([v.pc.x0,v.pc.x1,v.pc.x2]:LI) nM (by kernel_rfl) Z Z Z (bg.fz (l:=([v.pc.x0,v.pc.x1,v.pc.x2]:LI)) Z qD) g1)<|oN (GU.asg (hS false 0 (0+1) 1<|(([]:LI)++([v.pc.x0,v.pc.x1,v.pc.x2]:LI)).length) Z)<|jA ?_;refine T.jF (G:=Nat) h (λs2 gh=>True) (λs2 gh=>[(3,hS false 0 gh 1 s2.length),(0,.fp (GZ.c v) 0)]) (λs2 gh=>[bE false gh 1 5 (s2.map cY)]) (λs2 u13 h hg=>?_) λs2 h=>?_
 ·refine jI<|oN mv<|oN mv<|oN (nl Z)<|oN (GU.fafpS 3 Tryz.underlying118 Z (by kernel_rfl) Z Z (row2:=Z3b.c v.mem))<|oN (GU.slA ([v.mem.x0,v.mem.x1,v.mem.x2]:LI) Tryz.underlying115 Ha Z Z Z Z)<|jL h λg14 h=>oA (EvA.appF (l:=s2) ([v.mem.x0,v.mem.x1,v.mem.x2]:LI) nM (by kernel_rfl) Z Z Z (bg.fz (l:=([v.mem.x0,v.mem.x1,v.mem.x2]:LI)) Z qD) g14)<|oA (EvA.b2s (l:=(s2++([v.mem.x0,v.mem.x1,v.mem.x2]:LI))) Tryz.underlying22 Tryz.underlying5 Tryz.underlying9 (Dz (g:=false) Z)<|bg.ow (g:=false) (l:=(s2++([v.mem.x0,v.mem.x1,v.mem.x2]:LI))) Z Z Z nofun)<|oN as'<|jA<|jK ?_
  cases h
  exact dL Z Z Z
 refine jI<|oN mv<|oN (nl Z)<|oN (GU.fafpS 9 Tryz.underlying118 Z (by kernel_rfl) Z Z (row2:=Z33.c v.reg))<|oN (lf (.agg<|Z33.c v.reg) Gf Z)<|oN mv<|jA<|jE ?_;refine jO (S:=(LI)×Int) (G:=Nat) (eG v) (λs6 gh=>True) (λs6 gh=>[(16,I s6.2),(15,.agg<|Z33.c v.reg),(3,hS false 0 gh 1 s6.1.length),(0,.fp (GZ.c v) 0)]) (λs6 gh=>[bE false gh 1 5 (s6.1.map cY)]) (s0:=((([]:LI)++([v.pc.x0,v.pc.x1,v.pc.x2]:LI)),U)) (0+1) h trivial (kw Z Z) λs6 u8 ws6 h hg=>?_;refine jI<|oN (GU.ilt Z Z)<|jA<|jH ?_;refine jN Z h (λq9 h=>?_) λq9 h=>?_
 ·refine jG<|jH<|jE<|jI<|jD h λg10 h=>oN (GU.ixag (.agg<|Z3b.c<|Z33.get v.reg s6.2) Tryz.underlying116 wA Z Z g10<|EK (P:=λ(z:Int)=>iK true 3 (Z33.c v.reg) (z.toNat*3)=some (.agg<|Z3b.c<|Z33.get v.reg z)) g10 Z Z Z)<|oA (EvA.al Gd Z Z)<|oV (sr (Z3b.c<|Z33.get v.reg s6.2) wA Z Z Z Z)<|jA<|jC<|oN mv<|TO.cut (e0:=ai [(19,hS false 0 u8 1 s6.1.length),(5,.fp (Z3b.c (⟨(Z33.get v.reg s6.2).x0,(Z33.get v.reg s6.2).x1,(Z33.get v.reg s6.2).x2⟩:Z3b)) 0),(16,I s6.2),(15,.agg<|Z33.c v.reg),(0,.fp (GZ.c v) 0)]) (H0:=[bE false u8 1 5 (s6.1.map cY)]) (pG Z (.cons (.list (g:=false) (ver:=u8) (l:=s6.1) qD) .nil)<|au (.hS (g:=false) (b:=0) (ver:=u8) (s:=1) (n:=s6.1.length) Z)<|au (.fz<|Fz.fpL (ver:=0) (s:=3) (ty:=115) (rows:=[[Y ((Z33.get v.reg s6.2).x0),Y ((Z33.get v.reg s6.2).x1),Y ((Z33.get v.reg s6.2).x2)]]) Z Z Z<|.cons (qC Z)<|.cons (qC Z)<|.cons (qC Z) .nil)<|au (.fz<|qC Z)<|au (.fz<|qC Z)<|au (.fz<|qC Z) bO)<|oN (GU.slA ([(⟨(Z33.get v.reg s6.2).x0,(Z33.get v.reg s6.2).x1,(Z33.get v.reg s6.2).x2⟩:Z3b).x0,(⟨(Z33.get v.reg s6.2).x0,(Z33.get v.reg s6.2).x1,(Z33.get v.reg s6.2).x2⟩:Z3b).x1,(⟨(Z33.get v.reg s6.2).x0,(Z33.get v.reg s6.2).x1,(Z33.get v.reg s6.2).x2⟩:Z3b).x2]:LI) Tryz.underlying115 Ha Z Z Z Z)<|jL h λg11 h=>oA (EvA.appF (l:=s6.1) ([(⟨(Z33.get v.reg s6.2).x0,(Z33.get v.reg s6.2).x1,(Z33.get v.reg s6.2).x2⟩:Z3b).x0,(⟨(Z33.get v.reg s6.2).x0,(Z33.get v.reg s6.2).x1,(Z33.get v.reg s6.2).x2⟩:Z3b).x1,(⟨(Z33.get v.reg s6.2).x0,(Z33.get v.reg s6.2).x1,(Z33.get v.reg s6.2).x2⟩:Z3b).x2]:LI) nM (by kernel_rfl) Z Z Z (bg.fz (l:=([(⟨(Z33.get v.reg s6.2).x0,(Z33.get v.reg s6.2).x1,(Z33.get v.reg s6.2).x2⟩:Z3b).x0,(⟨(Z33.get v.reg s6.2).x0,(Z33.get v.reg s6.2).x1,(Z33.get v.reg s6.2).x2⟩:Z3b).x1,(⟨(Z33.get v.reg s6.2).x0,(Z33.get v.reg s6.2).x1,(Z33.get v.reg s6.2).x2⟩:Z3b).x2]:LI)) Z qD) g11)<|oN (GU.asg (hS false 0 (u8+1) 1<|(s6.1++([(⟨(Z33.get v.reg s6.2).x0,(Z33.get v.reg s6.2).x1,(Z33.get v.reg s6.2).x2⟩:Z3b).x0,(⟨(Z33.get v.reg s6.2).x0,(Z33.get v.reg s6.2).x1,(Z33.get v.reg s6.2).x2⟩:Z3b).x1,(⟨(Z33.get v.reg s6.2).x0,(Z33.get v.reg s6.2).x1,(Z33.get v.reg s6.2).x2⟩:Z3b).x2]:LI)).length) Z) ?_;refine jA<|jC<|jW h λg12 h=>oN (GU.add Z Z g12)<|oN mv<|jA ?_;obtain rfl:=GX h;exact ⟨((s6.1++([(⟨(Z33.get v.reg s6.2).x0,(Z33.get v.reg s6.2).x1,(Z33.get v.reg s6.2).x2⟩:Z3b).x0,(⟨(Z33.get v.reg s6.2).x0,(Z33.get v.reg s6.2).x1,(Z33.get v.reg s6.2).x2⟩:Z3b).x1,(⟨(Z33.get v.reg s6.2).x0,(Z33.get v.reg s6.2).x1,(Z33.get v.reg s6.2).x2⟩:Z3b).x2]:LI)),(s6.2+V)),u8+1,Z,trivial,kw Z Z⟩
 refine jM<|lX h λh=>?_
 cases h
 exact ⟨u8,trivial,kw Z Z⟩
theorem lw (s:G3) {q} (h:bT s=some q):aJ Tryz.prog 211 [.fp (G3.c s) 0] (St q):=by
 refine pM Tryz.func211 Z (by kernel_rfl) Z<|jI<|oN as'<|jA<|jI<|oN mv<|oN (nl Z)<|oN (GU.fafpS 16 Tryz.underlying120 Z (by kernel_rfl) Z Z (row2:=GZ.c s.values))<|oC h (λ_=>iP _) Z Z Z Z λv1 _ h=>oN as'<|jA<|jK ?_
 cases h
 exact dL Z Z Z
theorem cn (v:GZ) (t:Int) {q} (h:aZ v t=some q):aJ Tryz.prog 214 [.fp (GZ.c v) 0,I t] (.tup [.agg (GY.c q.1),Bo q.2]):=by
 refine pM Tryz.func214 Z (by kernel_rfl) Z<|jI<|oA (EvA.al o8 Z Z)<|oN as'<|jA<|jH<|jH<|jP (λ_=>([],false)) (by kernel_rfl) (by kernel_rfl)<|fN Z mv<|fN Z mv<|fN Z (nl Z)<|fN Z (GU.fafpS 3 Tryz.underlying118 Z (by kernel_rfl) Z Z (row2:=Z3b.c v.pc))<|jD h λg1 h=>fN Z (GU.ixafp Tryz.underlying115 Ha Z Z g1)<|fN Z (lf1 (λz0=>Y<|Z3b.get v.pc z0) g1 Ha Z Z Z Z)<|jW h λg2 h=>?_;refine fN Z (GU.iconv Ha.und Tryz.underlying3 Z g2)<|fN Z mv<|fN Z (nl Z)<|fN Z (fa kG Z)<|fN Z (lf (eL (cL GY.c) v.p) Dg Z)<|fN Z mv<|jD h λg3 h=>fN Z (GU.ixL ib Z Z g3 qD)<|fN Z (lf (eL GY.c<|J v.p t) r9 Z)<|fN Z (GU.lenL mQ Z)<|fN Z (GU.ige Z Z)<|jR ?_;refine jN Z h (λq4 h=>?_) λq4 h=>?_
 ·refine jH<|T.clean (H0:=[some ⟨0,4,69,[[I U,I U,I U,I U]]⟩]) (e0:=ai [(4,.hp 0 0 4 0 0)]) Z (GR Z GQ)<|jC<|oN (GU.build [I U,I U,I U,I U] Tryz.underlying69 o8 fH Z Z)<|oV (sr [I U,I U,I U,I U] gB Z Z Z Z)<|oN as'<|jA<|jK ?_;obtain rfl:=GX h
  repeat (first|refine iG ?_|refine iH ?_)
  exact jQ (vs:=[.agg [I U,I U,I U,I U],Bo false]) (.cons (.cell (.agg [I U,I U,I U,I U]) gB Z Z Z Z Z Z)<|.cons (.tmp Z) .nil)<|.tupL<|.cons (qC Z)<|.cons (qC Z) .nil
 refine jG<|jH<|T.clean (H0:=[some ⟨0,4,69,[[I U,I U,I U,I U]]⟩]) (e0:=ai [(4,.hp 0 0 4 0 0),(0,.fp (GZ.c v) 0),(1,I t)]) Z (GR Z<|GR Z<|GR Z GQ)<|jP (dG [dF,dF,dF,dF,dF,dF,dF,dF,dF,dF,dF,dF,dF,dF,dF,([0],true),dF]) (by kernel_rfl) (by kernel_rfl)<|fN Z mv<|fN Z (nl Z)<|fN Z (fa kG Z)<|fN Z (lf (eL (cL GY.c) v.p) Dg Z)<|fN Z mv<|fN Z (GU.ixL ib Z Z g3 qD)<|fN Z (lf (eL GY.c<|J v.p t) r9 Z)<|fN Z mv<|fN Z mv<|fN Z (nl Z)<|fN Z (GU.fafpS 3 Tryz.underlying118 Z (by kernel_rfl) Z Z (row2:=Z3b.c v.pc))<|fN Z (GU.ixafp Tryz.underlying115 Ha Z Z g1) ?_;refine fN Z (lf1 (λz0=>Y<|Z3b.get v.pc z0) g1 Ha Z Z Z Z)<|jD h λg5 h=>fN Z (GU.ixL mQ Z Z g5 qD)<|fN Z (lf (.agg<|GY.c<|J (J v.p t)<|Z3b.get v.pc t) gB Z)<|fV 0 [] Z Z (λG hG=>EvA.st (cs:=(GY.c<|J (J v.p t)<|Z3b.get v.pc t)) ⟨0,4,69,[(GY.c<|J (J v.p t)<|Z3b.get v.pc t)]⟩ gB Z Z (hG.a0 Z) Z Z Z Z Z Z)<|fN Z as'<|jR<|jK ?_;obtain rfl:=GX h
 repeat (first|refine iG ?_|refine iH ?_)
 exact jQ (vs:=[.agg (GY.c<|J (J v.p t)<|Z3b.get v.pc t),Bo true]) (.cons (.cell (.agg<|GY.c<|J (J v.p t)<|Z3b.get v.pc t) gB Z Z Z Z Z Z)<|.cons (.tmp Z) .nil)<|.tupL<|.cons (qC Z)<|.cons (qC Z) .nil
theorem gV (v:GZ) {q} (h:aW v=some q):aJ Tryz.prog 209 [.fp (GZ.c v) 0] (Bo q):=by
 refine pM Tryz.func209 Z (by kernel_rfl) Z<|jI<|oN as'<|jA ?_;obtain ⟨Ks1,es1,ws1,h,ks1⟩:=zN h;refine T.join (S:=Unit) (G:=Unit) (λs1=>Ks1 s1=some q) (λs1 gh=>True) (λs1 gh=>[]) (λs1 gh=>[]) (λs1 gh h hg=>?_) ?_
 ·clear ks1;subst es1;refine jI<|oN as'<|jA<|jK ?_
  cases h
  exact dL Z Z Z
 refine jI<|oN mv<|oN (nl Z)<|oN (fa kG Z)<|oN (lf (eL (cL GY.c) v.p) Dg Z)<|oN (GU.lenL ib Z)<|oN mv<|jA<|jE ?_;refine T.lU h (λs4=>[(11,I s4),(10,I (v.p.length:Int)),(0,.fp (GZ.c v) 0)]) (λs4=>[]) (kw Z Z) λs4 ws4 h=>?_;refine jI<|oN (GU.ilt Z Z)<|jA<|jH ?_;refine jN Z h (λq6 h=>?_) λq6 h=>?_
 ·refine jG<|jH<|jE<|jI<|oN mv<|oN as'<|jA<|jI<|oN mv<|oN mv<|oC h (λ_=>cn _ _) Z Z Z Z λv7 _ h=>oN mv<|oN (GU.ext (.agg<|GY.c v7.1) Z Z)<|oN (GU.ext (Bo v7.2) Z Z)<|oA (EvA.al o8 Z Z)<|oV (sr (GY.c v7.1) gB Z Z Z Z) ?_;refine oN as'<|jA<|jI<|oN mv<|jA ?_;refine jN Z h (λq8 h=>?_) λq8 h=>?_
  ·refine jI<|oN as'<|jA<|jK<|lX h λh=>?_;obtain rfl:=GX h;replace h:=congrArg some (show _=_ from ks1)
   cases h
   exact dL Z Z Z
  refine jG<|jC<|jW h λg9 h=>oN (GU.add Z Z g9)<|oN mv<|jA ?_;exact lE h<|pG Z .nil<|au (.fz<|qC Z)<|au (.fz<|qC Z)<|au (.fz<|qC Z) bO
 refine jM<|lX h λh=>?_
 cases h
 exact ⟨(),(),ks1,trivial,kw Z Z⟩
theorem p8 (s:G3) {q} (h:bV s=some q):aJ Tryz.prog 210 [.fp (G3.c s) 0] (Bo q):=by
 refine pM Tryz.func210 Z (by kernel_rfl) Z<|jI<|oN as'<|jA<|jI<|oN mv<|oN (nl Z)<|oN (GU.fafpS 16 Tryz.underlying120 Z (by kernel_rfl) Z Z (row2:=GZ.c s.values))<|oC h (λ_=>gV _) Z Z Z Z λv1 _ h=>oN as'<|jA<|jK ?_
 cases h
 exact dL Z Z Z
theorem gW (v:GZ) {q} (h:aK v=some q):aJ Tryz.prog 213 [.fp (GZ.c v) 0] (eL cI q):=by
 refine pM Tryz.func213 Z (by kernel_rfl) Z<|jI<|oN as'<|jA<|jH<|T.reserve<|jC<|oN (GU.asg (hS true 0 0 1<|([]:LI).length) Z)<|jA ?_;refine T.jF (G:=(Bool×Nat)) h (λs1 gh=>(gh.1=true->s1=[])) (λs1 gh=>[(3,hS gh.1 0 gh.2 1 s1.length),(0,.fp (GZ.c v) 0)]) (λs1 gh=>[bE gh.1 gh.2 1 3 (s1.map cI)]) (λs1 gh h n36=>?_) λs1 h=>?_
 ·obtain ⟨b35,u34⟩:=gh;refine T.jF (G:=(Bool×Nat)) h (λs37 gh=>(gh.1=true->s37=[])) (λs37 gh=>[(3,hS gh.1 0 gh.2 1 s37.length)]) (λs37 gh=>[bE gh.1 gh.2 1 3 (s37.map cI)]) (λs37 gh h n55=>?_) λs37 h=>?_
  ·obtain ⟨b54,u53⟩:=gh;refine jI<|oN mv<|oN (GU.asg (hS b54 0 u53 1 s37.length) Z)<|jA<|jK ?_;obtain rfl:=GX h
   repeat (first|refine iG ?_|refine iH ?_)
   exact jQ (vs:=[hS b54 0 u53 1 s37.length]) (.cons (.tmp Z) .nil)<|Fz.own (g:=b54) (ver:=u53) (l:=s37) Z Z Z n55 qD
  refine jI<|oN mv<|oN (nl Z)<|oN (GU.fafpS 3 Tryz.underlying118 Z (by kernel_rfl) Z Z (row2:=Z3b.c v.mem))<|oN (lf (.agg<|Z3b.c v.mem) wA Z)<|oN mv<|jA<|jE ?_;refine jO (S:=(LI)×Int) (G:=(Bool×Nat)) (dm v) (λs43 gh=>(gh.1=true->s43.1=[])) (λs43 gh=>[(37,I s43.2),(36,.agg<|Z3b.c v.mem),(3,hS gh.1 0 gh.2 1 s43.1.length)]) (λs43 gh=>[bE gh.1 gh.2 1 3 (s43.1.map cI)]) (s0:=(s1,U)) (b35,u34) h n36 (kw Z Z) λs43 gh ws43 h n47=>?_;obtain ⟨b46,u45⟩:=gh;refine jI<|oN (GU.ilt Z Z)<|jA<|jH ?_;refine jN Z h (λq48 h=>?_) λq48 h=>?_
  ·refine jG<|jH<|jE<|jI<|jD h λg49 h=>oN (GU.ixag (Y<|Z3b.get v.mem s43.2) Tryz.underlying115 Ha Z Z g49<|EK (P:=λ(z:Int)=>iK false 1 (Z3b.c v.mem) (z.toNat*1)=some (Y<|Z3b.get v.mem z)) g49 Z Z Z)<|oN as'<|jA<|jC<|oN mv<|oN mv<|jW h λg50 h=>oN (GU.iconv Ha.und Tryz.underlying3 Z g50)<|oN (GU.mkF (c:=cI) ([(Z3b.get v.mem s43.2)]:LI) [[I (Z3b.get v.mem s43.2)]] mV Z Z Z qD qD Z)<|jL h λg51 h=>oA (EvA.app1 (g:=b46) (l:=s43.1) (Z3b.get v.mem s43.2) mV (by kernel_rfl) Z Z Z n47 (bg.fz (l:=([(Z3b.get v.mem s43.2)]:LI)) Z qD) g51) ?_;refine oN (GU.asg (hS false 0 (u45+1) 1<|(s43.1++[(Z3b.get v.mem s43.2)]).length) Z)<|jA<|jC<|jW h λg52 h=>oN (GU.add Z Z g52)<|oN mv<|jA ?_;obtain rfl:=GX h;exact ⟨((s43.1++[(Z3b.get v.mem s43.2)]),(s43.2+V)),(false,u45+1),Z,nofun,kw Z Z⟩
  refine jM<|lX h λh=>?_
  cases h
  exact ⟨(b46,u45),n47,kw Z Z⟩
 refine jI<|oN mv<|oN (nl Z)<|oN (fa kG Z)<|oN (lf (eL (cL GY.c) v.p) Dg Z)<|oN (GU.lenL ib Z)<|oN mv<|jA<|jE ?_;refine jO (S:=(LI)×Int) (G:=(Bool×Nat)) (dE v) (λs7 gh=>(gh.1=true->s7.1=[])) (λs7 gh=>[(14,I s7.2),(13,I (v.p.length:Int)),(3,hS gh.1 0 gh.2 1 s7.1.length),(0,.fp (GZ.c v) 0)]) (λs7 gh=>[bE gh.1 gh.2 1 3 (s7.1.map cI)]) (s0:=(([]:LI),U)) (true,0) h qD (kw Z Z) λs7 gh ws7 h n11=>?_;obtain ⟨b10,u9⟩:=gh;refine jI<|oN (GU.ilt Z Z)<|jA<|jH ?_;refine jN Z h (λq12 h=>?_) λq12 h=>?_
 ·refine jG ?_;refine T.jF (G:=(Bool×Nat)) h (λs13 gh=>(gh.1=true->s13=[])) (λs13 gh=>[(14,I s7.2),(13,I (v.p.length:Int)),(3,hS gh.1 0 gh.2 1 s13.length),(0,.fp (GZ.c v) 0)]) (λs13 gh=>[bE gh.1 gh.2 1 3 (s13.map cI)]) (λs13 gh h n32=>?_) λs13 h=>?_
  ·obtain ⟨b31,u30⟩:=gh;refine jC<|jW h λg33 h=>oN (GU.add Z Z g33)<|oN mv<|jA ?_;obtain rfl:=GX h;exact ⟨(s13,(s7.2+V)),(b31,u30),Z,n32,kw Z Z⟩
  refine jE<|jI<|oN mv<|oN as'<|jA<|jI<|oN mv<|oN mv<|oN (nl Z)<|oN (GU.fafpS 9 Tryz.underlying118 Z (by kernel_rfl) Z Z (row2:=Z33.c v.reg))<|jD h λg14 h=>oN (GU.ixafp Tryz.underlying116 wA Z Z g14)<|oN (lf1 (λz0 => .agg<|Z3b.c<|Z33.get v.reg z0) g14 wA Z Z Z Z)<|oN mv<|jA<|jE ?_;refine jO (S:=(LI)×Int) (G:=(Bool×Nat)) (di v s7) (λs20 gh=>(gh.1=true->s20.1=[])) (λs20 gh=>[(23,I s20.2),(22,.agg<|Z3b.c<|Z33.get v.reg s7.2),(14,I s7.2),(13,I (v.p.length:Int)),(3,hS gh.1 0 gh.2 1 s20.1.length),(0,.fp (GZ.c v) 0)]) (λs20 gh=>[bE gh.1 gh.2 1 3 (s20.1.map cI)]) (s0:=(s7.1,U)) (b10,u9) h n11 (kw Z Z) λs20 gh ws20 h n24=>?_;let d0:=Z3b.get (Z33.get v.reg s7.2) s20.2;obtain ⟨b23,u22⟩:=gh;refine jI<|oN (GU.ilt Z Z)<|jA<|jH ?_;refine jN Z h (λq25 h=>?_) λq25 h=>?_
  ·refine jG<|jH<|jE<|jI<|jD h λg26 h=>oN (GU.ixag (Y d0) Tryz.underlying115 Ha Z Z g26<|EK (P:=λ(z:Int)=>iK false 1 (Z3b.c<|Z33.get v.reg s7.2) (z.toNat*1)=some (Y<|Z3b.get (Z33.get v.reg s7.2) z)) g26 Z Z Z)<|oN as'<|jA<|jC<|oN mv<|oN mv<|jW h λg27 h=>oN (GU.iconv Ha.und Tryz.underlying3 Z g27)<|oN (GU.mkF (c:=cI) ([d0]:LI) [[I d0]] mV Z Z Z qD qD Z)<|jL h λg28 h=>oA (EvA.app1 (g:=b23) (l:=s20.1) d0 mV (by kernel_rfl) Z Z Z n24 (bg.fz (l:=([d0]:LI)) Z qD) g28) ?_;refine oN (GU.asg (hS false 0 (u22+1) 1<|(s20.1++[d0]).length) Z)<|jA<|jC<|jW h λg29 h=>oN (GU.add Z Z g29)<|oN mv<|jA ?_;obtain rfl:=GX h;exact ⟨((s20.1++[d0]),(s20.2+V)),(false,u22+1),Z,nofun,kw Z Z⟩
  refine jM<|lX h λh=>?_
  cases h
  exact ⟨(b23,u22),n24,kw Z Z⟩
 refine jM<|lX h λh=>?_
 cases h
 exact ⟨(b10,u9),n11,kw Z Z⟩
theorem oZ (s:G3) {q} (h:cZ s=some q):aJ Tryz.prog 212 [.fp (G3.c s) 0] (eL cI q):=by
 refine pM Tryz.func212 Z (by kernel_rfl) Z<|jI<|oN as'<|jA<|jH<|T.reserve<|jC<|oN (GU.asg (hS true 0 0 1<|([]:LI).length) Z)<|jA ?_;refine T.jF (G:=(Bool×Nat)) h (λs1 gh=>(gh.1=true->s1=[])) (λs1 gh=>[(3,hS gh.1 0 gh.2 1 s1.length)]) (λs1 gh=>[bE gh.1 gh.2 1 3 (s1.map cI)]) (λs1 gh h n23=>?_) λs1 h=>?_
 ·obtain ⟨b22,u21⟩:=gh;refine jI<|oN mv<|oN (GU.asg (hS b22 0 u21 1 s1.length) Z)<|jA<|jK ?_;obtain rfl:=GX h
  repeat (first|refine iG ?_|refine iH ?_)
  exact jQ (vs:=[hS b22 0 u21 1 s1.length]) (.cons (.tmp Z) .nil)<|Fz.own (g:=b22) (ver:=u21) (l:=s1) Z Z Z n23 qD
 refine jI<|oN mv<|oN (nl Z)<|oN (GU.fafpS 16 Tryz.underlying120 Z (by kernel_rfl) Z Z (row2:=GZ.c s.values))<|oN (fa kG Z)<|oN (lf (eL (cL GY.c) s.values.p) Dg Z)<|oN (GU.lenL ib Z)<|oN mv<|jA<|jE ?_;refine jO (S:=(LI)×Int) (G:=(Bool×Nat)) (f9 s) (λs7 gh=>(gh.1=true->s7.1=[])) (λs7 gh=>[(13,I s7.2),(12,I (s.values.p.length:Int)),(3,hS gh.1 0 gh.2 1 s7.1.length),(0,.fp (G3.c s) 0)]) (λs7 gh=>[bE gh.1 gh.2 1 3 (s7.1.map cI)]) (s0:=(([]:LI),U)) (true,0) h qD (kw Z Z) λs7 gh ws7 h n11=>?_;obtain ⟨b10,u9⟩:=gh;refine jI<|oN (GU.ilt Z Z)<|jA<|jH ?_;refine jN Z h (λq12 h=>?_) λq12 h=>?_
 ·refine jG ?_;refine T.jF (G:=(Bool×Nat)) h (λs13 gh=>(gh.1=true->s13=[])) (λs13 gh=>[(3,hS gh.1 0 gh.2 1 s13.length),(13,I s7.2),(12,I (s.values.p.length:Int)),(0,.fp (G3.c s) 0)]) (λs13 gh=>[bE gh.1 gh.2 1 3 (s13.map cI)]) (λs13 gh h n19=>?_) λs13 h=>?_
  ·obtain ⟨b18,u17⟩:=gh;refine jC<|jW h λg20 h=>oN (GU.add Z Z g20)<|oN mv<|jA ?_;obtain rfl:=GX h;exact ⟨(s13,(s7.2+V)),(b18,u17),Z,n19,kw Z Z⟩
  refine jE<|jI<|oN mv<|oN as'<|jA<|jI<|oN mv<|oN (nl Z)<|oN (GU.fafpS 16 Tryz.underlying120 Z (by kernel_rfl) Z Z (row2:=GZ.c s.values))<|oN mv<|oC h (λ_=>cn _ _) Z Z Z Z λv14 _ h=>oN mv<|oN (GU.ext (.agg<|GY.c v14.1) Z Z)<|oN (GU.ext (Bo v14.2) Z Z)<|oA (EvA.al o8 Z Z)<|oV (sr (GY.c v14.1) gB Z Z Z Z) ?_;refine oN as'<|jA<|jI<|oN mv<|jA ?_;refine jN Z h (λq15 h=>?_) λq15 h=>?_
  ·refine jC<|oN mv<|oN mv<|oN (GU.mkF (c:=cI) ([s7.2]:LI) [[I s7.2]] mV Z Z Z qD qD Z)<|jL h λg16 h=>oA (EvA.app1 (g:=b10) (l:=s7.1) s7.2 mV (by kernel_rfl) Z Z Z n11 (bg.fz (l:=([s7.2]:LI)) Z qD) g16)<|oN (GU.asg (hS false 0 (u9+1) 1<|(s7.1++[s7.2]).length) Z)<|jA ?_;obtain rfl:=GX h;exact ⟨(false,u9+1),nofun,pG Z (.cons (.list (g:=false) (ver:=u9+1) (l:=(s7.1++[s7.2])) qD) .nil)<|au (.hS (g:=false) (b:=0) (ver:=u9+1) (s:=1) (n:=(s7.1++[s7.2]).length) Z)<|au (.fz<|qC Z)<|au (.fz<|qC Z)<|au (.fz<|qC Z) bO⟩
  refine jG ?_;obtain rfl:=GX h;exact ⟨(b10,u9),n11,pG Z (.cons (.list (g:=b10) (ver:=u9) (l:=s7.1) qD) .nil)<|au (.hS (g:=b10) (b:=0) (ver:=u9) (s:=1) (n:=s7.1.length) Z)<|au (.fz<|qC Z)<|au (.fz<|qC Z)<|au (.fz<|qC Z) bO⟩
 refine jM<|lX h λh=>?_
 cases h
 exact ⟨(b10,u9),n11,kw Z Z⟩
theorem ic (v:GZ) (t:Int) (x:GY) {q} (h:cm v t x=some q):aJ Tryz.prog 215 [.fp (GZ.c v) 0,I t,.agg (GY.c x)] (Y q):=by
 refine pM Tryz.func215 Z (by kernel_rfl) Z<|jI<|oN (GU.bxF (GY.c x) Z Z Z)<|oN as'<|jA<|jH<|jI<|oN (fa fH Z)<|oN (lf (I x.Op) G9 Z)<|oN (GU.ieq Z Z)<|jA ?_;refine jN Z h (λq1 h=>?_) λq1 h=>?_
 ·refine jH<|jP (λ_=>([],false)) (by kernel_rfl) (by kernel_rfl)<|fN Z mv<|fN Z mv<|fN Z (fa fH Z)<|fN Z (lf (I x.Reg) G9 Z)<|fN Z (nl Z)<|fN Z (GU.fafpS 9 Tryz.underlying118 Z (by kernel_rfl) Z Z (row2:=Z33.c v.reg))<|jD h λg2 h=>fN Z (GU.ixafp Tryz.underlying116 wA Z Z g2)<|jD h λg3 h=>fN Z (GU.ixafp Tryz.underlying115 Ha Z Z g3)<|fN Z (lf2 (λz0 z1=>Y<|Z3b.get (Z33.get v.reg z0) z1) g2 g3 Ha Z ⟨Z,Z,Z,Z,Z,Z,Z,Z,Z⟩)<|fN Z as'<|jR<|jK ?_
  cases h
  exact dL Z Z Z
 refine jG<|jI<|oN (fa fH Z)<|oN (lf (I x.Val) G9 Z)<|jW h λg4 h=>oN (GU.iconv G9.und Tryz.underlying5 Z g4)<|oN as'<|jA<|jK ?_
 cases h
 exact dL Z Z Z
theorem fI (x:GY) {q} (h:bB x=some q):aJ Tryz.prog 78 [.agg (GY.c x)] (Bo q):=by
 refine pM Tryz.func78 Z (by kernel_rfl) Z<|jI<|oN (GU.bxF (GY.c x) Z Z Z)<|oN as'<|jA<|jI<|oN (fa fH Z)<|oN (lf (I x.Op) G9 Z)<|oN (GU.ieq Z Z)<|oN mv ?_;refine TO.jB h 4 (λs1=>[(10,Bo s1)]) (λs1=>[]) (λs1 q2 h js1=>?_) (λs1 q2 h js1=>?_) λs1 h=>?_
 ·refine gS Z q2<|gS Z q2<|gS Z q2<|oN (GU.pickT Z q2 (Bo true) Z) ?_
  cases h
  exact js1 _ _<|kw Z Z
 ·refine gN Z q2 (fa fH Z)<|gN Z q2 (lf (I x.Op) G9 Z)<|gN Z q2 (GU.ieq Z Z)<|oN (GU.pickF Z q2 (Bo<|x.Op==(5:Int)) Z) ?_
  cases h
  exact js1 _ _<|kw Z Z
 refine oN as'<|jA<|jK ?_
 cases h
 exact dL Z Z Z
theorem mh (x:GY) {q} (h:dR x=some q):aJ Tryz.prog 95 [.agg (GY.c x)] (Bo q):=by
 refine pM Tryz.func95 Z (by kernel_rfl) Z<|jI<|oN (GU.bxF (GY.c x) Z Z Z)<|oN as'<|jA<|jI<|oN (fa fH Z)<|oN (lf (I x.Op) G9 Z)<|oN (GU.ieq Z Z)<|oN mv ?_;refine TO.jB h 4 (λs1=>[(10,Bo s1),(1,.fp (GY.c x) 0)]) (λs1=>[]) (λs1 q2 h js1=>?_) (λs1 q2 h js1=>?_) λs1 h=>?_
 ·refine gS Z q2<|gS Z q2<|gS Z q2<|oN (GU.pickT Z q2 (Bo true) Z) ?_
  cases h
  exact js1 _ _<|kw Z Z
 ·refine gN Z q2 (fa fH Z)<|gN Z q2 (lf (I x.Op) G9 Z)<|gN Z q2 (GU.ieq Z Z)<|oN (GU.pickF Z q2 (Bo<|x.Op==(3:Int)) Z) ?_
  cases h
  exact js1 _ _<|kw Z Z
 refine oN mv ?_;refine TO.jB h 4 (λs3=>[(15,Bo s3)]) (λs3=>[]) (λs3 q4 h js3=>?_) (λs3 q4 h js3=>?_) λs3 h=>?_
 ·refine gS Z q4<|gS Z q4<|gS Z q4<|oN (GU.pickT Z q4 (Bo true) Z) ?_
  cases h
  exact js3 _ _<|kw Z Z
 ·refine gN Z q4 (fa fH Z)<|gN Z q4 (lf (I x.Op) G9 Z)<|gN Z q4 (GU.ieq Z Z)<|oN (GU.pickF Z q4 (Bo<|x.Op==(5:Int)) Z) ?_
  cases h
  exact js3 _ _<|kw Z Z
 refine oN as'<|jA<|jK ?_
 cases h
 exact dL Z Z Z
theorem o5 (s:G3) (t:Int) {q} (h:da s t=some q):aJ Tryz.prog 208 [.fp (G3.c s) 0,I t] (.ifc 114<|.fp (G3.c q) 0):=by
 let d0:=(Z3b.set s.values.pc t<|(Z3b.get s.values.pc t)+V);refine pM Tryz.func208 Z (by kernel_rfl) Z<|jI<|oN as'<|jA<|jI<|oN mv<|oN (nl Z)<|oN (lf (.agg<|G3.c s) FJ Z)<|oA (EvA.al FK Z Z)<|oV (sr (G3.c s) FJ Z Z Z Z)<|jA<|jI<|oN mv<|oN (nl Z)<|oN (GU.fafpS 16 Tryz.underlying120 Z (by kernel_rfl) Z Z (row2:=GZ.c s.values))<|oN mv ?_;refine oC h (λ_=>cn _ _) Z Z Z Z λv1 _ h=>oN mv<|oN (GU.ext (.agg<|GY.c v1.1) Z Z)<|oN (GU.ext (Bo v1.2) Z Z)<|oA (EvA.al o8 Z Z)<|oV (sr (GY.c v1.1) gB Z Z Z Z)<|oN as'<|jA<|jI<|oN mv<|oN (fa BV Z)<|oN (fa kG Z)<|jD h λg2 h=>oN (GU.ixahp Tryz.underlying115 Ha Z Z g2)<|oA (lh1 (λz0=>Y<|Z3b.get s.values.pc z0) g2 Ha Z Z Z Z Z)<|jW h λg3 h=>?_;refine oN (GU.add Z Z g3)<|oN (fa BV Z)<|oN (fa kG Z)<|oN (GU.ixahp Tryz.underlying115 Ha Z Z g2)<|oV (sr1 (λz0=>(G3.c (⟨(⟨s.values.p,(Z3b.set s.values.pc z0<|(Z3b.get s.values.pc t)+V),s.values.reg,s.values.mem⟩:GZ)⟩:G3))) g2 Ha Z Z Z Z Z Z)<|jA<|jH<|T.clean (H0:=[some ⟨0,16,120,[(G3.c (⟨(⟨s.values.p,d0,s.values.reg,s.values.mem⟩:GZ)⟩:G3))]⟩,some ⟨0,4,69,[(GY.c v1.1)]⟩]) (e0:=ai [(6,.hp 1 0 4 0 0),(5,.hp 0 0 16 0 0),(0,.fp (G3.c s) 0),(1,I t)]) Z (GR Z<|GR Z<|GR Z<|GR Z GQ)<|jP (dG [dF,dF,dF,dF,([1],false),dF,dF]) (by kernel_rfl) (by kernel_rfl)<|fN Z mv<|fN Z (nl Z)<|fN Z (GU.fafpS 16 Tryz.underlying120 Z (by kernel_rfl) Z Z (row2:=GZ.c s.values))<|fN Z mv<|fR [1] Z (λG hG=>EvA.loadhp (.agg<|GY.c v1.1) gB Z (hG.a0 Z) Z Z Z Z)<|fC h (λ_=>ic _ _ _) Z Z Z Z Z λv4 _ h=>fN Z as' ?_;refine jR ?_;refine T.jU h (λs5=>[(8,Y v4),(6,.hp 1 0 4 0 0),(5,.hp 0 0 16 0 0)]) (λs5=>[some ⟨0,16,120,[(G3.c (⟨(⟨s.values.p,d0,(⟨(⟨s5.1,s5.2.1,s5.2.2.1⟩:Z3b),(⟨s5.2.2.2.1,s5.2.2.2.2.1,s5.2.2.2.2.2.1⟩:Z3b),(⟨s5.2.2.2.2.2.2.1,s5.2.2.2.2.2.2.2.1,s5.2.2.2.2.2.2.2.2⟩:Z3b)⟩:Z33),s.values.mem⟩:GZ)⟩:G3))]⟩,some ⟨0,4,69,[(GY.c v1.1)]⟩]) (λs5 h=>?_) λs5 h=>?_
 ·refine T.jU h (λs10=>[(5,.hp 0 0 16 0 0)]) (λs10=>[some ⟨0,16,120,[(G3.c (⟨(⟨s.values.p,d0,(⟨(⟨s5.1,s5.2.1,s5.2.2.1⟩:Z3b),(⟨s5.2.2.2.1,s5.2.2.2.2.1,s5.2.2.2.2.2.1⟩:Z3b),(⟨s5.2.2.2.2.2.2.1,s5.2.2.2.2.2.2.2.1,s5.2.2.2.2.2.2.2.2⟩:Z3b)⟩:Z33),(⟨s10.1,s10.2.1,s10.2.2⟩:Z3b)⟩:GZ)⟩:G3))]⟩,some ⟨0,4,69,[(GY.c v1.1)]⟩]) (λs10 h=>?_) λs10 h=>?_
  ·refine jI<|oN (GU.mkifc (.hp 0 0 16 0 0) Tryz.underlying114 (λ_ h=>nomatch h) Z)<|oN as'<|jA<|jK ?_;obtain rfl:=GX h
   repeat (first|refine iG ?_|refine iH ?_)
   exact jQ (vs:=[.ifc 114 (.hp 0 0 16 0 0)]) (.cons (.tmp Z) .nil)<|.ifc<|Fz.fpL (ver:=0) (s:=16) (ty:=120) (rows:=[[eL (cL GY.c) s.values.p,Y (d0.x0),Y (d0.x1),Y (d0.x2),Y s5.1,Y s5.2.1,Y s5.2.2.1,Y s5.2.2.2.1,Y s5.2.2.2.2.1,Y s5.2.2.2.2.2.1,Y s5.2.2.2.2.2.2.1,Y s5.2.2.2.2.2.2.2.1,Y s5.2.2.2.2.2.2.2.2,Y s10.1,Y s10.2.1,Y s10.2.2]]) Z Z Z<|.cons (qC Z)<|.cons (qC Z)<|.cons (qC Z)<|.cons (qC Z)<|.cons (qC Z)<|.cons (qC Z)<|.cons (qC Z)<|.cons (qC Z)<|.cons (qC Z)<|.cons (qC Z)<|.cons (qC Z)<|.cons (qC Z)<|.cons (qC Z)<|.cons (qC Z)<|.cons (qC Z)<|.cons (qC Z) .nil
  refine jI<|oA (lh (.agg<|GY.c v1.1) gB Z Z Z)<|oC h (λ_=>mh _) Z Z Z Z λv11 _ h=>jA ?_;refine jN Z h (λq12 h=>?_) λq12 h=>?_
  ·refine jC<|oN (fa fH Z)<|oA (lh (I v1.1.Loc) G9 Z Z Z)<|oN mv<|oN (fa BV Z)<|oN (fa kG Z)<|jD h λg13 h=>oN (GU.ixahp Tryz.underlying115 Ha Z Z g13)<|oV (sr1 (λz0=>(G3.c (⟨(⟨s.values.p,d0,(⟨(⟨s5.1,s5.2.1,s5.2.2.1⟩:Z3b),(⟨s5.2.2.2.1,s5.2.2.2.2.1,s5.2.2.2.2.2.1⟩:Z3b),(⟨s5.2.2.2.2.2.2.1,s5.2.2.2.2.2.2.2.1,s5.2.2.2.2.2.2.2.2⟩:Z3b)⟩:Z33),(Z3b.set s.values.mem z0 v4)⟩:GZ)⟩:G3))) g13 Ha Z Z Z Z Z Z)<|jA ?_
   cases h
   exact ⟨(),trivial,kw Z Z⟩
  refine jG ?_
  cases h
  exact ⟨(),trivial,kw Z Z⟩
 refine jI<|oA (lh (.agg<|GY.c v1.1) gB Z Z Z)<|oC h (λ_=>fI _) Z Z Z Z λv6 _ h=>jA ?_;refine jN Z h (λq7 h=>?_) λq7 h=>?_
 ·refine jP (dG [dF,dF,([1],false),dF,dF,([1],false),dF,dF,dF,dF,dF,dF,dF,dF,dF,([0],true)]) (by kernel_rfl) (by kernel_rfl)<|fN Z mv<|fN Z (fa fH Z)<|fR [1] Z (λG hG=>EvA.loadhp (I v1.1.Reg) G9 Z (hG.a0 Z) Z Z Z Z)<|fN Z mv<|fN Z (fa fH Z)<|fR [1] Z (λG hG=>EvA.loadhp (I v1.1.Loc) G9 Z (hG.a0 Z) Z Z Z Z)<|fN Z (nl Z)<|fN Z (GU.fafpS 16 Tryz.underlying120 Z (by kernel_rfl) Z Z (row2:=GZ.c s.values))<|fN Z (GU.fafpS 3 Tryz.underlying118 Z (by kernel_rfl) Z Z (row2:=Z3b.c s.values.mem))<|jD h λg8 h=>fN Z (GU.ixafp Tryz.underlying115 Ha Z Z g8)<|fN Z (lf1 (λz0=>Y<|Z3b.get s.values.mem z0) g8 Ha Z Z Z Z)<|fN Z (fa BV Z)<|fN Z (fa kG Z)<|fN Z (GU.ixahp Tryz.underlying116 wA Z Z g2) ?_;refine jD h λg9 h=>fN Z (GU.ixahp Tryz.underlying115 Ha Z Z g9)<|fV 0 [] Z Z (λG hG=>sr2 (λz0 z1=>(G3.c (⟨(⟨s.values.p,d0,(⟨((Z33.set s.values.reg z0<|Z3b.set (Z33.get s.values.reg z0) z1<|Z3b.get s.values.mem v1.1.Loc).x0),((Z33.set s.values.reg z0<|Z3b.set (Z33.get s.values.reg z0) z1<|Z3b.get s.values.mem v1.1.Loc).x1),((Z33.set s.values.reg z0<|Z3b.set (Z33.get s.values.reg z0) z1<|Z3b.get s.values.mem v1.1.Loc).x2)⟩:Z33),s.values.mem⟩:GZ)⟩:G3))) g2 g9 Ha Z Z (hG.a0 Z) ⟨Z,Z,Z,Z,Z,Z,Z,Z,Z⟩)<|jR ?_
  cases h
  exact ⟨(),trivial,kw Z Z⟩
 refine jG ?_
 cases h
 exact ⟨(),trivial,kw Z Z⟩
theorem kH (s1_:LI) (s2_:LI) {q} (h:cO s1_ s2_=some q):aJ Tryz.prog 98 [eL cI s1_,eL cI s2_] (Bo q):=by
 refine pM Tryz.func98 Z (by kernel_rfl) Z<|jI<|oN as'<|jA<|jH<|jI<|oN mv<|oN (GU.lenL mV Z)<|oN mv<|oN (GU.lenL mV Z)<|oN (GU.ine Z Z)<|jA ?_;refine jN Z h (λq1 h=>?_) λq1 h=>?_
 ·refine jI<|oN as'<|jA<|jK ?_
  cases h
  exact dL Z Z Z
 refine jG ?_;obtain ⟨Ks2,es2,ws2,h,ks2⟩:=zN h;refine T.join (S:=Unit) (G:=Unit) (λs2=>Ks2 s2=some q) (λs2 gh=>True) (λs2 gh=>[]) (λs2 gh=>[]) (λs2 gh h hg=>?_) ?_
 ·clear ks2;subst es2;refine jI<|oN as'<|jA<|jK ?_
  cases h
  exact dL Z Z Z
 refine jI<|oN mv<|oN (GU.lenL mV Z)<|oN mv<|jA<|jE ?_;refine T.lU h (λs5=>[(13,I s5),(12,I (s1_.length:Int)),(0,eL cI s1_),(1,eL cI s2_)]) (λs5=>[]) (kw Z Z) λs5 ws5 h=>?_;refine jI<|oN (GU.ilt Z Z)<|jA<|jH ?_;refine jN Z h (λq7 h=>?_) λq7 h=>?_
 ·refine jG<|jH<|jE<|jI<|oN mv<|oN as'<|jA<|jH<|jP (λ_=>([],false)) (by kernel_rfl) (by kernel_rfl)<|fN Z mv<|fN Z mv<|jD h λg8 h=>fN Z (GU.ixL mV Z Z g8 qD)<|fN Z (lf (I<|J s1_ s5) G9 Z)<|fN Z mv<|fN Z mv ?_;refine jD h λg9 h=>fN Z (GU.ixL mV Z Z g9 qD)<|fN Z (lf (I<|J s2_ s5) G9 Z)<|fN Z (GU.ine Z Z)<|jR ?_;refine jN Z h (λq10 h=>?_) λq10 h=>?_
  ·refine jH<|T.clean (H0:=[]) (e0:=ai []) Z GQ<|jC<|oN as'<|jA<|jK<|lX h λh=>?_;obtain rfl:=GX h;replace h:=congrArg some (show _=_ from ks2)
   cases h
   exact dL Z Z Z
  refine jG<|jC<|jW h λg11 h=>oN (GU.add Z Z g11)<|oN mv<|jA ?_;exact lE h<|kw Z Z
 refine jM<|lX h λh=>?_
 cases h
 exact ⟨(),(),ks2,trivial,kw Z Z⟩
theorem fQ (a:LI) (b:LI) {q} (h:bC a b=some q):aJ Tryz.prog 125 [eL cI a,eL cI b] (Bo q):=by
 refine pM Tryz.func125 Z (by kernel_rfl) Z<|jI<|oN as'<|jA<|jI<|oN mv<|oN mv<|oC h (λ_=>kH _ _) Z Z Z Z λv1 _ h=>oN as'<|jA<|jK ?_
 cases h
 exact dL Z Z Z
theorem cF (s:LL) (gw:Bool) (bv:Nat) (hgw:gw=true->s=[]) {q} (h:az s=some q):cz Tryz.prog 124 [hS gw 0 bv 1 s.length,.fn (.func 125) []] [bE gw bv 1 41 (s.map<|cL cI)] (AA 1 41 (λx=>x) q.length (q.map<|cL cI) 0 []):=by
 refine cz.mkS Tryz.func124 Z (by kernel_rfl) Z (by kernel_rfl) (e0:=ai [(0,hS gw 0 bv 1 s.length),(1,.fn (.func 125) [])]) (GR Z<|GR Z GQ)<|jI<|oN as'<|jA<|jH<|jI<|oN mv<|oN (GU.lenO (g:=gw) vq Z<|rG hgw Z)<|oN (GU.ilt Z Z)<|jA ?_;refine jN Z h (λq1 h=>?_) λq1 h=>?_
 ·refine jI<|oN mv<|oN (GU.asg (hS gw 0 bv 1 s.length) Z)<|jA<|jK ?_;obtain rfl:=GX h
  repeat (first|refine iG ?_|refine iH ?_)
  exact ⟨ai [(4,hS gw 0 bv 1 s.length)],[bE gw bv 1 41 (s.map<|cL cI)],kw Z Z,jQ (vs:=[hS gw 0 bv 1 s.length]) (.cons (.tmp Z) .nil) ⟨gw,bv,(rG hgw Z),Z,Z⟩⟩
 refine jG ?_;obtain ⟨Ks2,es2,ws2,h,ks2⟩:=zN h;refine T.join (S:=(LL)) (G:=(Bool×Nat)) (λs2=>Ks2 s2=some q) (λs2 gh=>(gh.1=true->s2=[])) (λs2 gh=>[(0,hS gh.1 0 gh.2 1 s2.length)]) (λs2 gh=>[bE gh.1 gh.2 1 41 (s2.map<|cL cI)]) (λs2 gh h n45=>?_) ?_
 ·clear ks2;subst es2;obtain ⟨b44,u43⟩:=gh;refine jI<|oN mv<|oN (GU.asg (hS b44 0 u43 1 s2.length) Z)<|jA<|jK ?_;obtain rfl:=GX h
  repeat (first|refine iG ?_|refine iH ?_)
  exact ⟨ai [(4,hS b44 0 u43 1 s2.length)],[bE b44 u43 1 41 (s2.map<|cL cI)],kw Z Z,jQ (vs:=[hS b44 0 u43 1 s2.length]) (.cons (.tmp Z) .nil) ⟨b44,u43,(rG n45 Z),Z,Z⟩⟩
 refine jI<|oN as'<|jA<|jE ?_;refine jO (S:=(LL)×Int) (G:=(Bool×Nat)) aF (λs8 gh=>(gh.1=true->s8.1=[])) (λs8 gh=>[(5,I s8.2),(0,hS gh.1 0 gh.2 1 s8.1.length),(1,.fn (.func 125) [])]) (λs8 gh=>[bE gh.1 gh.2 1 41 (s8.1.map<|cL cI)]) (s0:=(s,V)) (gw,bv) h hgw (kw Z Z) λs8 gh ws8 h n12=>?_;obtain ⟨b11,u10⟩:=gh;refine jH<|jI<|oN mv<|oN mv<|oN (GU.lenO (g:=b11) vq Z<|rG n12 Z)<|oN (GU.ilt Z Z)<|jA ?_;refine jN Z h (λq13 h=>?_) λq13 h=>?_
 ·refine jG ?_;obtain ⟨Ks14,es14,ws14,h,ks14⟩:=zN h;refine T.join (S:=Unit) (G:=Unit) (λs14=>Ks14 s14=some ws8) (λs14 gh=>True) (λs14 gh=>[(5,I s8.2),(0,hS false 0 u10 1 s8.1.length),(1,.fn (.func 125) [])]) (λs14 gh=>[bE false u10 1 41 (s8.1.map<|cL cI)]) (λs14 gh h hg=>?_) ?_
  ·clear ks14;subst es14;refine jC<|oN mv<|jW h λg42 h=>oN (GU.add Z Z g42)<|oN as'<|jA ?_;obtain rfl:=GX h;exact ⟨(s8.1,(s8.2+V)),(false,u10),Z,nofun,kw Z Z⟩
  refine jE<|jH<|jP (dG [dF,dF,dF,dF,([0],false),dF,dF,dF,dF,([0],false),dF]) (by kernel_rfl) (by kernel_rfl)<|fN Z mv<|fN Z mv<|fN Z mv<|jD h λg15 h=>?_;obtain rfl:=Au n12 rfl g15;refine fN Z (GU.ixO (g:=false) vq Z Z nofun g15)<|fR [0] Z (λG hG=>EvA.ldO (g:=false) (l:=s8.1) (eL cI<|J s8.1 s8.2) zP Z (hG.a0 Z) nofun (jh Z g15) Z)<|fN Z mv<|fN Z mv<|jW h λg16 h=>fN Z (GU.sub Z Z g16)<|jD h λg17 h=>fN Z (GU.ixO (g:=false) vq Z Z nofun g17)<|fR [0] Z (λG hG=>EvA.ldO (g:=false) (l:=s8.1) (eL cI<|s8.1.getD ((s8.2-V).toNat) default) zP Z (hG.a0 Z) nofun (jh Z g17) Z)<|fC h (λ_=>fQ _ _) Z Z Z Z Z λv18 _ h=>jR ?_;refine jN Z h (λq19 h=>?_) λq19 h=>?_
  ·refine jI<|oN mv<|oN mv<|jD h λg20 h=>oN (GU.slhs Tryz.underlying34 zP (l:=s8.2) (h:=(s8.1.length:Int)) Z (.yes Z) .no g20)<|oN as'<|jA ?_;refine T.jF (G:=Nat) h (λs21 gh=>True) (λs21 gh=>[(5,I s21.2),(0,hS false 0 gh 1 s21.1.length)]) (λs21 gh=>[bE false gh 1 41 (s21.1.map<|cL cI)]) (λs21 u39 h hg=>?_) λs21 h=>?_
   ·refine jI<|oN mv<|oN mv<|jD h λg40 h=>oN (GU.slhs Tryz.underlying34 zP (l:=s21.2) (h:=(s21.1.length:Int)) Z (.yes Z) .no g40)<|oV (EvA.clearO (l:=s21.1) vq zrN Z Z<|E9 (l:=s21.1) g40 Z)<|jA<|jI<|oN mv<|oN mv<|jD h λg41 h=>oA (EvA.cutO (l:=(cpy s21.1 (0+s21.2.toNat) (M9 ((s21.1.length:Int).toNat-s21.2.toNat) (default:LI))<|(s21.1.length:Int).toNat-s21.2.toNat)) (zl:=(0:Int)) (zh:=s21.2) (GU.slhs Tryz.underlying34 zP (l:=(0:Int)) (h:=s21.2) Z .no (.yes Z) g41) Z (by simp [zf]) g41)<|oN (GU.asg (hS false 0 (u39+1) 1<|(((cpy s21.1 (0+s21.2.toNat) (M9 ((s21.1.length:Int).toNat-s21.2.toNat) (default:LI))<|(s21.1.length:Int).toNat-s21.2.toNat).drop (0:Int).toNat).take<|s21.2.toNat-(0:Int).toNat).length) Z)<|jA<|jK ?_;obtain rfl:=GX h;replace h:=congrArg some (show _=_ from ks14);refine lX h λh=>?_;obtain rfl:=GX h;replace h:=congrArg some (show _=_ from ks2);obtain rfl:=GX h
    repeat (first|refine iG ?_|refine iH ?_)
    exact ⟨ai [(4,hS false 0 (u39+1) 1<|(((cpy s21.1 (0+s21.2.toNat) (M9 ((s21.1.length:Int).toNat-s21.2.toNat) (default:LI))<|(s21.1.length:Int).toNat-s21.2.toNat).drop U.toNat).take<|s21.2.toNat-U.toNat).length)],[bE false (u39+1) 1 41 ((((cpy s21.1 (0+s21.2.toNat) (M9 ((s21.1.length:Int).toNat-s21.2.toNat) (default:LI))<|(s21.1.length:Int).toNat-s21.2.toNat).drop U.toNat).take<|s21.2.toNat-U.toNat).map<|cL cI)],kw Z Z,jQ (vs:=[hS false 0 (u39+1) 1 ((((cpy s21.1 (0+s21.2.toNat) (M9 ((s21.1.length:Int).toNat-s21.2.toNat) (default:LI))<|(s21.1.length:Int).toNat-s21.2.toNat).drop U.toNat).take<|s21.2.toNat-U.toNat).length)]) (.cons (.tmp Z) .nil) ⟨false,u39+1,nofun,Z,Z⟩⟩
   refine jH<|T.clean (H0:=[bE false u10 1 41 (s8.1.map<|cL cI)]) (e0:=ai [(6,.hs 0 u10 1 (0+s8.2.toNat)<|(s8.1.length:Int).toNat-s8.2.toNat),(5,I s8.2),(0,hS false 0 u10 1 s8.1.length),(1,.fn (.func 125) [])]) Z (GR Z<|GR Z<|GR Z<|GR Z GQ)<|jC<|oN as'<|jA<|jE ?_;refine jO (S:=(LL)×Int×Int) (G:=Nat) (aD s8) (λs25 gh=>True) (λs25 gh=>[(7,I s25.2.1),(6,.hs 0 gh 1 (0+s8.2.toNat)<|(s8.1.length:Int).toNat-s8.2.toNat),(5,I s25.2.2),(0,hS false 0 gh 1 s25.1.length),(1,.fn (.func 125) [])]) (λs25 gh=>[bE false gh 1 41 (s25.1.map<|cL cI)]) (s0:=(s8.1,V,s8.2)) u10 h trivial (kw Z Z) λs25 u27 ws25 h hg=>?_;let d0:=s25.1.getD ((0+s8.2.toNat)+s25.2.1.toNat) default;refine jH<|jI<|oN mv<|oN mv<|oN (GU.lenP vq Z)<|oN (GU.ilt Z Z)<|jA ?_;refine jN Z h (λq28 h=>?_) λq28 h=>?_
   ·refine jG ?_;refine T.jF (G:=Nat) h (λs29 gh=>True) (λs29 gh=>[(5,I s29.2),(7,I s25.2.1),(6,.hs 0 gh 1 (0+s8.2.toNat)<|(s8.1.length:Int).toNat-s8.2.toNat),(0,hS false 0 gh 1 s29.1.length),(1,.fn (.func 125) [])]) (λs29 gh=>[bE false gh 1 41 (s29.1.map<|cL cI)]) (λs29 u37 h hg=>?_) λs29 h=>?_
    ·refine jC<|oN mv<|jW h λg38 h=>oN (GU.add Z Z g38)<|oN as'<|jA ?_;obtain rfl:=GX h;exact ⟨(s29.1,(s25.2.1+V),s29.2),u37,Z,trivial,kw Z Z⟩
    refine jE<|jH<|jP (dG [dF,dF,dF,dF,([0],false),dF,dF,dF,dF,([0],false),dF,dF]) (by kernel_rfl) (by kernel_rfl)<|fN Z mv<|fN Z mv<|fN Z mv<|jD h λg30 h=>fN Z (GU.ixP vq Z Z g30.1)<|fR [0] Z (λG hG=>EvA.ldO (g:=false) (l:=s25.1) (eL cI d0) zP Z (hG.a0 Z) nofun g30.2 Z)<|fN Z mv<|fN Z mv<|jW h λg31 h=>fN Z (GU.sub Z Z g31)<|jD h λg32 h=>fN Z (GU.ixP vq Z Z g32.1)<|fR [0] Z (λG hG=>EvA.ldO (g:=false) (l:=s25.1) (eL cI<|s25.1.getD ((0+s8.2.toNat)+(s25.2.1-V).toNat) default) zP Z (hG.a0 Z) nofun g32.2 Z) ?_;refine fC h (λ_=>fQ _ _) Z Z Z Z Z λv33 _ h=>fN Z (GU.not Z)<|jR ?_;refine jN Z h (λq34 h=>?_) λq34 h=>?_
    ·refine jH<|T.clean (H0:=[bE false u27 1 41 (s25.1.map<|cL cI)]) (e0:=ai [(7,I s25.2.1),(6,.hs 0 u27 1 (0+s8.2.toNat)<|(s8.1.length:Int).toNat-s8.2.toNat),(5,I s25.2.2),(0,hS false 0 u27 1 s25.1.length),(1,.fn (.func 125) [])]) Z (GR Z<|GR Z<|GR Z<|GR Z<|GR Z GQ)<|jC<|oN mv<|oN mv<|oN mv<|oN mv<|oN (GU.ixP vq Z Z g30.1)<|oA (EvA.ldO (g:=false) (l:=s25.1) (eL cI d0) zP Z Z nofun g30.2 Z)<|jD h λg35 h=>oN (GU.ixO (g:=false) vq Z Z nofun g35)<|oV (EvA.stO (g:=false) (l:=s25.1) (cs:=[eL cI d0]) d0 zP Z Z Z nofun (jh Z g35) Z Z Z)<|jA<|jC<|oN mv<|jW h λg36 h=>?_;refine oN (GU.add Z Z g36)<|oN as'<|jA ?_;obtain rfl:=GX h;exact ⟨u27,trivial,zM Z<|GR Z<|GR Z<|GR Z<|GR (congrArg (hS false 0 u27 1) (by simp:s25.1.length=(s25.1.set s25.2.2.toNat d0).length))<|GR Z GQ⟩
    refine jG ?_
    cases h
    exact ⟨u27,trivial,kw Z Z⟩
   refine jM<|lX h λh=>?_
   cases h
   exact ⟨u27,trivial,kw Z Z⟩
  refine jG ?_
  cases h
  exact ⟨(),(),ks14,trivial,kw Z Z⟩
 refine jM<|lX h λh=>?_;obtain rfl:=GX h;exact ⟨s8.1,(b11,u10),ks2,n12,kw Z Z⟩
theorem gX (list:LL) (gw:Bool) (bv:Nat) (hgw:gw=true->list=[]) {q} (h:aL list=some q):cz Tryz.prog 107 [hS gw 0 bv 1 list.length] [bE gw bv 1 41 (list.map<|cL cI)] (AA 1 41 (λx=>x) q.length (q.map<|cL cI) 0 []):=by
 refine cz.mkS Tryz.func107 Z (by kernel_rfl) Z (by kernel_rfl) (e0:=ai [(0,hS gw 0 bv 1 list.length)]) (GR Z GQ)<|jI<|oN as'<|jA<|jI<|oN mv<|jB h λv1 cv1 h=>oA (EvA.call Z Z Z<|(nN list gw bv hgw cv1).oneE Z (.cons (uN Z)<|.cons (.pF Z) .nil) (mR qD) (mR qD) Z)<|jA<|jI<|oN mv<|jB h λv2 cv2 h=>?_;refine oGW Z Z (cF v1 gw bv (λx=>l6 (hgw x) cv1) cv2) Z (.cons (Cz Z (l7 cv1).symm)<|.cons (.pF Z) .nil) (mR qD) (mR qD) oD λg3 v4 n5=>?_;refine oN (GU.asg (hS g3 0 v4 1 v2.length) Z)<|jA<|jK ?_;obtain rfl:=GX h
 repeat (first|refine iG ?_|refine iH ?_)
 exact ⟨ai [(2,hS g3 0 v4 1 v2.length)],[bE g3 v4 1 41 (v2.map<|cL cI)],kw Z Z,jQ (vs:=[hS g3 0 v4 1 v2.length]) (.cons (.tmp Z) .nil) ⟨g3,v4,(rG (λx=>M8<|n5 x) Z),Z,Z⟩⟩
theorem kI (start:G3) {q} (h:eD start=some q):aJ Tryz.prog 82 [.ifc 114 (.fp (G3.c start) 0)] (.tup [eL (cL cI) q.1,I q.2]):=by
 refine pM Tryz.func82 Z (by kernel_rfl) Z<|jI<|oN as'<|oN as'<|jA<|jI<|oA (EvA.mmkB (kn:=1) uO Z)<|oN mv<|jB h λv1 cv1 h=>oN (GU.invS 16 Z Z (MethT.of (off:=0)<|by kernel_rfl) Z Z (lw start cv1) Z)<|oV (EvA.minsB (l:=([]:List<|ByteArray×Bool)) zG Tryz.underlying109 v1 true Z Z Z Z)<|oN mv<|oN as'<|jA<|jH<|T.reserve ?_;refine jC<|oN (GU.asg (hS true 1 0 1<|([]:LL).length) Z)<|jA ?_;refine T.jF (G:=(Bool×Nat)) h (λs2 gh=>(gh.1=true->s2.2=[])) (λs2 gh=>[(5,hS gh.1 1 gh.2 1 s2.2.length),(4,.mp 0 2)]) (λs2 gh=>[(some<|mB 1 1 uO cB s2.1),bE gh.1 gh.2 1 41 (s2.2.map<|cL cI)]) (λs2 gh h n45=>?_) λs2 h=>?_
 ·obtain ⟨b44,u43⟩:=gh;refine jI<|oN mv<|jB h λv46 cv46 h=>?_;refine oGW Z Z (gX s2.2 b44 u43 n45 cv46) Z (.cons (uN Z) .nil) (mR qD) (mR qD) oD λg47 v48 n49=>?_;refine oN mv<|oA (EvA.mlenB (l:=s2.1) Tryz.underlying109 Z Z)<|oN (GU.asg (hS g47 1 v48 1 v46.length) Z)<|oN as'<|jA<|jK ?_;obtain rfl:=GX h
  repeat (first|refine iG ?_|refine iH ?_)
  exact jQ (vs:=[hS g47 1 v48 1 v46.length,I (s2.1.length:Int)]) (.cons (.tmp Z)<|.cons (.tmp Z) .nil)<|.tupL<|.cons (Fz.own (g:=g47) (ver:=v48) (l:=v46) Z Z Z (λx=>M8<|n49 x) qD)<|.cons (qC Z) .nil
 refine jI<|oN mv<|oA (EvA.mkO (c:=(λx=>[AV.ifc 114 (.fp (G3.c x) 0)])) ([start]:List G3) [[.ifc 114 (.fp (G3.c start) 0)]] oP Z Z Z qD Z Z)<|oN (GU.asg (hS false 2 0 1<|([start]:List G3).length) Z)<|jA<|jE ?_;refine jO (S:=(List<|ByteArray×Bool)×(LL)×(List G3)) (G:=(Bool×Nat)×Nat) fB (λs9 gh=>(gh.1.1=true->s9.2.1=[])) (λs9 gh=>[(6,hS false 2 gh.2 1 s9.2.2.length),(5,hS gh.1.1 1 gh.1.2 1 s9.2.1.length),(4,.mp 0 2)]) (λs9 gh=>[(some<|mB 1 1 uO cB s9.1),bE gh.1.1 gh.1.2 1 41 (s9.2.1.map<|cL cI),bE false gh.2 1 91 (s9.2.2.map λx=>[AV.ifc 114 (.fp (G3.c x) 0)])]) (s0:=((sO ([]:List<|ByteArray×Bool) v1 true),([]:LL),([start]:List G3))) ((true,0),0) h qD (kw Z Z) λs9 gh ws9 h n13=>?_;let d0:=((s9.2.2.length:Int)-V);obtain ⟨⟨b12,u11⟩,u14⟩:=gh;refine jH<|jI<|oN mv<|oN (GU.lenO (g:=false) oP Z nofun)<|oN (GU.igt Z Z)<|jA ?_;refine jN Z h (λq15 h=>?_) λq15 h=>?_
 ·refine jG<|jE<|jI<|oN mv<|oN mv<|oN (GU.lenO (g:=false) oP Z nofun)<|jW h λg16 h=>oN (GU.sub Z Z g16)<|jD h λg17 h=>oN (GU.ixO (g:=false) oP Z Z nofun g17)<|oA (EvA.ldO (g:=false) (l:=s9.2.2) (.ifc 114<|.fp (G3.c<|s9.2.2.getD (d0.toNat) default) 0) FH Z Z nofun (jh Z g17) Z)<|oN as'<|jA<|jI<|oN mv<|oN mv ?_;refine oN (GU.lenO (g:=false) oP Z nofun)<|oN (GU.sub Z Z g16)<|jD h λg18 h=>oA (EvA.cutO (l:=s9.2.2) (zl:=U) (zh:=d0) (GU.slhs Tryz.underlying110 FH (l:=U) (h:=d0) Z .no (.yes Z) g18) Z Z g18)<|oN (GU.asg (hS false 2 (u14+1) 1<|((s9.2.2.drop U.toNat).take<|d0.toNat-U.toNat).length) Z)<|jA ?_;refine T.jF (G:=(Bool×Nat)) h (λs19 gh=>(gh.1=true->s19=[])) (λs19 gh=>[(5,hS gh.1 1 gh.2 1 s19.length),(6,hS false 2 (u14+1) 1<|((s9.2.2.drop U.toNat).take<|d0.toNat-U.toNat).length),(7,.ifc 114<|.fp (G3.c<|s9.2.2.getD (d0.toNat) default) 0),(4,.mp 0 2)]) (λs19 gh=>[(some<|mB 1 1 uO cB s9.1),bE gh.1 gh.2 1 41 (s19.map<|cL cI),bE false (u14+1) 1 91 (((s9.2.2.drop U.toNat).take<|d0.toNat-U.toNat).map λx=>[AV.ifc 114 (.fp (G3.c x) 0)])]) (λs19 gh h n26=>?_) λs19 h=>?_
  ·obtain ⟨b25,u24⟩:=gh;refine jI<|oN mv<|jB h λv27 cv27 h=>oN (GU.invS 16 Z Z (MethT.of (off:=0)<|by kernel_rfl) Z Z (oZ (s9.2.2.getD (d0.toNat) default) cv27) Z)<|oN (GU.lenL mV Z)<|oN mv<|jA<|jE ?_;refine jO (S:=(List<|ByteArray×Bool)×(List G3)×Int) (G:=Nat) (fA s9 s19 v27) (λs31 gh=>True) (λs31 gh=>[(42,I s31.2.2),(41,I (v27.length:Int)),(40,eL cI v27),(5,hS b25 1 u24 1 s19.length),(6,hS false 2 gh 1 s31.2.1.length),(7,.ifc 114<|.fp (G3.c<|s9.2.2.getD (d0.toNat) default) 0),(4,.mp 0 2)]) (λs31 gh=>[(some<|mB 1 1 uO cB s31.1),bE b25 u24 1 41 (s19.map<|cL cI),bE false gh 1 91 (s31.2.1.map λx=>[AV.ifc 114 (.fp (G3.c x) 0)])]) (s0:=(s9.1,((s9.2.2.drop U.toNat).take<|d0.toNat-U.toNat),U)) (u14+1) h trivial (kw Z Z) λs31 u33 ws31 h hg=>?_;refine jI<|oN (GU.ilt Z Z)<|jA<|jH ?_;refine jN Z h (λq34 h=>?_) λq34 h=>?_
   ·refine jG ?_;refine T.jF (G:=Nat) h (λs35 gh=>True) (λs35 gh=>[(6,hS false 2 gh 1 s35.2.length),(42,I s31.2.2),(41,I (v27.length:Int)),(40,eL cI v27),(5,hS b25 1 u24 1 s19.length),(7,.ifc 114<|.fp (G3.c<|s9.2.2.getD (d0.toNat) default) 0),(4,.mp 0 2)]) (λs35 gh=>[(some<|mB 1 1 uO cB s35.1),bE b25 u24 1 41 (s19.map<|cL cI),bE false gh 1 91 (s35.2.map λx=>[AV.ifc 114 (.fp (G3.c x) 0)])]) (λs35 u41 h hg=>?_) λs35 h=>?_
    ·refine jC<|jW h λg42 h=>oN (GU.add Z Z g42)<|oN mv<|jA ?_;obtain rfl:=GX h;exact ⟨(s35.1,s35.2,(s31.2.2+V)),u41,Z,trivial,kw Z Z⟩
    refine jE<|jI<|jD h λg36 h=>oN (GU.ixL mV Z Z g36 qD)<|oN (lf (I<|J v27 s31.2.2) G9 Z)<|oN as'<|jA<|jI<|oN mv<|oN mv<|jB h λv37 cv37 h=>oN (GU.invS 16 Z Z (MethT.of (off:=0)<|by kernel_rfl) Z Z (o5 (s9.2.2.getD (d0.toNat) default) (J v27 s31.2.2) cv37) Z)<|oN as'<|jA<|jI<|oN mv ?_;refine jB h λv38 cv38 h=>oN (GU.invS 16 Z Z (MethT.of (off:=0)<|by kernel_rfl) Z Z (lw v37 cv38) Z)<|oN as'<|jA<|jI<|oN mv<|oN mv<|oA (EvA.lookB (l:=s31.1) zG Tryz.underlying109 (by kernel_rfl) v38 Z Z Z)<|oN (GU.not Z)<|jA ?_;refine jN Z h (λq39 h=>?_) λq39 h=>?_
    ·refine jI<|oN mv<|oN mv<|oV (EvA.msetB (l:=s31.1) zG Tryz.underlying109 v38 true Z Z Z Z)<|jA<|T.clean (H0:=[(some<|mB 1 1 uO cB<|sO s31.1 v38 true),bE b25 u24 1 41 (s19.map<|cL cI),bE false u33 1 91 (s31.2.1.map λx=>[AV.ifc 114 (.fp (G3.c x) 0)])]) (e0:=ai [(10,.ifc 114<|.fp (G3.c v37) 0),(42,I s31.2.2),(41,I (v27.length:Int)),(40,eL cI v27),(5,hS b25 1 u24 1 s19.length),(6,hS false 2 u33 1 s31.2.1.length),(7,.ifc 114<|.fp (G3.c<|s9.2.2.getD (d0.toNat) default) 0),(4,.mp 0 2)]) Z (GR Z<|GR Z<|GR Z<|GR Z<|GR Z<|GR Z<|GR Z<|GR Z GQ)<|jC<|oN mv<|oN mv<|oN (GU.mkF (c:=(λx=>[AV.ifc 114 (.fp (G3.c x) 0)])) ([v37]:List G3) [[.ifc 114 (.fp (G3.c v37) 0)]] oP Z Z Z qD qD Z)<|jL h λg40 h=>oA (EvA.app1 (g:=false) (l:=s31.2.1) v37 oP (by kernel_rfl) Z Z Z nofun (bg.fz (c:=(λx=>[AV.ifc 114 (.fp (G3.c x) 0)])) (l:=([v37]:List G3)) Z qD) g40)<|oN (GU.asg (hS false 2 (u33+1) 1<|(s31.2.1++[v37]).length) Z)<|jA ?_
     cases h
     exact ⟨u33+1,trivial,kw Z Z⟩
    refine jG ?_
    cases h
    exact ⟨u33,trivial,kw Z Z⟩
   refine jM<|lX h λh=>?_;obtain rfl:=GX h;exact ⟨(s31.1,s19,s31.2.1),((b25,u24),u33),Z,n26,kw Z Z⟩
  refine jI<|oN mv<|jB h λv20 cv20 h=>oN (GU.invS 16 Z Z (MethT.of (off:=0)<|by kernel_rfl) Z Z (p8 (s9.2.2.getD (d0.toNat) default) cv20) Z)<|jA ?_;refine jN Z h (λq21 h=>?_) λq21 h=>?_
  ·refine T.clean (H0:=[(some<|mB 1 1 uO cB s9.1),bE b12 u11 1 41 (s9.2.1.map<|cL cI),bE false (u14+1) 1 91 (((s9.2.2.drop U.toNat).take<|d0.toNat-U.toNat).map λx=>[AV.ifc 114 (.fp (G3.c x) 0)])]) (e0:=ai [(6,hS false 2 (u14+1) 1<|((s9.2.2.drop U.toNat).take<|d0.toNat-U.toNat).length),(7,.ifc 114<|.fp (G3.c<|s9.2.2.getD (d0.toNat) default) 0),(5,hS b12 1 u11 1 s9.2.1.length),(4,.mp 0 2)]) Z (GR Z<|GR Z<|GR Z<|GR Z GQ)<|jC<|oN mv<|oN mv<|jB h λv22 cv22 h=>oN (GU.invS 16 Z Z (MethT.of (off:=0)<|by kernel_rfl) Z Z (gW ((s9.2.2.getD (d0.toNat) default).values) cv22) Z)<|oN (GU.mkF (c:=(cL cI)) ([v22]:LL) [[eL cI v22]] vq Z Z Z qD qD Z)<|jL h λg23 h=>oA (EvA.app1 (g:=b12) (l:=s9.2.1) v22 vq (by kernel_rfl) Z Z Z n13 (bg.fz (l:=([v22]:LL)) Z qD) g23)<|oN (GU.asg (hS false 1 (u11+1) 1<|(s9.2.1++[v22]).length) Z)<|jA ?_
   cases h
   exact ⟨(false,u11+1),nofun,kw Z Z⟩
  refine jG ?_
  cases h
  exact ⟨(b12,u11),n13,kw Z Z⟩
 refine jM<|lX h λh=>?_;obtain rfl:=GX h;exact ⟨(b12,u11),n13,pG Z (.cons (.mp qD)<|.cons (.list (g:=b12) (ver:=u11) (l:=s9.2.1) qD) .nil)<|au (.hS (g:=b12) (b:=1) (ver:=u11) (s:=1) (n:=s9.2.1.length) Z)<|au (.mp<|nlb Z) bO⟩
theorem mi (p:List<|List GY) {q} (h:eZ p=some q):aJ Tryz.prog 36 [eL (cL GY.c) p] (eL (cL cI) q):=by
 refine pM Tryz.func36 Z (by kernel_rfl) Z<|jI<|oN as'<|jA<|jH<|jI<|oN mv<|oC h (λ_=>eU _) Z Z Z Z λv1 _ h=>oN (GU.not Z)<|jA ?_;refine jN Z h (λq2 h=>?_) λq2 h=>?_
 ·refine jI<|oN as'<|jA<|jK ?_;obtain rfl:=GX h
  repeat (first|refine iG ?_|refine iH ?_)
  exact jQ (vs:=[.nil]) (.cons (.tmp Z) .nil) .nil0
 refine jG<|jI<|oN mv<|oC h (λ_=>su _) Z Z Z Z λv3 _ h=>oC h (λ_=>kI _) Z Z Z Z λv4 _ h=>oN mv<|oN (GU.ext (eL (cL cI) v4.1) Z Z)<|oN (GU.ext (I v4.2) Z Z)<|oN as'<|oN as'<|jA<|jI<|oN mv<|oN as'<|jA<|jK ?_
 cases h
 exact dL Z Z Z
theorem nO (p:List<|List GY) (split:Bool) {q} (h:fe p split=some q):aJ Tryz.prog 118 [eL (cL GY.c) p,Bo split] (.ifc 149<|.fp (ae.c q) 0):=by
 refine pM Tryz.func118 Z (by kernel_rfl) Z<|jI<|oN as'<|jA<|jI<|oN mv<|oN (GU.build [eL (cL GY.c) p,Y U,Y U,Y U,Y U,Y U,Y U,Y U,Y U,Y U,Y U,Y U,Y U,Y U,Y U,Y U] Tryz.underlying118 FI kG Z Z)<|oN mv<|oN mv<|oN (GU.lenL ib Z)<|jD h λg1 h=>oN (GU.msZ (f:=cY) mW Z Z g1 Z)<|oN (GU.build [eL (cL GY.c) p,Y U,Y U,Y U,Y U,Y U,Y U,Y U,Y U,Y U,Y U,Y U,Y U,Y U,Y U,Y U,Bo split,eL (cL cY) (M9 (p.length:Int).toNat ([]:LI))] Tryz.underlying152 FM kX Z Z)<|oA (EvA.bx (cs:=[eL (cL GY.c) p,Y U,Y U,Y U,Y U,Y U,Y U,Y U,Y U,Y U,Y U,Y U,Y U,Y U,Y U,Y U,Bo split,eL (cL cY) (M9 (p.length:Int).toNat ([]:LI))]) Z Z Z)<|oN as'<|jA ?_;refine T.jU h (λs2=>[(5,.hp 0 0 18 0 0)]) (λs2=>[some ⟨0,18,152,[[eL (cL GY.c) p,Y U,Y U,Y U,Y U,Y U,Y U,Y U,Y U,Y U,Y U,Y U,Y U,Y U,Y U,Y U,Bo split,eL (cL cY) s2]]⟩]) (λs2 h=>?_) λs2 h=>?_
 ·refine jI<|oN mv<|oN (GU.mkifc (.hp 0 0 18 0 0) Tryz.underlying149 (λ_ h=>nomatch h) Z)<|oN as'<|jA<|jK ?_;obtain rfl:=GX h
  repeat (first|refine iG ?_|refine iH ?_)
  exact jQ (vs:=[.ifc 149 (.hp 0 0 18 0 0)]) (.cons (.tmp Z) .nil)<|.ifc<|Fz.fpL (ver:=0) (s:=18) (ty:=152) (rows:=[[eL (cL GY.c) p,Y U,Y U,Y U,Y U,Y U,Y U,Y U,Y U,Y U,Y U,Y U,Y U,Y U,Y U,Y U,Bo split,eL (cL cY) s2]]) Z Z Z<|.cons (qC Z)<|.cons (qC Z)<|.cons (qC Z)<|.cons (qC Z)<|.cons (qC Z)<|.cons (qC Z)<|.cons (qC Z)<|.cons (qC Z)<|.cons (qC Z)<|.cons (qC Z)<|.cons (qC Z)<|.cons (qC Z)<|.cons (qC Z)<|.cons (qC Z)<|.cons (qC Z)<|.cons (qC Z)<|.cons (qC Z)<|.cons (qC Z) .nil
 refine jI<|oN mv<|jA ?_;refine jN Z h (λq3 h=>?_) λq3 h=>?_
 ·refine jC<|oN mv<|oN mv<|oN (GU.lenL ib Z)<|jW h λg4 h=>oN (GU.mul Z Z g4)<|jD h λg5 h=>oN (GU.msZ (f:=cY) mW Z Z g5 Z)<|oN (nl Z)<|oN (fa kX Z)<|oV (sr [eL (cL GY.c) p,Y U,Y U,Y U,Y U,Y U,Y U,Y U,Y U,Y U,Y U,Y U,Y U,Y U,Y U,Y U,Bo split,eL (cL cY) (M9 ((3:Int)*(p.length:Int)).toNat ([]:LI))] qw Z Z Z Z)<|jA ?_
  cases h
  exact ⟨(),trivial,kw Z Z⟩
 refine jG ?_
 cases h
 exact ⟨(),trivial,kw Z Z⟩
theorem iQ (s:ae) {q} (h:bD s=some q):aJ Tryz.prog 249 [.fp (ae.c s) 0] (St q):=by
 refine pM Tryz.func249 Z (by kernel_rfl) Z<|jI<|oN as'<|jA<|jI<|oN mv<|oN (nl Z)<|oN (GU.fafpS 16 Tryz.underlying152 Z (by kernel_rfl) Z Z (row2:=GZ.c s.values))<|oC h (λ_=>iP _) Z Z Z Z λv1 _ h=>jD h λg2 h=>oA (EvA.s2b Tryz.underlying9 Tryz.underlying22 Tryz.underlying5 Z g2 Z)<|oN (GU.asg (hS false 0 0 1<|(kv v1).length) Z)<|jA ?_;refine T.jF (G:=Nat) h (λs3 gh=>True) (λs3 gh=>[(3,hS false 0 gh 1 s3.length)]) (λs3 gh=>[bE false gh 1 5 (s3.map cY)]) (λs3 u16 h hg=>?_) λs3 h=>?_
 ·refine jI<|oN mv<|oA (EvA.b2s (l:=s3) Tryz.underlying22 Tryz.underlying5 Tryz.underlying9 (Dz (g:=false) Z)<|bg.ow (g:=false) (l:=s3) Z Z Z nofun)<|oN as'<|jA<|jK ?_
  cases h
  exact dL Z Z Z
 refine jI<|oN mv<|oN (nl Z)<|oN (fa kX Z)<|oN (lf (eL (cL cY) s.waits) qw Z)<|oN (GU.lenL mW Z)<|oN mv<|jA<|jE ?_;refine jO (S:=(LI)×Int) (G:=Nat) (eH s) (λs7 gh=>True) (λs7 gh=>[(16,I s7.2),(15,I (s.waits.length:Int)),(14,eL (cL cY) s.waits),(3,hS false 0 gh 1 s7.1.length)]) (λs7 gh=>[bE false gh 1 5 (s7.1.map cY)]) (s0:=((kv v1),U)) 0 h trivial (kw Z Z) λs7 u9 ws7 h hg=>?_;let d0:=s.waits.getD s7.2.toNat default;refine jI<|oN (GU.ilt Z Z)<|jA<|jH ?_;refine jN Z h (λq10 h=>?_) λq10 h=>?_
 ·refine jG<|jH<|jE<|jI<|jD h λg11 h=>oN (GU.ixL mW Z Z g11 qD)<|oN (lf (eL cY d0) vp Z)<|oN as'<|jA<|jC<|oN mv<|oN mv<|oN (GU.lenL nM Z)<|jW h λg12 h=>oN (GU.iconv G9.und Tryz.underlying5 Z g12)<|oN (GU.mkF (c:=cY) ([(d0.length:Int)]:LI) [[Y (d0.length:Int)]] nM Z Z Z qD qD Z) ?_;refine jL h λg13 h=>oA (EvA.app1 (g:=false) (l:=s7.1) (d0.length:Int) nM (by kernel_rfl) Z Z Z nofun (bg.fz (l:=([(d0.length:Int)]:LI)) Z qD) g13)<|oN mv<|jL h λg14 h=>oA (EvA.appF (l:=(s7.1++[(d0.length:Int)])) d0 nM (by kernel_rfl) Z Z Z (bg.fz (l:=d0) Z qD) g14)<|oN (GU.asg (hS false 0 ((u9+1)+1) 1<|((s7.1++[(d0.length:Int)])++d0).length) Z)<|jA<|jC<|jW h λg15 h=>oN (GU.add Z Z g15)<|oN mv<|jA ?_;obtain rfl:=GX h;exact ⟨(((s7.1++[(d0.length:Int)])++d0),(s7.2+V)),(u9+1)+1,Z,trivial,kw Z Z⟩
 refine jM<|lX h λh=>?_
 cases h
 exact ⟨u9,trivial,kw Z Z⟩
theorem kZ (waits:LI) {q} (h:iC waits=some q):aJ Tryz.prog 256 [eL cY waits] (Bo q):=by
 refine pM Tryz.func256 Z (by kernel_rfl) Z<|jI<|oN as'<|jA<|jI<|oN mv<|oN (GU.lenL nM Z)<|oN (GU.igt Z Z)<|oN as'<|jA<|jK ?_
 cases h
 exact dL Z Z Z
theorem cK (s:LL) {q} (h:aI s=some q):aJ Tryz.prog 259 [eL (cL cY) s,.fn (.func 256) []] (I q):=by
 refine pM Tryz.func259 Z (by kernel_rfl) Z<|jI<|oN as'<|jA ?_;obtain ⟨Ks1,es1,ws1,h,ks1⟩:=zN h;refine T.join (S:=Unit) (G:=Unit) (λs1=>Ks1 s1=some q) (λs1 gh=>True) (λs1 gh=>[]) (λs1 gh=>[]) (λs1 gh h hg=>?_) ?_
 ·clear ks1;subst es1;refine jI<|oN as'<|jA<|jK ?_
  cases h
  exact dL Z Z Z
 refine jI<|oN mv<|oN (GU.lenL mW Z)<|oN mv<|jA<|jE ?_;refine T.lU h (λs4=>[(8,I s4),(7,I (s.length:Int)),(0,eL (cL cY) s),(1,.fn (.func 256) [])]) (λs4=>[]) (kw Z Z) λs4 ws4 h=>?_;refine jI<|oN (GU.ilt Z Z)<|jA<|jH ?_;refine jN Z h (λq6 h=>?_) λq6 h=>?_
 ·refine jG<|jH<|jE<|jI<|oN mv<|oN as'<|jA<|jI<|oN mv<|oN mv<|oN mv<|jD h λg7 h=>oN (GU.ixL mW Z Z g7 qD)<|oN (lf (eL cY<|J s s4) vp Z)<|oC h (λ_=>kZ _) Z Z Z Z λv8 _ h=>jA ?_;refine jN Z h (λq9 h=>?_) λq9 h=>?_
  ·refine jI<|oN mv<|oN as'<|jA<|jK<|lX h λh=>?_;obtain rfl:=GX h;replace h:=congrArg some (show _=_ from ks1)
   cases h
   exact dL Z Z Z
  refine jG<|jC<|jW h λg10 h=>oN (GU.add Z Z g10)<|oN mv<|jA ?_;exact lE h<|kw Z Z
 refine jM<|lX h λh=>?_
 cases h
 exact ⟨(),(),ks1,trivial,kw Z Z⟩
theorem cu (s:LL) {q} (h:aG s=some q):aJ Tryz.prog 255 [eL (cL cY) s,.fn (.func 256) []] (Bo q):=by
 refine pM Tryz.func255 Z (by kernel_rfl) Z<|jI<|oN as'<|jA<|jI<|oN mv<|oN mv<|oC h (λ_=>cK _) Z Z Z Z λv1 _ h=>oN (GU.ige Z Z)<|oN as'<|jA<|jK ?_
 cases h
 exact dL Z Z Z
theorem mo (s:ae) {q} (h:bP s=some q):aJ Tryz.prog 248 [.fp (ae.c s) 0] (Bo q):=by
 refine pM Tryz.func248 Z (by kernel_rfl) Z<|jI<|oN as'<|jA<|jI<|oN mv<|oN (nl Z)<|oN (GU.fafpS 16 Tryz.underlying152 Z (by kernel_rfl) Z Z (row2:=GZ.c s.values))<|oC h (λ_=>gV _) Z Z Z Z λv1 _ h=>oN mv ?_;refine TO.jB h 7 (λs2=>[(14,Bo s2)]) (λs2=>[]) (λs2 q3 h js2=>?_) (λs2 q3 h js2=>?_) λs2 h=>?_
 ·refine gN Z q3 mv<|gN Z q3 (nl Z)<|gN Z q3 (fa kX Z)<|gN Z q3 (lf (eL (cL cY) s.waits) qw Z)<|jB h λv4 cv4 h=>gN Z q3 (GU.call Z Z Z (cu s.waits cv4) Z)<|gN Z q3 (GU.not Z)<|oN (GU.pickT Z q3 (Bo<|!v4) Z) ?_
  cases h
  exact js2 _ _<|kw Z Z
 ·refine gS Z q3<|gS Z q3<|gS Z q3<|gS Z q3<|gS Z q3<|gS Z q3<|oN (GU.pickF Z q3 (Bo false) Z) ?_
  cases h
  exact js2 _ _<|kw Z Z
 refine oN as'<|jA<|jK ?_
 cases h
 exact dL Z Z Z
theorem gY (s:ae) (t:Int) (loc:Int) {q} (h:bW s t loc=some q):aJ Tryz.prog 253 [.fp (ae.c s) 0,I t,I loc] (I q):=by
 refine pM Tryz.func253 Z (by kernel_rfl) Z<|jI<|oN as'<|jA<|jH<|jI<|oN mv<|oN (nl Z)<|oN (fa kX Z)<|oN (lf (Bo s.split) ty4 Z)<|jA ?_;refine jN Z h (λq1 h=>?_) λq1 h=>?_
 ·refine jI<|oN mv<|jW h λg2 h=>oN (GU.mul Z Z g2)<|oN mv<|jW h λg3 h=>oN (GU.add Z Z g3)<|oN as'<|jA<|jK ?_
  cases h
  exact dL Z Z Z
 refine jG<|jI<|oN mv<|oN as'<|jA<|jK ?_
 cases h
 exact dL Z Z Z
theorem kJ (s:ae) (t:Int) {q} (h:cQ s t=some q):aJ Tryz.prog 257 [.fp (ae.c s) 0,I t] (Bo q):=by
 refine pM Tryz.func257 Z (by kernel_rfl) Z<|jI<|oN as'<|jA ?_;obtain ⟨Ks1,es1,ws1,h,ks1⟩:=zN h;refine T.join (S:=Unit) (G:=Unit) (λs1=>Ks1 s1=some q) (λs1 gh=>True) (λs1 gh=>[]) (λs1 gh=>[]) (λs1 gh h hg=>?_) ?_
 ·clear ks1;subst es1;refine jI<|oN as'<|jA<|jK ?_
  cases h
  exact dL Z Z Z
 refine jI<|oN mv<|jA<|jE ?_;refine T.lU h (λs4=>[(6,I s4),(0,.fp (ae.c s) 0),(1,I t)]) (λs4=>[]) (kw Z Z) λs4 ws4 h=>?_;refine jI<|oN (GU.ilt Z Z)<|jA<|jH ?_;refine jN Z h (λq6 h=>?_) λq6 h=>?_
 ·refine jG<|jH<|jE<|jI<|oN mv<|oN as'<|jA<|jH<|jP (λ_=>([],false)) (by kernel_rfl) (by kernel_rfl)<|fN Z mv<|fN Z (nl Z)<|fN Z (fa kX Z)<|fN Z (lf (eL (cL cY) s.waits) qw Z)<|fN Z mv<|fN Z mv<|fN Z mv ?_;refine fC h (λ_=>gY _ _ _) Z Z Z Z Z λv7 _ h=>jD h λg8 h=>fN Z (GU.ixL mW Z Z g8 qD)<|fN Z (lf (eL cY<|J s.waits v7) vp Z)<|fN Z (GU.lenL nM Z)<|fN Z (GU.igt Z Z)<|jR ?_;refine jN Z h (λq9 h=>?_) λq9 h=>?_
  ·refine jH<|T.clean (H0:=[]) (e0:=ai []) Z GQ<|jC<|oN as'<|jA<|jK<|lX h λh=>?_;obtain rfl:=GX h;replace h:=congrArg some (show _=_ from ks1)
   cases h
   exact dL Z Z Z
  refine jG<|jC<|jW h λg10 h=>oN (GU.add Z Z g10)<|oN mv<|jA ?_;exact lE h<|kw Z Z
 refine jM<|lX h λh=>?_
 cases h
 exact ⟨(),(),ks1,trivial,kw Z Z⟩
theorem lJ (s:ae) {q} (h:bG s=some q):aJ Tryz.prog 250 [.fp (ae.c s) 0] (eL cI q):=by
 refine pM Tryz.func250 Z (by kernel_rfl) Z<|jI<|oN as'<|jA<|jH<|T.reserve<|jC<|oN (GU.asg (hS true 0 0 1<|([]:LI).length) Z)<|jA ?_;refine T.jF (G:=(Bool×Nat)) h (λs1 gh=>(gh.1=true->s1=[])) (λs1 gh=>[(3,hS gh.1 0 gh.2 1 s1.length),(0,.fp (ae.c s) 0)]) (λs1 gh=>[bE gh.1 gh.2 1 3 (s1.map cI)]) (λs1 gh h n30=>?_) λs1 h=>?_
 ·obtain ⟨b29,u28⟩:=gh;refine T.jF (G:=(Bool×Nat)) h (λs31 gh=>(gh.1=true->s31=[])) (λs31 gh=>[(3,hS gh.1 0 gh.2 1 s31.length)]) (λs31 gh=>[bE gh.1 gh.2 1 3 (s31.map cI)]) (λs31 gh h n54=>?_) λs31 h=>?_
  ·obtain ⟨b53,u52⟩:=gh;refine jI<|oN mv<|oN (GU.asg (hS b53 0 u52 1 s31.length) Z)<|jA<|jK ?_;obtain rfl:=GX h
   repeat (first|refine iG ?_|refine iH ?_)
   exact jQ (vs:=[hS b53 0 u52 1 s31.length]) (.cons (.tmp Z) .nil)<|Fz.own (g:=b53) (ver:=u52) (l:=s31) Z Z Z n54 qD
  refine jI<|oN mv<|oN (nl Z)<|oN (fa kX Z)<|oN (lf (eL (cL cY) s.waits) qw Z)<|oN (GU.lenL mW Z)<|oN mv<|jA<|jE ?_;refine jO (S:=(LI)×Int) (G:=(Bool×Nat)) (dH s) (λs37 gh=>(gh.1=true->s37.1=[])) (λs37 gh=>[(52,I s37.2),(51,I (s.waits.length:Int)),(50,eL (cL cY) s.waits),(3,hS gh.1 0 gh.2 1 s37.1.length),(0,.fp (ae.c s) 0)]) (λs37 gh=>[bE gh.1 gh.2 1 3 (s37.1.map cI)]) (s0:=(s1,U)) (b29,u28) h n30 (kw Z Z) λs37 gh ws37 h n41=>?_;obtain ⟨b40,u39⟩:=gh;refine jI<|oN (GU.ilt Z Z)<|jA<|jH ?_;refine jN Z h (λq42 h=>?_) λq42 h=>?_
  ·refine jG ?_;refine T.jF (G:=(Bool×Nat)) h (λs43 gh=>(gh.1=true->s43=[])) (λs43 gh=>[(3,hS gh.1 0 gh.2 1 s43.length),(52,I s37.2),(51,I (s.waits.length:Int)),(50,eL (cL cY) s.waits),(0,.fp (ae.c s) 0)]) (λs43 gh=>[bE gh.1 gh.2 1 3 (s43.map cI)]) (λs43 gh h n50=>?_) λs43 h=>?_
   ·obtain ⟨b49,u48⟩:=gh;refine jC<|jW h λg51 h=>oN (GU.add Z Z g51)<|oN mv<|jA ?_;obtain rfl:=GX h;exact ⟨(s43,(s37.2+V)),(b49,u48),Z,n50,kw Z Z⟩
   refine jE<|jI<|oN mv<|jD h λg44 h=>oN (GU.ixL mW Z Z g44 qD)<|oN (lf (eL cY<|J s.waits s37.2) vp Z)<|oN as'<|oN as'<|jA<|jI<|oN mv<|oN (GU.lenL nM Z)<|oN (GU.igt Z Z)<|jA ?_;refine jN Z h (λq45 h=>?_) λq45 h=>?_
   ·refine jC<|oN mv<|oN mv<|oN (nl Z)<|oN (GU.fafpS 16 Tryz.underlying152 Z (by kernel_rfl) Z Z (row2:=GZ.c s.values))<|oN (fa kG Z)<|oN (lf (eL (cL GY.c) s.values.p) Dg Z)<|oN (GU.lenL ib Z)<|oN mv<|jW h λg46 h=>oN (GU.add Z Z g46)<|oN (GU.mkF (c:=cI) ([((s.values.p.length:Int)+s37.2)]:LI) [[I ((s.values.p.length:Int)+s37.2)]] mV Z Z Z qD qD Z)<|jL h λg47 h=>oA (EvA.app1 (g:=b40) (l:=s37.1) ((s.values.p.length:Int)+s37.2) mV (by kernel_rfl) Z Z Z n41 (bg.fz (l:=([((s.values.p.length:Int)+s37.2)]:LI)) Z qD) g47)<|oN (GU.asg (hS false 0 (u39+1) 1<|(s37.1++[((s.values.p.length:Int)+s37.2)]).length) Z)<|jA ?_
    cases h
    exact ⟨(false,u39+1),nofun,kw Z Z⟩
   refine jG ?_
   cases h
   exact ⟨(b40,u39),n41,kw Z Z⟩
  refine jM<|lX h λh=>?_
  cases h
  exact ⟨(b40,u39),n41,kw Z Z⟩
 refine jI<|oN mv<|oN (nl Z)<|oN (GU.fafpS 16 Tryz.underlying152 Z (by kernel_rfl) Z Z (row2:=GZ.c s.values))<|oN (fa kG Z)<|oN (lf (eL (cL GY.c) s.values.p) Dg Z)<|oN (GU.lenL ib Z)<|oN mv<|jA<|jE ?_;refine jO (S:=(LI)×Int) (G:=(Bool×Nat)) (dS s) (λs7 gh=>(gh.1=true->s7.1=[])) (λs7 gh=>[(15,I s7.2),(14,I (s.values.p.length:Int)),(3,hS gh.1 0 gh.2 1 s7.1.length),(0,.fp (ae.c s) 0)]) (λs7 gh=>[bE gh.1 gh.2 1 3 (s7.1.map cI)]) (s0:=(([]:LI),U)) (true,0) h qD (kw Z Z) λs7 gh ws7 h n11=>?_;obtain ⟨b10,u9⟩:=gh;refine jI<|oN (GU.ilt Z Z)<|jA<|jH ?_;refine jN Z h (λq12 h=>?_) λq12 h=>?_
 ·refine jG ?_;refine T.jF (G:=(Bool×Nat)) h (λs13 gh=>(gh.1=true->s13=[])) (λs13 gh=>[(3,hS gh.1 0 gh.2 1 s13.length),(15,I s7.2),(14,I (s.values.p.length:Int)),(0,.fp (ae.c s) 0)]) (λs13 gh=>[bE gh.1 gh.2 1 3 (s13.map cI)]) (λs13 gh h n26=>?_) λs13 h=>?_
  ·obtain ⟨b25,u24⟩:=gh;refine jC<|jW h λg27 h=>oN (GU.add Z Z g27)<|oN mv<|jA ?_;obtain rfl:=GX h;exact ⟨(s13,(s7.2+V)),(b25,u24),Z,n26,kw Z Z⟩
  refine jE<|jI<|oN mv<|oN as'<|jA<|jI<|oN mv<|oN (nl Z)<|oN (GU.fafpS 16 Tryz.underlying152 Z (by kernel_rfl) Z Z (row2:=GZ.c s.values))<|oN mv<|oC h (λ_=>cn _ _) Z Z Z Z λv14 _ h=>oN mv<|oN (GU.ext (.agg<|GY.c v14.1) Z Z)<|oN (GU.ext (Bo v14.2) Z Z)<|oA (EvA.al o8 Z Z)<|oV (sr (GY.c v14.1) gB Z Z Z Z) ?_;refine oN as'<|jA<|jI<|oN mv<|oN mv ?_;refine TO.jB h 14 (λs15=>[(41,Bo s15),(4,I s7.2),(15,I s7.2),(14,I (s.values.p.length:Int)),(3,hS b10 0 u9 1 s7.1.length),(0,.fp (ae.c s) 0)]) (λs15=>[bE b10 u9 1 3 (s7.1.map cI),some ⟨0,4,69,[(GY.c v14.1)]⟩]) (λs15 q16 h js15=>?_) (λs15 q16 h js15=>?_) λs15 h=>?_
  ·refine gN Z q16 (fa fH Z)<|gA Z q16 (lh (I v14.1.Op) G9 Z Z Z)<|gN Z q16 (GU.ine Z Z)<|gN Z q16 mv ?_;refine TO.jB h 4 (λs17=>[(35,Bo s17),(31,Bo<|v14.1.Op != (4:Int)),(30,Bo<|v14.1.Op != (4:Int)),(29,I v14.1.Op),(28,.hp 1 0 4 0 0),(27,Bo v14.2),(4,I s7.2),(15,I s7.2),(14,I (s.values.p.length:Int)),(3,hS b10 0 u9 1 s7.1.length),(0,.fp (ae.c s) 0)]) (λs17=>[bE b10 u9 1 3 (s7.1.map cI),some ⟨0,4,69,[(GY.c v14.1)]⟩]) (λs17 q18 h js17=>?_) (λs17 q18 h js17=>?_) λs17 h=>?_
   ·refine gN Z q18 (fa fH Z)<|gA Z q18 (lh (I v14.1.Op) G9 Z Z Z)<|gN Z q18 (GU.ine Z Z)<|gN Z q16 (GU.pickT Z q18 (Bo<|v14.1.Op != (5:Int)) Z) ?_
    cases h
    exact js17 _ _<|kw Z Z
   ·refine gS Z q18<|gS Z q18<|gS Z q18<|gN Z q16 (GU.pickF Z q18 (Bo false) Z) ?_
    cases h
    exact js17 _ _<|kw Z Z
   refine gN Z q16 mv ?_;refine TO.jB h 4 (λs19=>[(40,Bo s19),(36,Bo s17),(35,Bo s17),(31,Bo<|v14.1.Op != (4:Int)),(30,Bo<|v14.1.Op != (4:Int)),(29,I v14.1.Op),(28,.hp 1 0 4 0 0),(27,Bo v14.2),(4,I s7.2),(15,I s7.2),(14,I (s.values.p.length:Int)),(3,hS b10 0 u9 1 s7.1.length),(0,.fp (ae.c s) 0)]) (λs19=>[bE b10 u9 1 3 (s7.1.map cI),some ⟨0,4,69,[(GY.c v14.1)]⟩]) (λs19 q20 h js19=>?_) (λs19 q20 h js19=>?_) λs19 h=>?_
   ·refine gS Z q20<|gS Z q20<|gS Z q20<|gN Z q16 (GU.pickT Z q20 (Bo true) Z) ?_
    cases h
    exact js19 _ _<|kw Z Z
   ·refine gN Z q20 mv<|gN Z q20 mv<|jB h λv21 cv21 h=>gN Z q20 (GU.call Z Z Z (kJ s s7.2 cv21) Z)<|gN Z q16 (GU.pickF Z q20 (Bo v21) Z) ?_
    cases h
    exact js19 _ _<|kw Z Z
   refine oN (GU.pickT Z q16 (Bo s19) Z) ?_
   cases h
   exact js15 _ _<|kw Z Z
  ·refine gS Z q16<|gS Z q16<|gS Z q16<|gS Z q16<|gU Z<|gU Z<|gU Z<|gS Z q16<|gS Z q16<|gU Z<|gU Z<|gU Z<|gS Z q16<|oN (GU.pickF Z q16 (Bo false) Z) ?_
   cases h
   exact js15 _ _<|kw Z Z
  refine jA ?_;refine jN Z h (λq22 h=>?_) λq22 h=>?_
  ·refine jC<|oN mv<|oN mv<|oN (GU.mkF (c:=cI) ([s7.2]:LI) [[I s7.2]] mV Z Z Z qD qD Z)<|jL h λg23 h=>oA (EvA.app1 (g:=b10) (l:=s7.1) s7.2 mV (by kernel_rfl) Z Z Z n11 (bg.fz (l:=([s7.2]:LI)) Z qD) g23)<|oN (GU.asg (hS false 0 (u9+1) 1<|(s7.1++[s7.2]).length) Z)<|jA ?_;obtain rfl:=GX h;exact ⟨(false,u9+1),nofun,pG Z (.cons (.list (g:=false) (ver:=u9+1) (l:=(s7.1++[s7.2])) qD) .nil)<|au (.hS (g:=false) (b:=0) (ver:=u9+1) (s:=1) (n:=(s7.1++[s7.2]).length) Z)<|au (.fz<|qC Z)<|au (.fz<|qC Z)<|au (.fz<|qC Z) bO⟩
  refine jG ?_;obtain rfl:=GX h;exact ⟨(b10,u9),n11,pG Z (.cons (.list (g:=b10) (ver:=u9) (l:=s7.1) qD) .nil)<|au (.hS (g:=b10) (b:=0) (ver:=u9) (s:=1) (n:=s7.1.length) Z)<|au (.fz<|qC Z)<|au (.fz<|qC Z)<|au (.fz<|qC Z) bO⟩
 refine jM<|lX h λh=>?_
 cases h
 exact ⟨(b10,u9),n11,kw Z Z⟩
theorem jd (s:LL) {q} (h:dw s=some q):cz Tryz.prog 251 [eL (cL cY) s] [] (AA 1 22 (λx=>x) q.length (q.map<|cL cY) 0 []):=by
 refine cz.mkO Tryz.func251 Z (by kernel_rfl) Z (by kernel_rfl) (e0:=ai [(0,eL (cL cY) s)]) (GR Z GQ) oD (mR qD)<|jI<|oN as'<|jA<|jH<|jI<|oN mv ?_;refine Gm false Tryz.underlying150 Z Z (λz1=>?_) ?_
 ·replace h:=(uK h).1 (by rw [z1];rfl);refine jA ?_;refine T.cond Z (λ_=>?_) λq=>absurd (q.symm.trans Z) (by decide);refine jI<|oN as'<|jA<|jK ?_;obtain rfl:=GX h
  repeat (first|refine iG ?_|refine iH ?_)
  exact jQ (vs:=[.nil]) (.cons (.tmp Z) .nil) ⟨0,true,0,λ_=>Z,Z,nofun⟩
 replace h:=(uK h).2;refine jA ?_;refine T.cond Z (λq=>absurd (q.symm.trans Z)<|by decide) λ_=>?_;refine jG<|jI<|oA (EvA.mkO (c:=(cL cY)) ([]:LL) [] mW Z Z Z qD Z Z)<|oN mv<|jL h λg2 h=>oA (EvA.appF (l:=([]:LL)) s mW (by kernel_rfl) Z Z Z (bg.fz (l:=s) Z qD) g2)<|oN (GU.asg (hS false 0 (0+1) 1<|(([]:LL)++s).length) Z)<|jA<|jK ?_;obtain rfl:=GX h
 repeat (first|refine iG ?_|refine iH ?_)
 exact jQ (vs:=[hS false 0 (0+1) 1 ((([]:LL)++s).length)]) (.cons (.tmp Z) .nil) ⟨0,false,0+1,nofun,Z,ownB Z⟩
theorem jq (s:LI) {q} (h:dI s=some q):cz Tryz.prog 254 [eL cY s] [] (AA 1 5 (λx=>x) q.length (q.map cY) 0 []):=by
 refine cz.mkO Tryz.func254 Z (by kernel_rfl) Z (by kernel_rfl) (e0:=ai [(0,eL cY s)]) (GR Z GQ) oD (mR qD)<|jI<|oN as'<|jA<|jH<|jI<|oN mv ?_;refine Gm false Tryz.underlying22 Z Z (λz1=>?_) ?_
 ·replace h:=(uK h).1 (by rw [z1];rfl);refine jA ?_;refine T.cond Z (λ_=>?_) λq=>absurd (q.symm.trans Z) (by decide);refine jI<|oN as'<|jA<|jK ?_;obtain rfl:=GX h
  repeat (first|refine iG ?_|refine iH ?_)
  exact jQ (vs:=[.nil]) (.cons (.tmp Z) .nil) ⟨0,true,0,λ_=>Z,Z,nofun⟩
 replace h:=(uK h).2;refine jA ?_;refine T.cond Z (λq=>absurd (q.symm.trans Z)<|by decide) λ_=>?_;refine jG<|jI<|oA (EvA.mkO (c:=cY) ([]:LI) [] nM Z Z Z qD Z Z)<|oN mv<|jL h λg2 h=>oA (EvA.appF (l:=([]:LI)) s nM (by kernel_rfl) Z Z Z (bg.fz (l:=s) Z qD) g2)<|oN (GU.asg (hS false 0 (0+1) 1<|(([]:LI)++s).length) Z)<|jA<|jK ?_;obtain rfl:=GX h
 repeat (first|refine iG ?_|refine iH ?_)
 exact jQ (vs:=[hS false 0 (0+1) 1 ((([]:LI)++s).length)]) (.cons (.tmp Z) .nil) ⟨0,false,0+1,nofun,Z,ownB Z⟩
theorem lK (s:ae) (move:Int) {q} (h:bH s move=some q):aJ Tryz.prog 247 [.fp (ae.c s) 0,I move] (.ifc 149<|.fp (ae.c q) 0):=by
 let d1:=(move-(s.values.p.length:Int));let d0:=(Z3b.set s.values.pc move<|(Z3b.get s.values.pc move)+V);refine pM Tryz.func247 Z (by kernel_rfl) Z<|jI<|oN as'<|jA<|jI<|oN mv<|oN (nl Z)<|oN (lf (.agg<|ae.c s) FL Z)<|oA (EvA.al FM Z Z)<|oV (sr (ae.c (⟨s.values,s.split,s.waits⟩:ae)) FL Z Z Z Z)<|jA<|jI<|oN mv<|oN (nl Z)<|oN (fa kX Z)<|oN (lf (eL (cL cY) s.waits) qw Z) ?_;refine jB h λv1 cv1 h=>?_;refine oG Z Z Z ((jd s.waits cv1).own Z (mR qD) oD 1 Z) λg2 v3 n4=>?_;refine oN (fa kX Z)<|oV (EvA.st (cs:=[hS g2 1 v3 1 v1.length]) ⟨0,18,152,[[eL (cL GY.c) s.values.p,Y s.values.pc.x0,Y s.values.pc.x1,Y s.values.pc.x2,Y s.values.reg.x0.x0,Y s.values.reg.x0.x1,Y s.values.reg.x0.x2,Y s.values.reg.x1.x0,Y s.values.reg.x1.x1,Y s.values.reg.x1.x2,Y s.values.reg.x2.x0,Y s.values.reg.x2.x1,Y s.values.reg.x2.x2,Y s.values.mem.x0,Y s.values.mem.x1,Y s.values.mem.x2,Bo s.split,hS g2 1 v3 1 v1.length]]⟩ qw Z (by generalize g2=gq0;cases gq0 <;> rfl) Z Z Z Z Z Z Z)<|jA<|jH<|jI<|oN mv<|oN mv<|oN (nl Z)<|oN (GU.fafpS 16 Tryz.underlying152 Z (by kernel_rfl) Z Z (row2:=GZ.c s.values))<|oN (fa kG Z)<|oN (lf (eL (cL GY.c) s.values.p) Dg Z)<|oN (GU.lenL ib Z)<|oN (GU.ige Z Z)<|jA ?_;refine jN Z h (λq5 h=>?_) λq5 h=>?_
 ·refine jH<|T.clean (H0:=[some ⟨0,18,152,[[eL (cL GY.c) s.values.p,Y s.values.pc.x0,Y s.values.pc.x1,Y s.values.pc.x2,Y s.values.reg.x0.x0,Y s.values.reg.x0.x1,Y s.values.reg.x0.x2,Y s.values.reg.x1.x0,Y s.values.reg.x1.x1,Y s.values.reg.x1.x2,Y s.values.reg.x2.x0,Y s.values.reg.x2.x1,Y s.values.reg.x2.x2,Y s.values.mem.x0,Y s.values.mem.x1,Y s.values.mem.x2,Bo s.split,hS g2 1 v3 1 v1.length]]⟩,bE g2 v3 1 22 (v1.map<|cL cY)]) (e0:=ai [(5,.hp 0 0 18 0 0),(0,.fp (ae.c s) 0),(1,I move)]) Z (GR Z<|GR Z<|GR Z GQ)<|jC<|oN mv<|oN mv<|oN (nl Z)<|oN (GU.fafpS 16 Tryz.underlying152 Z (by kernel_rfl) Z Z (row2:=GZ.c s.values))<|oN (fa kG Z)<|oN (lf (eL (cL GY.c) s.values.p) Dg Z)<|oN (GU.lenL ib Z)<|jW h λg6 h=>oN (GU.sub Z Z g6)<|oN as'<|jA<|jI<|oN mv ?_;refine oN (nl Z)<|oN (fa kX Z)<|oN (lf (eL (cL cY) s.waits) qw Z)<|oN mv<|jD h λg7 h=>oN (GU.ixL mW Z Z g7 qD)<|oN (lf (eL cY<|J s.waits d1) vp Z)<|jD h λg8 h=>oN (GU.ixL nM Z Z g8 qD)<|oN (lf (Y<|J (J s.waits d1) U) Ha Z)<|oN as'<|jA<|jH<|T.clean (H0:=[some ⟨0,18,152,[[eL (cL GY.c) s.values.p,Y s.values.pc.x0,Y s.values.pc.x1,Y s.values.pc.x2,Y s.values.reg.x0.x0,Y s.values.reg.x0.x1,Y s.values.reg.x0.x2,Y s.values.reg.x1.x0,Y s.values.reg.x1.x1,Y s.values.reg.x1.x2,Y s.values.reg.x2.x0,Y s.values.reg.x2.x1,Y s.values.reg.x2.x2,Y s.values.mem.x0,Y s.values.mem.x1,Y s.values.mem.x2,Bo s.split,hS g2 1 v3 1 v1.length]]⟩,bE g2 v3 1 22 (v1.map<|cL cY)]) (e0:=ai [(7,Y<|J (J s.waits d1) U),(6,I d1),(5,.hp 0 0 18 0 0),(0,.fp (ae.c s) 0)]) Z (GR Z<|GR Z<|GR Z<|GR Z GQ)<|jP (dG [dF,([0],false),dF,dF,dF,dF,dF,dF,dF,dF,dF,dF,([1],true)]) (by kernel_rfl) (by kernel_rfl)<|fN Z (fa kX Z) ?_;refine fR [0] Z (λG hG=>EvA.loadhp (hS g2 1 v3 1 v1.length) qw Z (hG.a0 Z) Z Z Z Z)<|fN Z mv<|fN Z mv<|fN Z (nl Z)<|fN Z (fa kX Z)<|fN Z (lf (eL (cL cY) s.waits) qw Z)<|fN Z mv<|fN Z (GU.ixL mW Z Z g7 qD)<|fN Z (lf (eL cY<|J s.waits d1) vp Z)<|jD h λg9 h=>fN Z (GU.slL nM Z (.yes Z) .no g9 qD)<|jD h λg10 h=>?_;obtain rfl:=Au (λx=>M8<|n4 x) rfl g10;refine fN Z (GU.ixO (g:=false) mW Z Z nofun g10)<|fV 1 [] Z Z (λG hG=>EvA.stO (g:=false) (l:=v1) (cs:=[eL cY (((J s.waits d1).drop V.toNat).take<|((J s.waits d1).length:Int).toNat-V.toNat)]) (((J s.waits d1).drop V.toNat).take<|((J s.waits d1).length:Int).toNat-V.toNat) vp Z Z (hG.a0 Z) nofun (jh Z g10) Z Z Z)<|jR<|jI<|oN mv<|jD h λg11 h=>jW h λg12 h=>oN (GU.quo Z Z g11 g12)<|oN mv<|oN (GU.rem Z Z g11)<|oN (fa kX Z)<|oN (fa kG Z)<|jD h λg13 h=>oN (GU.ixahp Tryz.underlying115 Ha Z Z g13)<|oV (sr1 (λz0=>[eL (cL GY.c) s.values.p,Y s.values.pc.x0,Y s.values.pc.x1,Y s.values.pc.x2,Y s.values.reg.x0.x0,Y s.values.reg.x0.x1,Y s.values.reg.x0.x2,Y s.values.reg.x1.x0,Y s.values.reg.x1.x1,Y s.values.reg.x1.x2,Y s.values.reg.x2.x0,Y s.values.reg.x2.x1,Y s.values.reg.x2.x2,Y ((Z3b.set s.values.mem z0<|(J (J s.waits d1) U).tmod (16:Int)).x0),Y ((Z3b.set s.values.mem z0<|(J (J s.waits d1) U).tmod (16:Int)).x1),Y ((Z3b.set s.values.mem z0<|(J (J s.waits d1) U).tmod (16:Int)).x2),Bo s.split,hS false 1 v3 1 v1.length]) g13 Ha Z Z Z Z Z Z)<|jA ?_;refine jH<|T.clean (H0:=[some ⟨0,18,152,[[eL (cL GY.c) s.values.p,Y s.values.pc.x0,Y s.values.pc.x1,Y s.values.pc.x2,Y s.values.reg.x0.x0,Y s.values.reg.x0.x1,Y s.values.reg.x0.x2,Y s.values.reg.x1.x0,Y s.values.reg.x1.x1,Y s.values.reg.x1.x2,Y s.values.reg.x2.x0,Y s.values.reg.x2.x1,Y s.values.reg.x2.x2,Y ((Z3b.set s.values.mem ((J (J s.waits d1) U).tdiv (16:Int))<|(J (J s.waits d1) U).tmod (16:Int)).x0),Y ((Z3b.set s.values.mem ((J (J s.waits d1) U).tdiv (16:Int))<|(J (J s.waits d1) U).tmod (16:Int)).x1),Y ((Z3b.set s.values.mem ((J (J s.waits d1) U).tdiv (16:Int))<|(J (J s.waits d1) U).tmod (16:Int)).x2),Bo s.split,hS false 1 v3 1 v1.length]]⟩,bE false v3 1 22 ((v1.set (d1.toNat)<|((J s.waits d1).drop V.toNat).take<|((J s.waits d1).length:Int).toNat-V.toNat).map<|cL cY)]) (e0:=ai [(5,.hp 0 0 18 0 0)]) Z (GR Z GQ)<|jC<|oN (GU.mkifc (.hp 0 0 18 0 0) Tryz.underlying149 (λ_ h=>nomatch h) Z)<|oN as'<|jA<|jK ?_;obtain rfl:=GX h
  repeat (first|refine iG ?_|refine iH ?_)
  exact jQ (vs:=[.ifc 149 (.hp 0 0 18 0 0)]) (.cons (.tmp Z) .nil)<|.ifc<|Fz.fpL (ver:=0) (s:=18) (ty:=152) (rows:=[[eL (cL GY.c) s.values.p,Y s.values.pc.x0,Y s.values.pc.x1,Y s.values.pc.x2,Y s.values.reg.x0.x0,Y s.values.reg.x0.x1,Y s.values.reg.x0.x2,Y s.values.reg.x1.x0,Y s.values.reg.x1.x1,Y s.values.reg.x1.x2,Y s.values.reg.x2.x0,Y s.values.reg.x2.x1,Y s.values.reg.x2.x2,Y ((Z3b.set s.values.mem ((J (J s.waits d1) (0:Int)).tdiv (16:Int))<|(J (J s.waits d1) (0:Int)).tmod (16:Int)).x0),Y ((Z3b.set s.values.mem ((J (J s.waits d1) (0:Int)).tdiv (16:Int))<|(J (J s.waits d1) (0:Int)).tmod (16:Int)).x1),Y ((Z3b.set s.values.mem ((J (J s.waits d1) (0:Int)).tdiv (16:Int))<|(J (J s.waits d1) (0:Int)).tmod (16:Int)).x2),Bo s.split,hS false 1 v3 1 v1.length]]) Z Z Z<|.cons (qC Z)<|.cons (qC Z)<|.cons (qC Z)<|.cons (qC Z)<|.cons (qC Z)<|.cons (qC Z)<|.cons (qC Z)<|.cons (qC Z)<|.cons (qC Z)<|.cons (qC Z)<|.cons (qC Z)<|.cons (qC Z)<|.cons (qC Z)<|.cons (qC Z)<|.cons (qC Z)<|.cons (qC Z)<|.cons (qC Z)<|.cons (Fz.own (g:=false) (ver:=v3) (l:=(v1.set (d1.toNat)<|((J s.waits d1).drop (1:Int).toNat).take<|((J s.waits d1).length:Int).toNat-(1:Int).toNat)) Z Z (by simp) nofun qD) .nil
 refine jG<|jH<|T.clean (H0:=[some ⟨0,18,152,[[eL (cL GY.c) s.values.p,Y s.values.pc.x0,Y s.values.pc.x1,Y s.values.pc.x2,Y s.values.reg.x0.x0,Y s.values.reg.x0.x1,Y s.values.reg.x0.x2,Y s.values.reg.x1.x0,Y s.values.reg.x1.x1,Y s.values.reg.x1.x2,Y s.values.reg.x2.x0,Y s.values.reg.x2.x1,Y s.values.reg.x2.x2,Y s.values.mem.x0,Y s.values.mem.x1,Y s.values.mem.x2,Bo s.split,hS g2 1 v3 1 v1.length]]⟩,bE g2 v3 1 22 (v1.map<|cL cY)]) (e0:=ai [(5,.hp 0 0 18 0 0),(0,.fp (ae.c s) 0),(1,I move)]) Z (GR Z<|GR Z<|GR Z GQ)<|jC<|oN mv<|oN (nl Z)<|oN (GU.fafpS 16 Tryz.underlying152 Z (by kernel_rfl) Z Z (row2:=GZ.c s.values))<|oN mv<|oC h (λ_=>cn _ _) Z Z Z Z λv14 _ h=>oN mv<|oN (GU.ext (.agg<|GY.c v14.1) Z Z)<|oN (GU.ext (Bo v14.2) Z Z)<|oA (EvA.al o8 Z Z)<|oV (sr (GY.c v14.1) gB Z Z Z Z)<|oN as'<|jA ?_;refine jI<|oN mv<|oN (fa kX Z)<|oN (fa kG Z)<|jD h λg15 h=>oN (GU.ixahp Tryz.underlying115 Ha Z Z g15)<|oA (lh1 (λz0=>Y<|Z3b.get s.values.pc z0) g15 Ha Z Z Z Z Z)<|jW h λg16 h=>oN (GU.add Z Z g16)<|oN (fa kX Z)<|oN (fa kG Z)<|oN (GU.ixahp Tryz.underlying115 Ha Z Z g15)<|oV (sr1 (λz0=>[eL (cL GY.c) s.values.p,Y ((Z3b.set s.values.pc z0<|(Z3b.get s.values.pc move)+V).x0),Y ((Z3b.set s.values.pc z0<|(Z3b.get s.values.pc move)+V).x1),Y ((Z3b.set s.values.pc z0<|(Z3b.get s.values.pc move)+V).x2),Y s.values.reg.x0.x0,Y s.values.reg.x0.x1,Y s.values.reg.x0.x2,Y s.values.reg.x1.x0,Y s.values.reg.x1.x1,Y s.values.reg.x1.x2,Y s.values.reg.x2.x0,Y s.values.reg.x2.x1,Y s.values.reg.x2.x2,Y s.values.mem.x0,Y s.values.mem.x1,Y s.values.mem.x2,Bo s.split,hS g2 1 v3 1 v1.length]) g15 Ha Z Z Z Z Z Z)<|jA ?_;refine T.jF (G:=(Bool×Nat)) h (λs17 gh=>(gh.1=true->s17.2.2.2.2.2.2.2.2.2=[])) (λs17 gh=>[(8,.hp 2 0 4 0 0),(5,.hp 0 0 18 0 0),(0,.fp (ae.c s) 0),(1,I move)]) (λs17 gh=>[some ⟨0,18,152,[[eL (cL GY.c) s.values.p,Y (d0.x0),Y (d0.x1),Y (d0.x2),Y s17.1,Y s17.2.1,Y s17.2.2.1,Y s17.2.2.2.1,Y s17.2.2.2.2.1,Y s17.2.2.2.2.2.1,Y s17.2.2.2.2.2.2.1,Y s17.2.2.2.2.2.2.2.1,Y s17.2.2.2.2.2.2.2.2.1,Y s.values.mem.x0,Y s.values.mem.x1,Y s.values.mem.x2,Bo s.split,hS gh.1 1 gh.2 1 s17.2.2.2.2.2.2.2.2.2.length]]⟩,bE gh.1 gh.2 1 22 (s17.2.2.2.2.2.2.2.2.2.map<|cL cY),some ⟨0,4,69,[(GY.c v14.1)]⟩]) (λs17 gh h n24=>?_) λs17 h=>?_
 ·obtain ⟨b23,u22⟩:=gh;refine T.jF (G:=(Bool×Nat)) h (λs25 gh=>(gh.1=true->s25.2.2.2=[])) (λs25 gh=>[(5,.hp 0 0 18 0 0)]) (λs25 gh=>[some ⟨0,18,152,[[eL (cL GY.c) s.values.p,Y (d0.x0),Y (d0.x1),Y (d0.x2),Y s17.1,Y s17.2.1,Y s17.2.2.1,Y s17.2.2.2.1,Y s17.2.2.2.2.1,Y s17.2.2.2.2.2.1,Y s17.2.2.2.2.2.2.1,Y s17.2.2.2.2.2.2.2.1,Y s17.2.2.2.2.2.2.2.2.1,Y s25.1,Y s25.2.1,Y s25.2.2.1,Bo s.split,hS gh.1 1 gh.2 1 s25.2.2.2.length]]⟩,bE gh.1 gh.2 1 22 (s25.2.2.2.map<|cL cY),some ⟨0,4,69,[(GY.c v14.1)]⟩]) (λs25 gh h n46=>?_) λs25 h=>?_
  ·obtain ⟨b45,u44⟩:=gh;refine jI<|oN (GU.mkifc (.hp 0 0 18 0 0) Tryz.underlying149 (λ_ h=>nomatch h) Z)<|oN as'<|jA<|jK ?_;obtain rfl:=GX h
   repeat (first|refine iG ?_|refine iH ?_)
   exact jQ (vs:=[.ifc 149 (.hp 0 0 18 0 0)]) (.cons (.tmp Z) .nil)<|.ifc<|Fz.fpL (ver:=0) (s:=18) (ty:=152) (rows:=[[eL (cL GY.c) s.values.p,Y (d0.x0),Y (d0.x1),Y (d0.x2),Y s17.1,Y s17.2.1,Y s17.2.2.1,Y s17.2.2.2.1,Y s17.2.2.2.2.1,Y s17.2.2.2.2.2.1,Y s17.2.2.2.2.2.2.1,Y s17.2.2.2.2.2.2.2.1,Y s17.2.2.2.2.2.2.2.2.1,Y s25.1,Y s25.2.1,Y s25.2.2.1,Bo s.split,hS b45 1 u44 1 s25.2.2.2.length]]) Z Z Z<|.cons (qC Z)<|.cons (qC Z)<|.cons (qC Z)<|.cons (qC Z)<|.cons (qC Z)<|.cons (qC Z)<|.cons (qC Z)<|.cons (qC Z)<|.cons (qC Z)<|.cons (qC Z)<|.cons (qC Z)<|.cons (qC Z)<|.cons (qC Z)<|.cons (qC Z)<|.cons (qC Z)<|.cons (qC Z)<|.cons (qC Z)<|.cons (Fz.own (g:=b45) (ver:=u44) (l:=s25.2.2.2) Z Z Z n46 qD) .nil
  refine jI<|oN (fa fH Z)<|oA (lh (I v14.1.Op) G9 Z Z Z)<|jA<|jE ?_;refine T.jU h (λs26=>[(98,Bo s26),(97,I v14.1.Op),(8,.hp 2 0 4 0 0),(5,.hp 0 0 18 0 0),(0,.fp (ae.c s) 0),(1,I move)]) (λs26=>[some ⟨0,18,152,[[eL (cL GY.c) s.values.p,Y (d0.x0),Y (d0.x1),Y (d0.x2),Y s17.1,Y s17.2.1,Y s17.2.2.1,Y s17.2.2.2.1,Y s17.2.2.2.2.1,Y s17.2.2.2.2.2.1,Y s17.2.2.2.2.2.2.1,Y s17.2.2.2.2.2.2.2.1,Y s17.2.2.2.2.2.2.2.2.1,Y s.values.mem.x0,Y s.values.mem.x1,Y s.values.mem.x2,Bo s.split,hS b23 1 u22 1 s17.2.2.2.2.2.2.2.2.2.length]]⟩,bE b23 u22 1 22 (s17.2.2.2.2.2.2.2.2.2.map<|cL cY),some ⟨0,4,69,[(GY.c v14.1)]⟩]) (λs26 h=>?_) λs26 h=>?_
  ·refine jN Z h (λq28 h=>?_) λq28 h=>?_
   ·refine jI<|oN mv<|oN mv<|oN (fa fH Z)<|oA (lh (I v14.1.Loc) G9 Z Z Z)<|oC h (λ_=>gY _ _ _) Z Z Z Z λv29 _ h=>oN as'<|jA<|T.drawX [0,2,3,4,5,6,7,8,9,11,15,16,17,18,1,12,13,14,19,10,20,21,22,23,24,25] (λi=>([(false,[]),(false,[0]),(false,[]),(false,[]),(false,[]),(false,[]),(false,[]),(false,[]),(false,[]),(false,[]),(true,[]),(false,[]),(false,[2]),(false,[]),(false,[]),(false,[]),(false,[]),(false,[]),(false,[]),(false,[2]),(false,[]),(false,[]),(false,[]),(true,[3]),(false,[]),(true,[1])]:List Xc).getD i (false,[])) (by kernel_rfl) (by kernel_rfl) (by kernel_rfl)<|xN Z Z (fa kX Z)<|xN Z Z mv<|xN Z Z mv<|xN Z Z (nl Z)<|xN Z Z (fa kX Z)<|xN Z Z (lf (eL (cL cY) s.waits) qw Z)<|xN Z Z mv ?_;refine jD h λg30 h=>xN Z Z (GU.ixL mW Z Z g30 qD)<|xN Z Z (lf (eL cY<|J s.waits v29) vp Z)<|xN Z Z (fa fH Z)<|xN Z Z mv<|xN Z Z (nl Z)<|xN Z Z (GU.fafpS 16 Tryz.underlying152 Z (by kernel_rfl) Z Z (row2:=GZ.c s.values))<|xN Z Z mv<|xR [0] Z Z Z (λG hG=>EvA.loadhp (hS b23 1 u22 1 s17.2.2.2.2.2.2.2.2.2.length) qw Z (hG.a0 Z) Z Z Z Z)<|xR [2] Z Z Z (λG hG=>EvA.loadhp (I v14.1.Loc) G9 Z (hG.a0 Z) Z Z Z Z)<|jW h λg31 h=>xN Z Z (GU.iconv G9.und Tryz.underlying5 Z g31)<|jW h λg32 h=>xN Z Z (GU.mul Z Z g32)<|xR [2] Z Z Z (λG hG=>EvA.loadhp (.agg<|GY.c v14.1) gB Z (hG.a0 Z) Z Z Z Z)<|jB h λv33 cv33 h=>?_;refine xG Z Z Z Z Z ((jq (J s.waits v29) cv33).own Z (mR qD) oD 3 Z) λg34 v35 n36=>?_;refine jB h λv37 cv37 h=>xN Z Z (GU.call Z Z Z (ic s.values move (⟨v14.1.Op,v14.1.Loc,v14.1.Reg,v14.1.Val⟩:GY) cv37) Z)<|jW h λg38 h=>xN Z Z (GU.add Z Z g38)<|xN Z Z (GU.mkF (c:=cY) ([((v14.1.Loc*(16:Int))+v37)]:LI) [[Y ((v14.1.Loc*(16:Int))+v37)]] nM Z Z Z qD qD Z)<|jL h λg39 h=>xA Z Z (EvA.app1 (g:=g34) (l:=v33) ((v14.1.Loc*(16:Int))+v37) nM (by kernel_rfl) Z Z Z (λx=>M8<|n36 x) (bg.fz (l:=([((v14.1.Loc*(16:Int))+v37)]:LI)) Z qD) g39) yM<|jD h λg40 h=>?_;obtain rfl:=Au n24 rfl g40;refine xN Z Z (GU.ixO (g:=false) mW Z Z nofun g40)<|xV Z Z (EvA.stS (g:=false) (xs:=s17.2.2.2.2.2.2.2.2.2) (cs:=[hS false 3 (v35+1) 1 ((v33++[((v14.1.Loc*(16:Int))+v37)]).length)]) vp Z Z Z nofun (jh Z g40) qD Z Z) yM<|TX.nil ?_;obtain rfl:=GX h;exact ⟨(false,u22),nofun,pG Z (.cons (.row<|.cons (.fz<|qC Z)<|.cons (.fz<|qC Z)<|.cons (.fz<|qC Z)<|.cons (.fz<|qC Z)<|.cons (.fz<|qC Z)<|.cons (.fz<|qC Z)<|.cons (.fz<|qC Z)<|.cons (.fz<|qC Z)<|.cons (.fz<|qC Z)<|.cons (.fz<|qC Z)<|.cons (.fz<|qC Z)<|.cons (.fz<|qC Z)<|.cons (.fz<|qC Z)<|.cons (.fz<|qC Z)<|.cons (.fz<|qC Z)<|.cons (.fz<|qC Z)<|.cons (.fz<|qC Z)<|.cons (.eqv (congrArg (hS false 1 u22 1) (by simp:s17.2.2.2.2.2.2.2.2.2.length=(s17.2.2.2.2.2.2.2.2.2.set v29.toNat<|v33++[((v14.1.Loc*(16:Int))+v37)]).length))<|.hS (g:=false) (b:=1) (ver:=u22) (s:=1) (n:=(s17.2.2.2.2.2.2.2.2.2.set v29.toNat<|v33++[((v14.1.Loc*(16:Int))+v37)]).length) Z) .nil)<|.cons (.rows<|.setM (f:=(cL cY)) (v:=(v33++[((v14.1.Loc*(16:Int))+v37)])) qD (.cons (.fz<|Fz.own (g:=false) (ver:=v35+1) (l:=(v33++[((v14.1.Loc*(16:Int))+v37)])) Z Z Z nofun qD) .nil) s17.2.2.2.2.2.2.2.2.2 v29.toNat)<|.cons (.row<|.cons (.fz<|qC Z)<|.cons (.fz<|qC Z)<|.cons (.fz<|qC Z)<|.cons (.fz<|qC Z) .nil) .nil)<|au (.hp<|nlb Z) bO⟩
   refine jI<|oN (GU.ieq Z Z)<|oN as'<|jA ?_;refine jN Z h (λq41 h=>?_) λq41 h=>?_
   ·refine jC<|oN (fa fH Z)<|oA (lh (I v14.1.Loc) G9 Z Z Z)<|oN (fa fH Z)<|oA (lh (I v14.1.Val) G9 Z Z Z)<|jW h λg42 h=>oN (GU.iconv G9.und Tryz.underlying5 Z g42)<|oN (fa kX Z)<|oN (fa kG Z)<|jD h λg43 h=>oN (GU.ixahp Tryz.underlying115 Ha Z Z g43)<|oV (sr1 (λz0=>[eL (cL GY.c) s.values.p,Y (d0.x0),Y (d0.x1),Y (d0.x2),Y s17.1,Y s17.2.1,Y s17.2.2.1,Y s17.2.2.2.1,Y s17.2.2.2.2.1,Y s17.2.2.2.2.2.1,Y s17.2.2.2.2.2.2.1,Y s17.2.2.2.2.2.2.2.1,Y s17.2.2.2.2.2.2.2.2.1,Y ((Z3b.set s.values.mem z0 v14.1.Val).x0),Y ((Z3b.set s.values.mem z0 v14.1.Val).x1),Y ((Z3b.set s.values.mem z0 v14.1.Val).x2),Bo s.split,hS b23 1 u22 1 s17.2.2.2.2.2.2.2.2.2.length]) g43 Ha Z Z Z Z Z Z)<|jA ?_
    cases h
    exact ⟨(b23,u22),n24,kw Z Z⟩
   refine jG ?_
   cases h
   exact ⟨(b23,u22),n24,kw Z Z⟩
  refine jI<|oN (GU.ieq Z Z)<|oN as'<|jA ?_;refine jN Z h (λq27 h=>?_) λq27 h=>?_
  ·refine jG ?_
   cases h
   exact ⟨(),trivial,kw Z Z⟩
  refine jC<|oN (GU.ieq Z Z)<|oN as'<|jA ?_
  cases h
  exact ⟨(),trivial,kw Z Z⟩
 refine jH<|T.clean (H0:=[some ⟨0,18,152,[[eL (cL GY.c) s.values.p,Y (d0.x0),Y (d0.x1),Y (d0.x2),Y s.values.reg.x0.x0,Y s.values.reg.x0.x1,Y s.values.reg.x0.x2,Y s.values.reg.x1.x0,Y s.values.reg.x1.x1,Y s.values.reg.x1.x2,Y s.values.reg.x2.x0,Y s.values.reg.x2.x1,Y s.values.reg.x2.x2,Y s.values.mem.x0,Y s.values.mem.x1,Y s.values.mem.x2,Bo s.split,hS g2 1 v3 1 v1.length]]⟩,bE g2 v3 1 22 (v1.map<|cL cY),some ⟨0,4,69,[(GY.c v14.1)]⟩]) (e0:=ai [(8,.hp 2 0 4 0 0),(5,.hp 0 0 18 0 0),(0,.fp (ae.c s) 0),(1,I move)]) Z (GR Z<|GR Z<|GR Z<|GR Z GQ)<|jC<|oA (lh (.agg<|GY.c v14.1) gB Z Z Z)<|oC h (λ_=>fI _) Z Z Z Z λv18 _ h=>jA ?_;refine jN Z h (λq19 h=>?_) λq19 h=>?_
 ·refine jP (dG [dF,dF,([2],false),dF,dF,dF,([2],false),dF,dF,dF,dF,dF,([0],true)]) (by kernel_rfl) (by kernel_rfl)<|fN Z mv<|fN Z (fa fH Z)<|fR [2] Z (λG hG=>EvA.loadhp (I v14.1.Reg) G9 Z (hG.a0 Z) Z Z Z Z)<|fN Z mv<|fN Z mv<|fN Z (fa fH Z)<|fR [2] Z (λG hG=>EvA.loadhp (I v14.1.Loc) G9 Z (hG.a0 Z) Z Z Z Z)<|fC h (λ_=>mg _ _ _) Z Z Z Z Z λv20 _ h=>fN Z (fa kX Z)<|fN Z (fa kG Z)<|fN Z (GU.ixahp Tryz.underlying116 wA Z Z g15)<|jD h λg21 h=>fN Z (GU.ixahp Tryz.underlying115 Ha Z Z g21)<|fV 0 [] Z Z (λG hG=>sr2 (λz0 z1=>[eL (cL GY.c) s.values.p,Y (d0.x0),Y (d0.x1),Y (d0.x2),Y (((Z33.set s.values.reg z0<|Z3b.set (Z33.get s.values.reg z0) z1 v20).x0).x0),Y (((Z33.set s.values.reg z0<|Z3b.set (Z33.get s.values.reg z0) z1 v20).x0).x1),Y (((Z33.set s.values.reg z0<|Z3b.set (Z33.get s.values.reg z0) z1 v20).x0).x2),Y (((Z33.set s.values.reg z0<|Z3b.set (Z33.get s.values.reg z0) z1 v20).x1).x0),Y (((Z33.set s.values.reg z0<|Z3b.set (Z33.get s.values.reg z0) z1 v20).x1).x1),Y (((Z33.set s.values.reg z0<|Z3b.set (Z33.get s.values.reg z0) z1 v20).x1).x2),Y (((Z33.set s.values.reg z0<|Z3b.set (Z33.get s.values.reg z0) z1 v20).x2).x0),Y (((Z33.set s.values.reg z0<|Z3b.set (Z33.get s.values.reg z0) z1 v20).x2).x1),Y (((Z33.set s.values.reg z0<|Z3b.set (Z33.get s.values.reg z0) z1 v20).x2).x2),Y s.values.mem.x0,Y s.values.mem.x1,Y s.values.mem.x2,Bo s.split,hS g2 1 v3 1 v1.length]) g15 g21 Ha Z Z (hG.a0 Z) ⟨Z,Z,Z,Z,Z,Z,Z,Z,Z⟩)<|jR ?_;obtain rfl:=GX h;exact ⟨(g2,v3),(λx=>M8<|n4 x),kw Z Z⟩
 refine jG ?_;obtain rfl:=GX h;exact ⟨(g2,v3),(λx=>M8<|n4 x),kw Z Z⟩
theorem je (start:ae) {q} (h:cV start=some q):aJ Tryz.prog 82 [.ifc 149 (.fp (ae.c start) 0)] (.tup [eL (cL cI) q.1,I q.2]):=by
 refine pM Tryz.func82 Z (by kernel_rfl) Z<|jI<|oN as'<|oN as'<|jA<|jI<|oA (EvA.mmkB (kn:=1) uO Z)<|oN mv<|jB h λv1 cv1 h=>oN (GU.invS 18 Z Z (MethT.of (off:=0)<|by kernel_rfl) Z Z (iQ start cv1) Z)<|oV (EvA.minsB (l:=([]:List<|ByteArray×Bool)) zG Tryz.underlying109 v1 true Z Z Z Z)<|oN mv<|oN as'<|jA<|jH<|T.reserve ?_;refine jC<|oN (GU.asg (hS true 1 0 1<|([]:LL).length) Z)<|jA ?_;refine T.jF (G:=(Bool×Nat)) h (λs2 gh=>(gh.1=true->s2.2=[])) (λs2 gh=>[(5,hS gh.1 1 gh.2 1 s2.2.length),(4,.mp 0 2)]) (λs2 gh=>[(some<|mB 1 1 uO cB s2.1),bE gh.1 gh.2 1 41 (s2.2.map<|cL cI)]) (λs2 gh h n45=>?_) λs2 h=>?_
 ·obtain ⟨b44,u43⟩:=gh;refine jI<|oN mv<|jB h λv46 cv46 h=>?_;refine oGW Z Z (gX s2.2 b44 u43 n45 cv46) Z (.cons (uN Z) .nil) (mR qD) (mR qD) oD λg47 v48 n49=>?_;refine oN mv<|oA (EvA.mlenB (l:=s2.1) Tryz.underlying109 Z Z)<|oN (GU.asg (hS g47 1 v48 1 v46.length) Z)<|oN as'<|jA<|jK ?_;obtain rfl:=GX h
  repeat (first|refine iG ?_|refine iH ?_)
  exact jQ (vs:=[hS g47 1 v48 1 v46.length,I (s2.1.length:Int)]) (.cons (.tmp Z)<|.cons (.tmp Z) .nil)<|.tupL<|.cons (Fz.own (g:=g47) (ver:=v48) (l:=v46) Z Z Z (λx=>M8<|n49 x) qD)<|.cons (qC Z) .nil
 refine jI<|oN mv<|oA (EvA.mkO (c:=(λx=>[AV.ifc 149 (.fp (ae.c x) 0)])) ([start]:List ae) [[.ifc 149 (.fp (ae.c start) 0)]] oP Z Z Z qD Z Z)<|oN (GU.asg (hS false 2 0 1<|([start]:List ae).length) Z)<|jA<|jE ?_;refine jO (S:=(List<|ByteArray×Bool)×(LL)×(List ae)) (G:=(Bool×Nat)×Nat) dN (λs9 gh=>(gh.1.1=true->s9.2.1=[])) (λs9 gh=>[(6,hS false 2 gh.2 1 s9.2.2.length),(5,hS gh.1.1 1 gh.1.2 1 s9.2.1.length),(4,.mp 0 2)]) (λs9 gh=>[(some<|mB 1 1 uO cB s9.1),bE gh.1.1 gh.1.2 1 41 (s9.2.1.map<|cL cI),bE false gh.2 1 91 (s9.2.2.map λx=>[AV.ifc 149 (.fp (ae.c x) 0)])]) (s0:=((sO ([]:List<|ByteArray×Bool) v1 true),([]:LL),([start]:List ae))) ((true,0),0) h qD (kw Z Z) λs9 gh ws9 h n13=>?_;let d0:=((s9.2.2.length:Int)-V);obtain ⟨⟨b12,u11⟩,u14⟩:=gh;refine jH<|jI<|oN mv<|oN (GU.lenO (g:=false) oP Z nofun)<|oN (GU.igt Z Z)<|jA ?_;refine jN Z h (λq15 h=>?_) λq15 h=>?_
 ·refine jG<|jE<|jI<|oN mv<|oN mv<|oN (GU.lenO (g:=false) oP Z nofun)<|jW h λg16 h=>oN (GU.sub Z Z g16)<|jD h λg17 h=>oN (GU.ixO (g:=false) oP Z Z nofun g17)<|oA (EvA.ldO (g:=false) (l:=s9.2.2) (.ifc 149<|.fp (ae.c<|s9.2.2.getD (d0.toNat) default) 0) FH Z Z nofun (jh Z g17) Z)<|oN as'<|jA<|jI<|oN mv<|oN mv ?_;refine oN (GU.lenO (g:=false) oP Z nofun)<|oN (GU.sub Z Z g16)<|jD h λg18 h=>oA (EvA.cutO (l:=s9.2.2) (zl:=U) (zh:=d0) (GU.slhs Tryz.underlying110 FH (l:=U) (h:=d0) Z .no (.yes Z) g18) Z Z g18)<|oN (GU.asg (hS false 2 (u14+1) 1<|((s9.2.2.drop U.toNat).take<|d0.toNat-U.toNat).length) Z)<|jA ?_;refine T.jF (G:=(Bool×Nat)) h (λs19 gh=>(gh.1=true->s19=[])) (λs19 gh=>[(5,hS gh.1 1 gh.2 1 s19.length),(6,hS false 2 (u14+1) 1<|((s9.2.2.drop U.toNat).take<|d0.toNat-U.toNat).length),(7,.ifc 149<|.fp (ae.c<|s9.2.2.getD (d0.toNat) default) 0),(4,.mp 0 2)]) (λs19 gh=>[(some<|mB 1 1 uO cB s9.1),bE gh.1 gh.2 1 41 (s19.map<|cL cI),bE false (u14+1) 1 91 (((s9.2.2.drop U.toNat).take<|d0.toNat-U.toNat).map λx=>[AV.ifc 149 (.fp (ae.c x) 0)])]) (λs19 gh h n26=>?_) λs19 h=>?_
  ·obtain ⟨b25,u24⟩:=gh;refine jI<|oN mv<|jB h λv27 cv27 h=>oN (GU.invS 18 Z Z (MethT.of (off:=0)<|by kernel_rfl) Z Z (lJ (s9.2.2.getD (d0.toNat) default) cv27) Z)<|oN (GU.lenL mV Z)<|oN mv<|jA<|jE ?_;refine jO (S:=(List<|ByteArray×Bool)×(List ae)×Int) (G:=Nat) (dM s9 s19 v27) (λs31 gh=>True) (λs31 gh=>[(42,I s31.2.2),(41,I (v27.length:Int)),(40,eL cI v27),(5,hS b25 1 u24 1 s19.length),(6,hS false 2 gh 1 s31.2.1.length),(7,.ifc 149<|.fp (ae.c<|s9.2.2.getD (d0.toNat) default) 0),(4,.mp 0 2)]) (λs31 gh=>[(some<|mB 1 1 uO cB s31.1),bE b25 u24 1 41 (s19.map<|cL cI),bE false gh 1 91 (s31.2.1.map λx=>[AV.ifc 149 (.fp (ae.c x) 0)])]) (s0:=(s9.1,((s9.2.2.drop U.toNat).take<|d0.toNat-U.toNat),U)) (u14+1) h trivial (kw Z Z) λs31 u33 ws31 h hg=>?_;refine jI<|oN (GU.ilt Z Z)<|jA<|jH ?_;refine jN Z h (λq34 h=>?_) λq34 h=>?_
   ·refine jG ?_;refine T.jF (G:=Nat) h (λs35 gh=>True) (λs35 gh=>[(6,hS false 2 gh 1 s35.2.length),(42,I s31.2.2),(41,I (v27.length:Int)),(40,eL cI v27),(5,hS b25 1 u24 1 s19.length),(7,.ifc 149<|.fp (ae.c<|s9.2.2.getD (d0.toNat) default) 0),(4,.mp 0 2)]) (λs35 gh=>[(some<|mB 1 1 uO cB s35.1),bE b25 u24 1 41 (s19.map<|cL cI),bE false gh 1 91 (s35.2.map λx=>[AV.ifc 149 (.fp (ae.c x) 0)])]) (λs35 u41 h hg=>?_) λs35 h=>?_
    ·refine jC<|jW h λg42 h=>oN (GU.add Z Z g42)<|oN mv<|jA ?_;obtain rfl:=GX h;exact ⟨(s35.1,s35.2,(s31.2.2+V)),u41,Z,trivial,kw Z Z⟩
    refine jE<|jI<|jD h λg36 h=>oN (GU.ixL mV Z Z g36 qD)<|oN (lf (I<|J v27 s31.2.2) G9 Z)<|oN as'<|jA<|jI<|oN mv<|oN mv<|jB h λv37 cv37 h=>oN (GU.invS 18 Z Z (MethT.of (off:=0)<|by kernel_rfl) Z Z (lK (s9.2.2.getD (d0.toNat) default) (J v27 s31.2.2) cv37) Z)<|oN as'<|jA<|jI<|oN mv ?_;refine jB h λv38 cv38 h=>oN (GU.invS 18 Z Z (MethT.of (off:=0)<|by kernel_rfl) Z Z (iQ v37 cv38) Z)<|oN as'<|jA<|jI<|oN mv<|oN mv<|oA (EvA.lookB (l:=s31.1) zG Tryz.underlying109 (by kernel_rfl) v38 Z Z Z)<|oN (GU.not Z)<|jA ?_;refine jN Z h (λq39 h=>?_) λq39 h=>?_
    ·refine jI<|oN mv<|oN mv<|oV (EvA.msetB (l:=s31.1) zG Tryz.underlying109 v38 true Z Z Z Z)<|jA<|T.clean (H0:=[(some<|mB 1 1 uO cB<|sO s31.1 v38 true),bE b25 u24 1 41 (s19.map<|cL cI),bE false u33 1 91 (s31.2.1.map λx=>[AV.ifc 149 (.fp (ae.c x) 0)])]) (e0:=ai [(10,.ifc 149<|.fp (ae.c v37) 0),(42,I s31.2.2),(41,I (v27.length:Int)),(40,eL cI v27),(5,hS b25 1 u24 1 s19.length),(6,hS false 2 u33 1 s31.2.1.length),(7,.ifc 149<|.fp (ae.c<|s9.2.2.getD (d0.toNat) default) 0),(4,.mp 0 2)]) Z (GR Z<|GR Z<|GR Z<|GR Z<|GR Z<|GR Z<|GR Z<|GR Z GQ)<|jC<|oN mv<|oN mv<|oN (GU.mkF (c:=(λx=>[AV.ifc 149 (.fp (ae.c x) 0)])) ([v37]:List ae) [[.ifc 149 (.fp (ae.c v37) 0)]] oP Z Z Z qD qD Z)<|jL h λg40 h=>oA (EvA.app1 (g:=false) (l:=s31.2.1) v37 oP (by kernel_rfl) Z Z Z nofun (bg.fz (c:=(λx=>[AV.ifc 149 (.fp (ae.c x) 0)])) (l:=([v37]:List ae)) Z qD) g40)<|oN (GU.asg (hS false 2 (u33+1) 1<|(s31.2.1++[v37]).length) Z)<|jA ?_
     cases h
     exact ⟨u33+1,trivial,kw Z Z⟩
    refine jG ?_
    cases h
    exact ⟨u33,trivial,kw Z Z⟩
   refine jM<|lX h λh=>?_;obtain rfl:=GX h;exact ⟨(s31.1,s19,s31.2.1),((b25,u24),u33),Z,n26,kw Z Z⟩
  refine jI<|oN mv<|jB h λv20 cv20 h=>oN (GU.invS 18 Z Z (MethT.of (off:=0)<|by kernel_rfl) Z Z (mo (s9.2.2.getD (d0.toNat) default) cv20) Z)<|jA ?_;refine jN Z h (λq21 h=>?_) λq21 h=>?_
  ·refine T.clean (H0:=[(some<|mB 1 1 uO cB s9.1),bE b12 u11 1 41 (s9.2.1.map<|cL cI),bE false (u14+1) 1 91 (((s9.2.2.drop U.toNat).take<|d0.toNat-U.toNat).map λx=>[AV.ifc 149 (.fp (ae.c x) 0)])]) (e0:=ai [(6,hS false 2 (u14+1) 1<|((s9.2.2.drop U.toNat).take<|d0.toNat-U.toNat).length),(7,.ifc 149<|.fp (ae.c<|s9.2.2.getD (d0.toNat) default) 0),(5,hS b12 1 u11 1 s9.2.1.length),(4,.mp 0 2)]) Z (GR Z<|GR Z<|GR Z<|GR Z GQ)<|jC<|oN mv<|oN mv<|jB h λv22 cv22 h=>oN (GU.invS 16 Z Z (MethT.of (off:=0)<|by kernel_rfl) Z Z (gW ((s9.2.2.getD (d0.toNat) default).values) cv22) Z)<|oN (GU.mkF (c:=(cL cI)) ([v22]:LL) [[eL cI v22]] vq Z Z Z qD qD Z)<|jL h λg23 h=>oA (EvA.app1 (g:=b12) (l:=s9.2.1) v22 vq (by kernel_rfl) Z Z Z n13 (bg.fz (l:=([v22]:LL)) Z qD) g23)<|oN (GU.asg (hS false 1 (u11+1) 1<|(s9.2.1++[v22]).length) Z)<|jA ?_
   cases h
   exact ⟨(false,u11+1),nofun,kw Z Z⟩
  refine jG ?_
  cases h
  exact ⟨(b12,u11),n13,kw Z Z⟩
 refine jM<|lX h λh=>?_;obtain rfl:=GX h;exact ⟨(b12,u11),n13,pG Z (.cons (.mp qD)<|.cons (.list (g:=b12) (ver:=u11) (l:=s9.2.1) qD) .nil)<|au (.hS (g:=b12) (b:=1) (ver:=u11) (s:=1) (n:=s9.2.1.length) Z)<|au (.mp<|nlb Z) bO⟩
theorem jr (p:List<|List GY) (split:Bool) {q} (h:bQ p split=some q):aJ Tryz.prog 99 [eL (cL GY.c) p,Bo split] (.tup [eL (cL cI) q.1,I q.2]):=by
 refine pM Tryz.func99 Z (by kernel_rfl) Z<|jI<|oN as'<|oN as'<|jA<|jH<|jI<|oN mv<|oC h (λ_=>eU _) Z Z Z Z λv1 _ h=>oN (GU.not Z)<|jA ?_;refine jN Z h (λq2 h=>?_) λq2 h=>?_
 ·refine jI<|oN as'<|oN as'<|jA<|jK ?_;obtain rfl:=GX h
  repeat (first|refine iG ?_|refine iH ?_)
  exact jQ (vs:=[.nil,I U]) (.cons (.tmp Z)<|.cons (.tmp Z) .nil)<|.tupL<|.cons .nil0<|.cons (qC Z) .nil
 refine jG<|jI<|oN mv<|oN mv<|oC h (λ_=>nO _ _) Z Z Z Z λv3 _ h=>oC h (λ_=>je _) Z Z Z Z λv4 _ h=>oN (GU.ext (eL (cL cI) v4.1) Z Z)<|oN (GU.ext (I v4.2) Z Z)<|oN as'<|oN as'<|jA<|jK ?_;obtain rfl:=GX h
 repeat (first|refine iG ?_|refine iH ?_)
 exact jQ (vs:=[eL (cL cI) v4.1,I v4.2]) (.cons (.tmp Z)<|.cons (.tmp Z) .nil)<|.tupL<|.cons (qC Z)<|.cons (qC Z) .nil
theorem sx (p:List<|List GY) {q} (h:iU p=some q):aJ Tryz.prog 61 [eL (cL GY.c) p] (eL (cL cI) q):=by
 refine pM Tryz.func61 Z (by kernel_rfl) Z<|jI<|oN as'<|jA<|jI<|oN mv<|oC h (λ_=>jr _ _) Z Z Z Z λv1 _ h=>oN mv<|oN (GU.ext (eL (cL cI) v1.1) Z Z)<|oN (GU.ext (I v1.2) Z Z)<|oN as'<|oN as'<|jA<|jI<|oN mv<|oN as' ?_;refine jA<|jK ?_
 cases h
 exact dL Z Z Z
theorem sD (p:List<|List GY) {q} (h:iV p=some q):aJ Tryz.prog 62 [eL (cL GY.c) p] (eL (cL cI) q):=by
 refine pM Tryz.func62 Z (by kernel_rfl) Z<|jI<|oN as'<|jA<|jI<|oN mv<|oC h (λ_=>jr _ _) Z Z Z Z λv1 _ h=>oN mv<|oN (GU.ext (eL (cL cI) v1.1) Z Z)<|oN (GU.ext (I v1.2) Z Z)<|oN as'<|oN as'<|jA<|jI<|oN mv<|oN as' ?_;refine jA<|jK ?_
 cases h
 exact dL Z Z Z
theorem dK (p:List<|List GY) (name:ByteArray) {q} (h:aA p name=some q):aJ Tryz.prog 20 [eL (cL GY.c) p,St name] (eL (cL cI) q):=by
 refine pM Tryz.func20 Z (by kernel_rfl) Z<|jI<|oN as'<|jA<|jH<|jI<|oN mv<|jA<|jE<|jI<|oN (GU.seq Z Z)<|oN as'<|jA ?_;refine jN Z h (λq1 h=>?_) λq1 h=>?_
 ·refine jI<|oN mv<|oC h (λ_=>mi _) Z Z Z Z λv2 _ h=>oN as'<|jA<|jK ?_
  cases h
  exact dL Z Z Z
 refine jI<|oN (GU.seq Z Z)<|oN as'<|jA ?_;refine jN Z h (λq3 h=>?_) λq3 h=>?_
 ·refine jI<|oN mv<|oC h (λ_=>sx _) Z Z Z Z λv4 _ h=>oN as'<|jA<|jK ?_
  cases h
  exact dL Z Z Z
 refine jI<|oN (GU.seq Z Z)<|oN as'<|jA ?_;refine jN Z h (λq5 h=>?_) λq5 h=>?_
 ·refine jI<|oN mv<|oC h (λ_=>sD _) Z Z Z Z λv6 _ h=>oN as'<|jA<|jK ?_
  cases h
  exact dL Z Z Z
 refine jI<|oN (GU.seq Z Z)<|oN as'<|jA ?_;refine jN Z h (λq7 h=>?_) λq7 h=>?_
 ·cases h
 refine jG<|jI<|oN as'<|jA<|jK ?_;obtain rfl:=GX h
 repeat (first|refine iG ?_|refine iH ?_)
 exact jQ (vs:=[.nil]) (.cons (.tmp Z) .nil) .nil0
end
end Go.Proofs.YtjcmfddobaplbaaGreat
