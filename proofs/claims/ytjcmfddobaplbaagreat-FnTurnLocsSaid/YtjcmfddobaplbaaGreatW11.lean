/- Texts joined. No conditions. -/
import Derived.OpenShut
import Derived.BigRegion
import Derived.Laws.IdiomStrings
import Derived.Test.YtjcmfddobaplbaaGreatW10
namespace Go.Proofs.YtjcmfddobaplbaaGreat
noncomputable section
open _root_.List renaming getElem?_map -> Us, drop_eq_getElem_cons -> Ut, drop_eq_nil_of_le -> Uv
open _root_.Option renaming map_eq_some_iff -> Uu
open _root_.Array renaming getElem?_modify -> Uw, getElem_ofFn -> Ux, extract_eq_self_of_le -> Uy
open Go.ChangeShapes Go.WideShapes Go.ChangeAt Go.RowKit Go.Shelf Go.Sort
set_option maxRecDepth 100000
theorem Ip {α:Type} (f:α->LI):SWO (ltOf λx y=>cmpL (f x)<|f y) where
 irrefl x:=by simp [ltOf,mU]
 trans x y z h1 h2:=by
  simp only [ltOf,dte] at *;exact p8 h1 h2
 ntrans x y z h1 h2:=by
  simp only [ltOf,decide_eq_false_iff_not] at *;intro h;rcases p9 (f x) (f y) with g | g | g
  ·exact h1 g
  ·rw [g] at h;exact h2 h
  exact h2<|p8 g h
theorem xk (x y:Int) (w:World) :
  Calls Tryz.prog 138 #[.int .i64 x,.int .i64 y] w λe w'=>e = .returned (.int .i64<|if x<y then -1 else if y<x then 1 else 0)/\w'=w:=by
 go_enter Tryz.func138,Tryz.ntmps138
 by_cases h1:x<y
 ·rw [if_pos h1]
  go_wp2
  go_ret
  exact ⟨rfl,rfl⟩
 rw [if_neg h1]
 by_cases h2:y<x
 ·rw [if_pos h2]
  go_wp2
  go_ret
  exact ⟨rfl,rfl⟩
 rw [if_neg h2]
 go_wp2
 go_ret
 exact ⟨rfl,rfl⟩
theorem BO {lo hi lo' hi':Nat} {u v:Value} {xs ys:LI} {w:World} (hu:Sl KN 1 w lo hi u xs) (hv:Sl KN 1 w lo' hi' v ys) :
  Calls Tryz.prog 123 #[u,v] w λe w'=>e = .returned (.int .i64<|cmpL xs ys)/\w'=w:=by
 obtain ⟨A,ca,rfl,hca,hma,hA⟩:=hu.ints;obtain ⟨B,cb,rfl,hcb,hmb,hB⟩:=hv.ints;have HAA:=Lib.hid hA;clear hA;have HBB:=Lib.hid hB;clear hB
 go_enter Tryz.func123,Tryz.ntmps123
 go_wp2_with fail
 go_loopw [11] (λi wr=>∃ k:Nat,k<=xs.length/\k<=ys.length/\i = .int .i64 k/\wr=w/\cmpL xs ys=cmpL (xs.drop k) (ys.drop k)) (λi _=>xs.length-(intOf i).toNat)
 case atStart=>exact ⟨0,Nat.zero_le _,Nat.zero_le _,rfl,rfl,rfl⟩
 case round=>
  obtain ⟨k,hk,hk2,rfl,rfl,he⟩:=hrel;have HE:=Lib.hid he;clear he
  by_cases hlt:k<xs.length
  ·obtain ⟨ba,oa,rfl,_,_,hba,hA⟩:=HAA.out (by omega);have ca1:=hA k hlt;clear hA;have i1:(0:Int)<=(k:Int):=by omega
   have i2:(k:Int)<(xs.length:Int):=by omega
   have HX:=Lib.hid<|Ut hlt
   by_cases hlt2:k<ys.length
   ·obtain ⟨bb,ob,rfl,_,_,hbb,hB⟩:=HBB.out (by omega);have cb1:=hB k hlt2;clear hB;have i3:(k:Int)<(ys.length:Int):=by omega
    have HY:=Lib.hid<|Ut hlt2;generalize xs[k]=x at *;generalize ys[k]=y at *;have hc:=xk x y wr
    by_cases h1:x<y
    ·rw [if_pos h1] at hc;have HR:=Lib.hid (show cmpL xs ys = -1 by rw [HE.out,HX.out,HY.out,cmpL,if_pos h1])
     go_wp2_with (go_at_call 138;refine hc.mono ?_;rintro e w' ⟨rfl,rfl⟩)
     go_ret
     exact ⟨by rw [HR.out];rfl,rfl⟩
    rw [if_neg h1] at hc
    by_cases h2:y<x
    ·rw [if_pos h2] at hc;have HR:=Lib.hid (show cmpL xs ys=1 by rw [HE.out,HX.out,HY.out,cmpL,if_neg h1,if_pos h2])
     go_wp2_with (go_at_call 138;refine hc.mono ?_;rintro e w' ⟨rfl,rfl⟩)
     go_ret
     exact ⟨by rw [HR.out];rfl,rfl⟩
    rw [if_neg h2] at hc;have HR:=Lib.hid (show cmpL xs ys=cmpL (xs.drop<|k+1) (ys.drop<|k+1) by rw [HE.out,HX.out,HY.out,cmpL,if_neg h1,if_neg h2])
    go_wp2_with (go_at_call 138;refine hc.mono ?_;rintro e w' ⟨rfl,rfl⟩)
    go_roundw
    case rel=>exact ⟨k+1,by omega,by omega,by go_num,by first | rfl | trivial,HR.out⟩
    case measure=>simp [intOf];omega
   have hky:k=ys.length:=by omega
   have i3:((ys.length:Int)<=(k:Int)):=by omega
   have HR:=Lib.hid (show cmpL xs ys=1 by rw [HE.out,HX.out,Uv (show ys.length<=k by omega)];rfl);clear hky
   go_wp2_with fail
   go_ret
   exact ⟨by rw [HR.out];rfl,rfl⟩
  have hkx:k=xs.length:=by omega
  have HF:=Lib.hid (show cmpL xs ys=cmpL [] (ys.drop xs.length) by rw [HE.out,hkx,List.drop_length]);clear HE;subst hkx
  by_cases hl:xs.length<ys.length
  ·have i3:((xs.length:Int)<(ys.length:Int)):=by omega
   go_wp2_with fail
   go_ret
   exact ⟨by rw [HF.out,Ut hl];rfl,rfl⟩
  have i3 : ¬ ((xs.length:Int)<(ys.length:Int)):=by omega
  go_wp2_with fail
  go_ret
  exact ⟨by rw [HF.out,Uv (by omega)];rfl,rfl⟩
theorem rY {w:World} {fz:Nat->Prop} {v:Value} {l:LI} (h:FRel w fz (eL cI l) v):Sl KN 1 w 0 w.heap.size v l:=by
 have := yc (f:=KN) (s:=1) (c:=cI) (e:=id) (λ_=>rfl) (λ_=>rfl) h
 rwa [List.map_id] at this
def Rd1 (w:World) (fz:Nat->Prop):Type:={ p:Value×LI // p.1.oneCell'=true/\FRel w fz (eL cI p.2) p.1 }
theorem Gj (w:World) (fz:Nat->Prop):FRel w fz (eL cI ([]:LI)) (.slice none 0 0):=
 .sl (s:=1) (g:=0) (o:=0) (λ_ _ => .bool false) (Nat.le_refl _) (by decide) (λh=>absurd h<|by simp) (λi h=>absurd h<|by simp) (λi j a h=>absurd h<|by simp) (λi j a h=>absurd h<|by simp) λi j a h=>absurd h (by simp)
instance {w:World} {fz:Nat->Prop}:Inhabited (Rd1 w fz):=⟨⟨(.slice none 0 0,[]),rfl,Gj w fz⟩⟩
def zm {w:World} {fz:Nat->Prop} (x:Rd1 w fz):Value:=x.1.1
def Gm {w:World} {fz:Nat->Prop} (x:Rd1 w fz):LI:=x.1.2
theorem qB {α:Type} [Inhabited α] {enc:α->Value} {w:World} {blk off g:Nat} {d:Array α} (h:g≠blk):(putRow enc w blk off d).heap[g]? = w.heap[g]? := by
 show (w.heap.modify blk _)[g]? = _;rw [Uw,if_neg (Ne.symm h)]
theorem xm {α:Type} [Inhabited α] {enc:α->Value} {w:World} {blk off:Nat} {d:Array α} {cs:Array Value} {t:TypeId} {fr:Nat×Nat} (h:w.heap[blk]? = some (.cells cs t fr)):(putRow enc w blk off d).heap[blk]? = some (.cells (putCells enc off d cs) t fr):=by
 show (w.heap.modify blk _)[blk]? = _;rw [Uw,if_pos rfl,h]
 rfl
theorem qE {α:Type} [Inhabited α] {enc:α->Value} {w:World} {blk off m g:Nat} {d:Array α} {os:Array Obj} (hg:g<w.heap.size):(sortWorld enc w blk off m d os).heap[g]? = (putRow enc w blk off d).heap[g]? := by
 show ((putRow enc (Sort.ahead w m) blk off d).heap++os)[g]? = _;have hs:(putRow enc (Sort.ahead w m) blk off d).heap.size=w.heap.size:=by rw [size_putRow];rfl
 rw [Array.getElem?_append_left (by rw [hs];exact hg)]
 rfl
theorem nQ {α:Type} [Inhabited α] {enc:α->Value} {off:Nat} {d:Array α} {cs:Array Value}:(putCells enc off d cs).size=cs.size:=by simp [putCells]
theorem Ao {α:Type} [Inhabited α] {enc:α->Value} {off:Nat} {d:Array α} {cs:Array Value} {k:Nat} (h:off+d.size<=cs.size) (hk:k<d.size):(putCells enc off d cs)[off+k]? = some (enc d[k]!):=by
 unfold putCells;rw [Array.getElem?_mapIdx,Array.getElem?_eq_getElem (by omega)];simp only [Option.map_some];rw [if_pos (by omega),show off+k-off=k by omega]
theorem Kh {c:Cx} {blk off size:Nat} (hnf : ¬ c.fz blk) (hlt:∀ g,c.fz g->g<c.w.heap.size):CmpLays1 Tryz.prog 123 #[] (zm (w:=c.w) (fz:=c.fz)) (λx y=>cmpL (Gm x)<|Gm y) blk off size c.w:=by
 intro m os dk hs x y;have hW:∀ g,c.fz g->g<c.w.heap.size->(sortWorld zm c.w blk off m dk os).heap[g]? = c.w.heap[g]? /\ c.fz g:=λg hg hl=>by
  rw [qE hl,qB (by rintro rfl;exact hnf hg)];exact ⟨rfl,hg⟩
 have hsz:c.w.heap.size<=(sortWorld zm c.w blk off m dk os).heap.size:=by
  show _<=((putRow zm (Sort.ahead c.w m) blk off dk).heap++os).size;rw [Array.size_append,size_putRow];show c.w.heap.size<=c.w.heap.size+os.size;omega
 have hx:=rY<|x.2.2.mono hsz hW;have hy:=rY<|y.2.2.mono hsz hW;refine (BO hx hy).mono λe w' ⟨he,hw⟩=>⟨he,0,#[],?_⟩;rw [hw,grow_empty]
 rfl
theorem Iq {c:Cx} (hr:HRel c) {l:LL} {ver:Nat} (hH:c.H=[some ⟨ver,1,41,l.map<|cL cI⟩]) {u:Value} (hu:c.rel (.hs 0 ver 1 0 l.length) u) (hl:l.length<4611686018427387904) (hn:0<l.length) :
  Calls Tryz.prog 122 #[u,.func (.func 123) #[] #[]] c.w λe w'=>∃ c',e = .returned (.tuple #[])/\c'.w=w'/\c'.H=[some ⟨ver,1,41,(zR l).map<|cL cI⟩]/\HRel c'/\Ext c c':=by
 have hlv:c.live 0 ⟨ver,1,41,l.map<|cL cI⟩:=by
  unfold Cx.live;rw [hH]
  rfl
 obtain ⟨cs,fr0,hB⟩:=hr.blk 0 _ hlv
 cases hu with
 | fr h=>cases h
 | @hs _ _ _ _ _ cap A hb hc hm h0 h=>
 obtain ⟨f,rfl,hat,hhd⟩:=hB.cells hlv λx hx=>(h x hx).1;obtain ⟨_,_,h3,_⟩:=h _ hhd;have hA:=h3 (by omega);have hfit:(c.φ 0).2+l.length<=cs.size:=by
  have := hB.fits;simpa using this
 have hrow:∀ i (hi:i<l.length),∃ p:Rd1 c.w c.fz,cs[(c.φ 0).2+i]? = some (zm p)/\Gm p=l[i]:=λi hi=>by
  obtain ⟨u,g1,g2,g3⟩:=hB.rel i (cL cI l[i]) 0 (eL cI l[i]) (by simp [hi]) rfl;refine ⟨⟨(u,l[i]),g2,qG 1 _ _ rfl g3⟩,?_,rfl⟩;show _=some u;simpa using g1
 obtain ⟨d,hds,hd1,hd2⟩:∃ d:Array (Rd1 c.w c.fz),d.size=l.length/\(∀ i,i<l.length->cs[(c.φ 0).2+i]? = some (zm d[i]!))/\d.toList.map Gm=l:=by
  refine ⟨Array.ofFn (λi:_root_.Fin l.length=>(hrow i.1 i.2).choose),by simp,λi hi=>?_,?_⟩
  ·rw [getElem!_pos _ i (by simpa using hi),Ux];exact (hrow i hi).choose_spec.1
  apply List.ext_getElem
  ·simp
  intro i h1 h2;simp only [List.getElem_map,Array.getElem_toList,Ux];exact (hrow i h2).choose_spec.2
 have hblk:(c.φ 0).1<c.w.heap.size:=hr.live_lt hlv;have hH2:Holds (zm (w:=c.w) (fz:=c.fz)) c.w (c.φ 0).1 (c.φ 0).2 d:=λj hj=>by
  have hj2:(c.φ 0).2+j<cs.size:=by omega
  refine ⟨?_,?_⟩
  ·simp only [World.cell?,hat];exact hd1 j (by omega)
  have := hB.fre f rfl _ hj2;obtain ⟨lo,hi'⟩:=f;simp only [World.frozen?,hat,Bool.and_eq_false_iff,decide_eq_false_iff_not];simp only at this;omega
 have eg:∀ args w,(callFunc 123 args).run Tryz.prog w = .ok (.enter 123 args) w:=enters_of Tryz.func123 (by kernel_rfl) rfl;have hcon:=Any.slices_SortFunc I4 (zm (w:=c.w) (fz:=c.fz)) (λx=>x.2.1) (λx y=>cmpL (Gm x)<|Gm y) (Ip Gm) 123 #[] (c.φ 0).1 (c.φ 0).2 cap d c.w eg (Kh (hr.not_fz hlv) hr.lt) hH2 hblk (by omega);rw [hA,show (c.φ 0).2+0*1=(c.φ 0).2 by omega,<- hds];refine (show Calls Tryz.prog 122 _ _ _ from hcon).mono ?_;rintro e w' ⟨rfl,d',m,os,hp,hs,rfl⟩;have hds':d'.size=l.length:=hp.1.trans hds;have hpl:d'.toList.Perm d.toList:=by
  have := hp.2.2
  rwa [Uy (by omega),Uy (by omega)] at this
 have hsl:d'.toList.map Gm=zR l:=by
  refine vU ((hpl.map Gm).trans<|hd2 ▸ (lS l).symm) ?_<|vT l;rw [List.pairwise_map,List.pairwise_iff_getElem];intro i j h1 h2 hij;have := hs i j (Nat.zero_le _) hij (by rw [hds,<- hds'];simpa using h2);rw [getElem!_pos d' j (by simpa using h2),getElem!_pos d' i (by simpa using h1)] at this;unfold ltOf at this;unfold leL;rw [dte];simpa using this
 have hat':∀ i (hi:i<(zR l).length),Gm d'[i]! = (zR l)[i]:=λi hi=>by
  have hi2:i<d'.size:=by
   rw [(lS l).length_eq] at hi;omega
  rw [getElem!_pos d' i hi2];have : (d'.toList.map Gm)[i]? = (zR l)[i]? := by rw [hsl]
  rw [geq (by simpa using hi2),geq hi] at this;simpa using this
 have hll:(zR l).length=l.length:=(lS l).length_eq;have he1:Ext c (c.upd 0 ⟨ver,1,41,(zR l).map (cL cI)⟩ ((c.φ 0).1,(c.φ 0).2) (putCells zm (c.φ 0).2 d' cs)):=Cx.upd_ext hr hlv hB nQ (.inl ⟨rfl,rfl,by simp [hll],rfl⟩);have hr1:=Cx.upd_rel hr hlv hB (k:=⟨ver,1,41,(zR l).map (cL cI)⟩) (o:=(c.φ 0).2) (cs:=putCells zm (c.φ 0).2 d' cs) nQ rfl he1 Nat.one_pos (by rw [nQ];simpa [hll] using hfit) (λi row h=>by
  obtain ⟨x,_,rfl⟩:=by simpa [Us,Uu] using h
  rfl) (λi row j a h1 h2=>by
  have hi:i<(zR l).length:=by simpa using (ges h1).1
  have hrw:row=cL cI (zR l)[i]:=by
   have := (ges h1).2;rw [<- this];simp
  subst hrw
  match j,h2 with
  | 0,h2=>
   obtain rfl:=osl h2;refine ⟨zm d'[i]!,?_,d'[i]!.2.1,?_⟩
   ·have := Ao (enc:=zm) (off:=(c.φ 0).2) (d:=d') (cs:=cs) (k:=i) (by omega) (by omega);simpa using this
   rw [<- hat' i hi];exact .fr d'[i]!.2.2
  | j+1,h2=>simp [cL] at h2)
 have hbl:Below (c.upd 0 ⟨ver,1,41,(zR l).map<|cL cI⟩ ((c.φ 0).1,(c.φ 0).2)<|putCells zm (c.φ 0).2 d' cs).w.heap.size (c.upd 0 ⟨ver,1,41,(zR l).map<|cL cI⟩ ((c.φ 0).1,(c.φ 0).2)<|putCells zm (c.φ 0).2 d' cs).w (sortWorld zm c.w (c.φ 0).1 (c.φ 0).2 m d' os):=by
  have hz:(c.upd 0 ⟨ver,1,41,(zR l).map<|cL cI⟩ ((c.φ 0).1,(c.φ 0).2)<|putCells zm (c.φ 0).2 d' cs).w.heap.size=c.w.heap.size:=by simp [Cx.upd]
  refine ⟨rfl,rfl,rfl,?_,λg hg=>?_⟩
  ·rw [hz];show _<=((putRow zm (Sort.ahead c.w m) (c.φ 0).1 (c.φ 0).2 d').heap++os).size;rw [Array.size_append,size_putRow];show c.w.heap.size<=c.w.heap.size+os.size;omega
  rw [hz] at hg;rw [qE hg];show _=(c.w.setRow (c.φ 0).1<|putCells zm (c.φ 0).2 d' cs).heap[g]?
  by_cases e:g=(c.φ 0).1
  ·subst e;rw [xm hat,setRow_heap _ _ _ _ _ _ hat]
  rw [qB e,setRow_other _ _ _ _ e]
 obtain ⟨g1,g2⟩:=rG hr1 hbl (fz':=λ_=>False) (λ_ h=>h.elim) (λ_ h=>h.elim) λ_ _ _ h=>h;refine ⟨_,rfl,rfl,?_,g1,he1.trans g2⟩;show c.H.set 0 _=_;rw [hH]
 rfl
theorem qU (l:LL) (g:Bool) (ver:Nat) (hg:g=true->l=[]) {q} (h:fg l=some q) :
  eU Tryz.prog 122 [hS g 0 ver 1 l.length,.fn (.func 123) []] [bE g ver 1 41 (l.map<|cL cI)] (.tup []) [bE g ver 1 41 (q.map<|cL cI)]:=by
 obtain ⟨hl,h⟩:=gdD h;obtain rfl:=osl h;refine ⟨by kernel_rfl,λc vs hH hr hall=>?_⟩;obtain ⟨hsz,hrel⟩:=hall;obtain ⟨u,f,rfl⟩:∃ u f,vs = #[u,f]:=by
  match vs,hsz with
  | ⟨[u,f]⟩,_=>exact ⟨u,f,rfl⟩
 have hu:=hrel 0 _ u rfl rfl;obtain ⟨vs2,rfl,h5,_⟩:=ui<|hrel 1 _ f rfl rfl;obtain rfl:vs2 = #[]:=Array.eq_empty_of_size_eq_zero h5
 by_cases hn:0<l.length
 ·obtain rfl:g=false:=by
   cases g with
   | false=>rfl
   | true=>
    rw [hg rfl] at hn;exact absurd hn (by simp)
  refine (Iq hr hH hu hl hn).mono ?_;rintro e w' ⟨c',rfl,hw,hH',h1,h2⟩;exact ⟨_,c',Z,hw,hH',h1,h2,.tup Z λi x y hx=>by simp at hx⟩
 obtain rfl:l=[]:=List.eq_nil_of_length_eq_zero (by omega);obtain ⟨A,cap,rfl⟩:∃ A cap,u = .slice A 0 cap:=by
  cases g with
  | true=>
   cases hu with
   | fr h=>cases h;exact ⟨_,_,rfl⟩
  | false=>
   obtain ⟨A,cap,h6,_⟩:=iY hu;exact ⟨A,cap,h6⟩
 refine (show Calls Tryz.prog 122 _ _ _ from AnyF.slices_SortFunc_none { I4 with } A cap _ c.w).mono ?_;rintro e w' ⟨rfl,rfl⟩;refine ⟨_,c,Z,Z,?_,hr,Ext.refl c,.tup Z λi x y hx=>by simp at hx⟩;rw [hH,(lS []).eq_nil]
open Go.RowKit
section
variable {P:Program} {nt b0:Nat} {Q:Exit->Env->AH->Prop} {e:Env} {H:AH}
def BP (P:Program) (c:Code) (Q:Exit->Act->World->Prop) (a:Act) (w:World):Prop:=∀ (b:Frame) (k:List Item) (cs),∃ e a' w',Q e a' w'/\Arrives P (lone (b.at a (.code c :: .inLoop c::k)) cs w) b k cs e a' w'
theorem BP.loop {c:Code} {Q:Exit->Act->World->Prop} {a:Act} {w:World} (h:BP P c Q a w):(Code.loop c).wp P Q a w:=by
 intro b k cs;obtain ⟨e',a',w',hq',harr'⟩:=h b k cs;exact ⟨e',a',w',hq',.of_steps (.one step_loop) harr'⟩
theorem BP.mk {c:Code} {Q:Exit->Act->World->Prop} {a:Act} {w:World} (h:c.wp P (Exit.then (λa w=>BP P c Q a w) Q) a w):BP P c Q a w:=by
 intro b k cs;obtain ⟨e,a₁,w₁,hq,harr⟩:=h b (.inLoop c::k) cs
 cases e with
 | normal=>
  obtain ⟨e₂,a₂,w₂,hq₂,harr₂⟩:=hq b k cs;exact ⟨e₂,a₂,w₂,hq₂,.of_steps (Steps.trans harr<|.one step_inLoop) harr₂⟩
 | exit id=>exact ⟨_,a₁,w₁,hq,.pass (x:=.inLoop c) rfl (λ_ _ => .inl<|by simp) harr⟩
 | goto l=>exact ⟨_,a₁,w₁,hq,.pass (x:=.inLoop c) rfl (λ_ _ => .inl<|by simp) harr⟩
 | ret=>exact ⟨_,a₁,w₁,hq,.pass (x:=.inLoop c) rfl (λ_ _ => .inl<|by simp) harr⟩
 | panic ch=>exact ⟨_,a₁,w₁,hq,.pass (x:=.inLoop c) rfl (λ_ _ => .inl<|by simp) harr⟩
 | outgrown=>exact ⟨_,a₁,w₁,hq,.pass (x:=.inLoop c) rfl (λ_ _ => .inl<|by simp) harr⟩
def TLp (P:Program) (nt b0:Nat) (x:Code) (Q:Exit->Env->AH->Prop) (e:Env) (H:AH):Prop:=
 codeOk nt x=true->∀ (c c0:Cx) (a:Act),c.H=H->c0.H.length<=b0->Ext c0 c->SRel c nt e a->BP P x (KC nt c0 Q) a c.w
theorem T.ofL {x:Code} (h:TLp P nt b0 x Q e H):T P nt b0 (.loop x) Q e H:=λhok c c0 a hH hb hx hr=>(h hok c c0 a hH hb hx hr).loop
theorem TLp.unr {x:Code} (h:T P nt b0 x (EI (TLp P nt b0 x Q) Q) e H):TLp P nt b0 x Q e H:=by
 intro hok c c0 a hH hb hx hr;refine BP.mk<|wp_mono (h hok c c0 a hH hb hx hr) λex a' w' hl=>?_;obtain ⟨hg,c',e',rfl,hx',hs',hq⟩:=hl
 cases ex with
 | normal=>exact hq hok c' c0 a' rfl hb hx' hs'
 | exit i=>exact ⟨hg,c',e',rfl,hx',hs',hq⟩
 | ret=>exact ⟨hg,c',e',rfl,hx',hs',hq⟩
 | _=>exact hg.elim
variable {en:List (Nat×AV)} {ops:Array Oper} {l:List Oper} {d:Tmp} {t:TypeId} {pos:String} {af:Array Edge}
theorem oI {fn:Func} {body:Code} {e0:Env} {cl:Call} {f:Operand} {g:FuncId} {kG Ns:List AV} (hfn:P.funcs[g]? = some fn) (hbd:fn.body=some body) (hcall:eD P g=true) (hn:Nat.ble Ns.length fn.ntmps=true) (hok:codeOk fn.ntmps body=true)
  (hc:cl.callee = .value f) (hf:rho (ax en) f = .fn (.func g) kG) (ha:cl.args.toList.map (rho<|ax en)++kG=Ns) (hw:wU (EB Ns) e0)
  (h:T P fn.ntmps H.length body (SQ H.length<|Fin P fn λr G=>TO P nt b0 ops l Q (ax ((d,r)::en)) G) e0 H):TO P nt b0 ops (⟨some d,.call cl,t,pos,af,none⟩::l) Q (ax en) H:=by
 subst ha;exact TO.runG (.free rfl) (nG rfl hc hf<|cT.mkS hfn hbd hcall hn hok hw h) λr' H' hk=>hk
variable {cls:Nat->Xc} {i:Nat} {K:Env->AH->Prop} {li:List Nat} {op:Op}
theorem LQ {W:List Nat} {H G:AH} (n:Nat) (h:(List.range n).all (W.contains ·)=true) (hd:G.drop n=H.drop n):qR W H G:=λb _ hn=>by
 rcases Nat.lt_or_ge b n with hb | hb
 ·have := List.all_eq_true.1 h b<|List.mem_range.2 hb;simp at this;exact absurd this hn
 obtain ⟨k,rfl⟩:∃ k,b=n+k:=⟨b-n,by omega⟩;rw [<- List.getElem?_drop,hd,List.getElem?_drop]
theorem xI {W:List Nat} (n:Nat) {fn:Func} {body:Code} {e0:Env} {cl:Call} {f:Operand} {g:FuncId} {kG Ns:List AV} (h0:ops[i]? = some ⟨some d,.call cl,t,pos,af,none⟩) (hci:cls i=(true,W)) (hkw:(List.range n).all (W.contains ·)=true)
  (hfn:P.funcs[g]? = some fn) (hbd:fn.body=some body) (hcall:eD P g=true) (hn:Nat.ble Ns.length fn.ntmps=true) (hok:codeOk fn.ntmps body=true)
  (hc:cl.callee = .value f) (hf:rho (ax en) f = .fn (.func g) kG) (ha:cl.args.toList.map (rho<|ax en)++kG=Ns) (hw:wU (EB Ns) e0)
  (h:T P fn.ntmps H.length body (SQ H.length<|Fin P fn λr G=>G.drop n=H.drop n/\TX P ops cls li K (ax ((d,r)::en)) G) e0 H):TX P ops cls (i::li) K (ax en) H:=by
 subst ha;exact xT h0 hci (nG rfl hc hf<|cT.mkS hfn hbd hcall hn hok hw h) λr' G hk=>⟨LQ n hkw hk.1,hk.2⟩
end
def Cx.newF (c:Cx) (k:ABlk) (cs:Array Value) (fr:Nat×Nat):Cx:={ w:=c.w.alloc (.cells cs k.ty fr),fz:=c.fz,H:=c.H++[some k],φ:=λb=>if b=c.H.length then (c.w.heap.size,0) else c.φ b }
section
variable {c:Cx} {k:ABlk} {cs:Array Value} {fr:Nat×Nat}
theorem Cx.newF_live {b:Nat} {k':ABlk} (h:(c.newF k cs fr).live b k'):(b=c.H.length/\k'=k)\/(b<c.H.length/\c.live b k'):=Cx.new_live (cs:=#[]) h
theorem Cx.newF_ext (hr:HRel c) (k:ABlk) (cs:Array Value) (fr:Nat×Nat):Ext c (c.newF k cs fr) where
 os:=rfl
 tape:=rfl
 output:=rfl
 size:=by simp [Cx.newF]
 keep:=λg hg _=>Below.heap_alloc _ _ _ hg
 fz:=λ_ h=>h
 nT:=λ_ h => .inl h
 N:=by simp [Cx.newF]
 born:=λ_ _ h=>Cx.new_born (cs:=#[]) h
 hd:=λb ver x hb hx=>by
  obtain ⟨k',hl,hv,o,hc,hx'⟩:=Cx.hd_some hx;have hlt:=eY hb;rcases Cx.newF_live hl with ⟨rfl,_⟩ | ⟨_,hl'⟩
  ·omega
  have e:(c.newF k cs fr).φ b=c.φ b:=if_neg (by omega);rw [e] at hc hx';have hh:c.w.heap[(c.φ b).1]? = some o:=by
   rw [<- hc];exact (Below.heap_alloc _ _ _<|hr.live_lt hl').symm
  rw [<- hv];exact (Cx.hd_of hl' hh).trans hx'
 eT:=λb k' hl=>by
  rcases Cx.newF_live hl with ⟨rfl,rfl⟩ | ⟨hlt,hl'⟩
  ·left
   simp [Cx.newF]
  right
  exact ⟨b,k',hl',by rw [show (c.newF k cs fr).φ b=c.φ b from if_neg (by omega)]⟩
theorem Cx.newF_rel (hr:HRel c) (hs:0<k.s) (hf:k.rows.length*k.s<=cs.size) (hfr:∀ i,i<cs.size -> ¬ (fr.1<=i/\i<fr.2)) (hl:∀ (i:Nat) (row:List AV),k.rows[i]? = some row->row.length=k.s)
  (h:∀ (i:Nat) (row:List AV) (j:Nat) (a:AV),k.rows[i]? = some row->row[j]? = some a->∃ u,cs[i*k.s+j]? = some u/\u.oneCell'=true/\c.rel a u) (hk1:k.s=1:=by first | rfl | assumption | simp_all):HRel (c.newF k cs fr) where
 gl:=hr.glx<|Cx.newF_ext hr k cs fr
 lt:=λg hg=>by
  have := hr.lt g hg;simp [Cx.newF];omega
 blk:=λb k' hb=>by
  rcases Cx.newF_live hb with ⟨rfl,rfl⟩ | ⟨hlt,hl'⟩
  ·refine ⟨cs,some fr,?_⟩;have e:(c.newF k' cs fr).φ c.H.length=(c.w.heap.size,0):=if_pos rfl;refine ⟨by rw [e];exact heap_alloc_new _ _,by rw [e];exact λhz=>Nat.lt_irrefl _<|hr.lt _ hz,hs,λf hf i hi=>by cases hf;exact hfr i (by omega),by simp_all,hl,λi row j a h1 h2=>?_⟩;obtain ⟨u,h3,h4,h5⟩:=h i row j a h1 h2;exact ⟨u,by simp_all,h4,h5.ext hr<|Cx.newF_ext hr k' cs fr⟩
  obtain ⟨cs',fr',hB⟩:=hr.blk b k' hl';have e:(c.newF k cs fr).φ b=c.φ b:=if_neg (by omega);refine ⟨cs',fr',⟨by rw [e];exact (Below.heap_alloc _ _ _<|hr.live_lt hl').trans hB.at_,by rw [e];exact hB.nf,hB.pos,hB.free,by rw [e];exact hB.fits,hB.len,λi row j a h1 h2=>?_⟩⟩;obtain ⟨u,h3,h4,h5⟩:=hB.rel i row j a h1 h2;exact ⟨u,by simp_all,h4,h5.ext hr<|Cx.newF_ext hr k cs fr⟩
 inj:=λb b' k1 k2 h1 h2 hne=>by
  rcases Cx.newF_live h1 with ⟨rfl,rfl⟩ | ⟨hlt,hl'⟩
  ·rcases Cx.newF_live h2 with ⟨rfl,rfl⟩ | ⟨hlt2,hl2⟩
   ·omega
   have := hr.live_lt hl2;rw [show (c.newF k1 cs fr).φ c.H.length=(c.w.heap.size,0) from if_pos rfl,show (c.newF k1 cs fr).φ b'=c.φ b' from if_neg (by omega)];omega
  rcases Cx.newF_live h2 with ⟨rfl,rfl⟩ | ⟨hlt2,hl2⟩
  ·have := hr.live_lt hl';rw [show (c.newF k2 cs fr).φ c.H.length=(c.w.heap.size,0) from if_pos rfl,show (c.newF k2 cs fr).φ b=c.φ b from if_neg (by omega)];omega
  rw [show (c.newF k cs fr).φ b=c.φ b from if_neg (by omega),show (c.newF k cs fr).φ b'=c.φ b' from if_neg (by omega)];exact hr.inj b b' k1 k2 hl' hl2 hne
theorem Cx.newF_hs (c:Cx) (k:ABlk) (cs:Array Value) (fr:Nat×Nat) {n cap:Nat} (hn:n<=k.rows.length) (hc:n<=cap) (hm:cap<=9223372036854775807) (hs:cap*k.s<=cs.size):(c.newF k cs fr).rel (.hs c.H.length k.ver k.s 0 n) (.slice (some ⟨c.w.heap.size,0,none⟩) n cap):=by
 have hd:(c.newF k cs fr).hd c.H.length k.ver=some ⟨c.w.heap.size,0,k.s,k.rows.length,cs.size⟩:=by
  have := Cx.hd_of (c:=c.newF k cs fr) (o:=.cells cs k.ty fr) (Cx.new_live_new c k #[]) (by
   rw [show (c.newF k cs fr).φ c.H.length=(c.w.heap.size,0) from if_pos rfl];exact heap_alloc_new _ _)
  rw [show (c.newF k cs fr).φ c.H.length=(c.w.heap.size,0) from if_pos rfl] at this;exact this
 refine .hs (Cx.new_bornN c k #[]) hc hm (λ_=>⟨_,rfl⟩) λx hx=>?_;rw [hd] at hx
 grind
end
section
variable {P:Program} {ρ:Operand->AV} {H:AH} {x:Operand} {t d e:TypeId}
theorem EvA.s2b {s:ByteArray} (hs:P.underlying t=some .string) (hd:P.underlying d=some (.slice e)) (he:P.underlying e=some (.int .u8)) (hx:ρ x = .v (.string s)) (hn:s.size<=35184372088832) {bl:Nat} (hbl:H.length=bl) :
  EvA P ρ (.convert t d x) H (Go.Proofs.YtjcmfddobaplbaaGreat.hS false bl 0 1 (kX s).length) (H++[bE false 0 1 e ((kX s).map cY)]):=λo ho c a K Q hH hr hxs hK=>by
 subst hbl;have h1:=hxs x (by rw [ho];simp [Op.operands]);rw [hx] at h1;obtain ⟨h1,_⟩:=d9 h1;have hrun:=run_bytes_of_string c.w t d e s hs hd he;have hge:=grownCap_ge c.w s.size 0 e;have hle:=grownCap_le_maxLen c.w s.size 0 e (by unfold maxLen;omega);generalize grownCap c.w s.size 0 e=cap at hrun hge hle;have hlen:(kX s).length=s.size:=by simp [kX]
 have hsz:(bytesRow s cap).size=cap:=by simp [bytesRow];omega
 have hdr:=Cx.drew_rel hr;have hrel:=Cx.newF_rel (k:=⟨0,1,e,(kX s).map cY⟩) (cs:=bytesRow s cap) (fr:=((bytesRow s cap).size,(bytesRow s cap).size+1)) hdr Nat.one_pos (by simp [hlen];omega) (λi hi h=>by omega) (λi row h=>by
  rw [Us] at h;obtain ⟨b,_,rfl⟩:=Uu.1 h
  rfl) λi row j a h h2=>by
  rw [Us] at h;obtain ⟨b,hb,rfl⟩:=Uu.1 h
  match j,h2 with
  | 0,h2=>
   injection h2 with h2;subst h2;have hi:=(ges hb).1;refine ⟨.int .u8 b,?_,rfl,cz rfl⟩;have hi':i<s.data.size:=by rw [hlen] at hi;exact hi
   have h3:=bytesRow_at s cap i hi';have h4:b=(s.data[i].toNat:Int):=by
    unfold kX at hb;rw [Us,geq (by simpa using hi')] at hb;simpa using hb.symm
   simp only [Nat.mul_one,Nat.add_zero];rw [h3,h4]
 have hh:=Cx.newF_hs c.drew ⟨0,1,e,(kX s).map cY⟩ (bytesRow s cap) ((bytesRow s cap).size,(bytesRow s cap).size+1) (n:=s.size) (cap:=cap) (by simp [hlen]) hge (by unfold maxLen at hle;omega) (by simp [hsz]);unfold Oper.wp;have : (execOp a.eval o).run P c.w = .ok (.value<|.slice (some ⟨c.w.heap.size,0,none⟩) s.size cap) (c.w.drew.alloc<|.cells (bytesRow s cap) e ((bytesRow s cap).size,(bytesRow s cap).size+1)):=by
  rw [execOp,ho];simp only [h1];simp only [Sem.run_bind,hrun,Result.andThen_ok,Sem.run_pure]
 rw [this];refine hK _ (c.drew.newF ⟨0,1,e,(kX s).map cY⟩ (bytesRow s cap) ((bytesRow s cap).size,(bytesRow s cap).size+1)) (by rw [<- hH];rfl) hrel (c.drew_ext.trans<|Cx.newF_ext hdr _ _ _) ?_;rw [hlen,<- hH];exact hh
end
end
end Go.Proofs.YtjcmfddobaplbaaGreat
