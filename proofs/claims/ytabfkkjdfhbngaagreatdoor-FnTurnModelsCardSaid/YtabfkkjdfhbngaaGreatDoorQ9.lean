/- Texts joined. No conditions. -/
import Derived.OpenShut
import Derived.BigRegion
import Derived.Sort.Row
import Derived.Sort.Grow
import Derived.Test.YtabfkkjdfhbngaaGreatDoorProg
import Derived.Shelf.Slices.Delete
import Derived.Shelf.SortM.Plain
import Derived.Shelf.SortM.SortNone
import Derived.Laws.IdiomStrings
import Derived.Test.YtabfkkjdfhbngaaGreatDoorQ8
namespace Go.Proofs.YtabfkkjdfhbngaaGreatDoor
noncomputable section
open _root_.Inhabited renaming default -> Nj
open _root_.Bool renaming true -> Nk
open _root_.Bool renaming false -> Nl
open _root_.Option renaming some -> Nn
open _root_.Option renaming none -> Np
open _root_.Decidable renaming decide -> Nq
open _root_.Go.Proofs.Tryz
open _root_.Go.Proofs.Tryz renaming prog -> Nr
open _root_.Nat renaming beq -> SD, blt -> SE, eq_of_beq_eq_true -> SF, ble -> SG
open _root_.List renaming ext_getElem? -> SI
open _root_.Array renaming getElem?_modify -> SJ, getElem?_eq_some_iff -> SK
open _root_.Option renaming bind_eq_some_iff -> SL
set_option maxHeartbeats 4000000
open Go.ChangeShapes Go.WideShapes Go.ChangeAt Go.RowKit Go.Sort
set_option maxRecDepth 100000
theorem zz {w:World} {blk off g:Nat} {d:Array Int} (h:g≠blk):(putRow (Value.int .i64) w blk off d).heap[g]? = w.heap[g]? := by
 show (w.heap.modify blk _)[g]? = _;rw [SJ,if_neg (Ne.symm h)]
theorem zA {w:World} {blk off:Nat} {d:Array Int} {cs:Array Value} {t:TypeId} {fr:Nat×Nat} (h:w.heap[blk]? = Nn (.cells cs t fr)):(putRow (Value.int .i64) w blk off d).heap[blk]? = Nn (.cells (putCells (Value.int .i64) off d cs) t fr):=by
 show (w.heap.modify blk _)[blk]? = _;rw [SJ,if_pos rfl,h]
 rfl
theorem nA {off:Nat} {d:Array Int} {cs:Array Value}:(putCells (Value.int .i64) off d cs).size=cs.size:=by simp [putCells]
theorem Bn {off:Nat} {d:Array Int} {cs:Array Value} {k:Nat} (h:off+d.size<=cs.size) (hk:k<d.size):(putCells (Value.int .i64) off d cs)[off+k]? = Nn (.int .i64 d[k]!):=by
 unfold putCells;rw [Array.getElem?_mapIdx,Array.getElem?_eq_getElem (by omega)];simp only [Option.map_some];rw [if_pos (by omega),show off+k-off=k by omega]
theorem IG {c:Cx} (hr:HRel c) {l q:LI} {ver o8:Nat} (hH:c.H=[Nn ⟨ver,1,3,l.map cI⟩]) {cs:Array Value} {fr0:Nat×Nat} (hB:BRel c 0 ⟨ver,1,3,l.map cI⟩ cs<|Nn fr0) {d':Array Int} (hd:d'.size=l.length) (hq:q.length<=d'.size)
  (hqe:∀ i (h:i<q.length),d'[i]! = q[i]) {m:Nat} {os:Array Obj} (hv:(o8=ver/\q.length=l.length)\/ver<o8) :
  ∃ c',c'.w=grow (putRow (Value.int .i64) (Sort.ahead c.w m) (c.φ 0).1 (c.φ 0).2 d') os/\c'.H=[Nn ⟨o8,1,3,q.map cI⟩]/\HRel c'/\Ext c c'/\c'.φ 0=c.φ 0/\c'.w.heap[(c.φ 0).1]? = Nn (.cells (putCells (Value.int .i64) (c.φ 0).2 d' cs) 3 fr0):=by
 have hlv:c.live 0 ⟨ver,1,3,l.map cI⟩:=by
  unfold Cx.live;rw [hH]
  rfl
 have hat:c.w.heap[(c.φ 0).1]? = Nn (.cells cs 3 fr0):=hB.at_;have hblk:(c.φ 0).1<c.w.heap.size:=hr.live_lt hlv;have hfit:(c.φ 0).2+l.length<=cs.size:=by
  have := hB.fits;simpa using this
 have he1:Ext c (c.upd 0 ⟨o8,1,3,q.map cI⟩ ((c.φ 0).1,(c.φ 0).2) (putCells (Value.int .i64) (c.φ 0).2 d' cs)):=Cx.upd_ext hr hlv hB nA (by
  rcases hv with ⟨h1,h2⟩ | h
  ·exact .inl ⟨h1,rfl,by simp [h2],rfl⟩
  exact .inr h)
 have hr1:=Cx.upd_rel hr hlv hB (k:=⟨o8,1,3,q.map cI⟩) (o:=(c.φ 0).2) (cs:=putCells (Value.int .i64) (c.φ 0).2 d' cs) nA rfl he1 Nat.one_pos (by rw [nA];simp;omega) (λi row h=>by
  obtain ⟨x,_,rfl⟩:=by simpa [List.getElem?_map,Option.map_eq_some_iff] using h
  rfl) (λi row j a h1 h2=>by
  have hi:i<q.length:=by simpa using (ges h1).1
  have hrw:row=cI q[i]:=by
   have := (ges h1).2;rw [<- this];simp
  subst hrw
  match j,h2 with
  | 0,h2=>
   obtain rfl:=osl h2;refine ⟨.int .i64 d'[i]!,?_,rfl,?_⟩
   ·have := Bn (off:=(c.φ 0).2) (d:=d') (cs:=cs) (k:=i) (by omega) (by omega);simpa using this
   rw [hqe i hi];exact .fr<|.v rfl
  | j+1,h2=>simp [cI] at h2)
 have hbl:Below (c.upd 0 ⟨o8,1,3,q.map cI⟩ ((c.φ 0).1,(c.φ 0).2)<|putCells (Value.int .i64) (c.φ 0).2 d' cs).w.heap.size (c.upd 0 ⟨o8,1,3,q.map cI⟩ ((c.φ 0).1,(c.φ 0).2)<|putCells (Value.int .i64) (c.φ 0).2 d' cs).w (grow (putRow (Value.int .i64) (Sort.ahead c.w m) (c.φ 0).1 (c.φ 0).2 d') os):=by
  have hz:(c.upd 0 ⟨o8,1,3,q.map cI⟩ ((c.φ 0).1,(c.φ 0).2)<|putCells (Value.int .i64) (c.φ 0).2 d' cs).w.heap.size=c.w.heap.size:=by simp [Cx.upd]
  have hs:(putRow (Value.int .i64) (Sort.ahead c.w m) (c.φ 0).1 (c.φ 0).2 d').heap.size=c.w.heap.size:=by rw [size_putRow];rfl
  refine ⟨rfl,rfl,rfl,?_,λg hg=>?_⟩
  ·rw [hz];show _<=((putRow (Value.int .i64) (Sort.ahead c.w m) (c.φ 0).1 (c.φ 0).2 d').heap++os).size;rw [Array.size_append,hs];omega
  rw [hz] at hg;show ((putRow (Value.int .i64) (Sort.ahead c.w m) (c.φ 0).1 (c.φ 0).2 d').heap++os)[g]? = (c.w.setRow (c.φ 0).1<|putCells (Value.int .i64) (c.φ 0).2 d' cs).heap[g]?;rw [Array.getElem?_append_left (by rw [hs];exact hg)]
  by_cases e:g=(c.φ 0).1
  ·subst e;rw [zA (w:=Sort.ahead c.w m) hat,setRow_heap _ _ _ _ _ _ hat]
  rw [zz e,setRow_other _ _ _ _ e]
  rfl
 obtain ⟨g1,g2⟩:=yV hr1 hbl (fz':=λ_=>False) (λ_ h=>h.elim) (λ_ h=>h.elim) λ_ _ _ h=>h;refine ⟨_,rfl,?_,g1,he1.trans g2,?_,?_⟩
 ·show c.H.set 0 _=_;rw [hH]
  rfl
 ·rfl
 have hz:(c.upd 0 ⟨o8,1,3,q.map cI⟩ ((c.φ 0).1,(c.φ 0).2)<|putCells (Value.int .i64) (c.φ 0).2 d' cs).w.heap.size=c.w.heap.size:=by simp [Cx.upd]
 have := hbl.block (c.φ 0).1 (by rw [hz];exact hblk);refine this.trans ?_;show (c.w.setRow (c.φ 0).1<|putCells (Value.int .i64) (c.φ 0).2 d' cs).heap[_]? = _;exact setRow_heap _ _ _ _ _ _ hat
theorem II {c:Cx} (hr:HRel c) {l:LI} {ver:Nat} (hH:c.H=[Nn ⟨ver,1,3,l.map cI⟩]) {u:Value} (hu:c.rel (.hs 0 ver 1 0 l.length) u) (hn:0<l.length) :
  ∃ cs fr0 cap,BRel c 0 ⟨ver,1,3,l.map cI⟩ cs (Nn fr0)/\u = .slice (Nn ⟨(c.φ 0).1,(c.φ 0).2,Np⟩) l.length cap/\l.length<=cap/\cap<=9223372036854775807/\(c.φ 0).2+cap<=cs.size/\Holds (Value.int .i64) c.w (c.φ 0).1 (c.φ 0).2 l.toArray/\(c.φ 0).1<c.w.heap.size:=by
 have hlv:c.live 0 ⟨ver,1,3,l.map cI⟩:=by
  unfold Cx.live;rw [hH]
  rfl
 obtain ⟨cs,fr0,hB⟩:=hr.blk 0 _ hlv
 cases hu with
 | fr h=>cases h
 | @hs _ _ _ _ _ cap A hb hc hm h0 h=>
 obtain ⟨f,rfl,hat,hhd⟩:=hB.cells hlv λx hx=>(h x hx).1;obtain ⟨_,_,h3,h4⟩:=h _ hhd;have hA:=h3 (by omega);simp only [Nat.zero_mul,Nat.add_zero,Nat.mul_one] at hA h4;refine ⟨cs,f,cap,hB,by rw [hA],hc,hm,h4,λj hj=>?_,hr.live_lt hlv⟩;have hj:j<l.length:=by simpa using hj
 have hj2:(c.φ 0).2+j<cs.size:=by omega
 obtain ⟨u,g1,g2,g3⟩:=hB.rel j (cI l[j]) 0 (I l[j]) (by simp [hj]) rfl;refine ⟨?_,?_⟩
 ·simp only [World.cell?,hat];have := eO g3;simp only [Nat.mul_one,Nat.add_zero] at g1;rw [g1];obtain ⟨rfl,_⟩:=this;simp [hj]
 have := hB.fre f rfl _ hj2;obtain ⟨lo,hi'⟩:=f;simp only [World.frozen?,hat,Bool.and_eq_false_iff,decide_eq_false_iff_not];simp only at this;omega
open Go.Shelf Go.RowKit Go.Lib Go.Sort
def Ll:Go.Shelf.Ren:=⟨λ| 23=>191 | n=>n,λ| 22=>24 | 3=>3 | 4=>4 | 0=>0 | n=>n,λ| n=>n⟩
theorem Lm:Go.Proofs.Lays2.n23 Nr Ll where
 mixed:=by kernel_rfl
 f23:=func191.trans<|congrArg Nn (by kernel_rfl)
 t0:=Tryz.underlying0
 a0:=Tryz.isAgg0
 z0:=Tryz.sizeOf0
 v0:=Tryz.zeroValue0
 t3:=Tryz.underlying3
 a3:=Tryz.isAgg3
 z3:=Tryz.sizeOf3
 v3:=Tryz.zeroValue3
 t4:=Tryz.underlying4
 a4:=Tryz.isAgg4
 z4:=Tryz.sizeOf4
 v4:=Tryz.zeroValue4
 t22:=Tryz.underlying24
 a22:=Tryz.isAgg24
 z22:=Tryz.sizeOf24
 v22:=Tryz.zeroValue24
 i3:=by kernel_rfl
open Go.ChangeShapes Go.WideShapes Go.ChangeAt Go.RowKit Go.Shelf Go.Sort
theorem xp (l:LI) (i j:Int) (g:Bool) (ver:Nat) (hg:g=Nk->l=[]) {q} (h:pJ l i j=Nn q) :
  bP Nr 191 [hS g 0 ver 1 l.length,I i,I j] [bE g ver 1 3 (l.map cI)] (CP 1 3 (λx=>x) q.length (q.map cI) 0 []):=by
 obtain ⟨⟨h0,h1,h2,hn⟩,h⟩:=gdD h;obtain rfl:=osl h;obtain rfl:g=Nl:=by
  cases g with
  | false=>rfl
  | true=>
   rw [hg rfl] at hn;exact absurd hn (by simp)
 refine ⟨by kernel_rfl,λc vs hH hr hall=>?_⟩;obtain ⟨hsz,hrel⟩:=hall;obtain ⟨u,a,b,rfl⟩:∃ u a b,vs = #[u,a,b]:=by
  match vs,hsz with
  | ⟨[u,a,b]⟩,_=>exact ⟨u,a,b,rfl⟩
 obtain ⟨rfl,_⟩:=eO<|hrel 1 _ a rfl rfl;obtain ⟨rfl,_⟩:=eO<|hrel 2 _ b rfl rfl;have hH:c.H=[Nn ⟨ver,1,3,l.map cI⟩]:=hH;obtain ⟨cs,fr0,cap,hB,rfl,hc,hm,hcs,hHo,hblk⟩:=II hr hH (hrel 0 _ u rfl rfl) hn;have hcon:=Any.slices_Delete_int Lm (c.φ 0).1 (c.φ 0).2 cap i.toNat j.toNat l c.w hHo hc hm (by omega) (by omega);rw [show (i.toNat:Int)=i by omega,show (j.toNat:Int)=j by omega] at hcon;refine (show Calls Nr 191 _ _ _ from hcon).mono ?_;rintro e w' ⟨rfl,m,rfl⟩;have hql:(l.take i.toNat++l.drop j.toNat).length=l.length-(j.toNat-i.toNat):=by simp;omega
 have hdl:(l.take i.toNat++l.drop j.toNat++List.replicate (j.toNat-i.toNat) (0:Int)).toArray.size=l.length:=by simp;omega
 obtain ⟨c',w1,w2,w3,w4,w5,w6⟩:=IG hr hH hB (q:=l.take i.toNat++l.drop j.toNat) (o8:=ver+1) (d':=(l.take i.toNat++l.drop j.toNat++List.replicate (j.toNat-i.toNat) (0:Int)).toArray) hdl (by rw [hdl,hql];omega) (λk hk=>by
  rw [getElem!_pos _ k (by rw [hdl];omega)];simp only [List.getElem_toArray];rw [List.getElem_append_left hk]) (m:=m) (os:=#[]) (.inr (Nat.lt_succ_self _))
 rw [grow_empty] at w1;have hlv:c'.live 0 ⟨ver+1,1,3,(l.take i.toNat++l.drop j.toNat).map cI⟩:=by
  unfold Cx.live;rw [w2]
  rfl
 refine ⟨_,c',hS Nl 0 (ver+1) 1 (l.take i.toNat++l.drop j.toNat).length,Z,w1,⟨Nl,ver+1,λe=>(by cases e),Z,w2⟩,w3,w4,?_⟩;rw [<- hql];refine .hs ?_ (by omega) hm (λ_=>⟨_,Z⟩) λx hx=>?_
 ·unfold Cx.born;rw [show c'.H[0]? = Nn (Nn _) from hlv];exact Nat.le_refl _
 have := Cx.hd_of hlv (by rw [w5];exact w6);rw [show (⟨ver+1,1,3,(l.take i.toNat++l.drop j.toNat).map cI⟩:ABlk).ver=ver+1 from rfl] at this;rw [this] at hx;obtain rfl:=osl hx;rw [w5];refine ⟨Z,by simp,λ_=>by simp,?_⟩;show (c.φ 0).2+0*1+cap*1<=(putCells (Value.int .i64) (c.φ 0).2 _ cs).size;rw [nA];omega


open Go.RowKit
def rD (ops:Array Oper) (e:Env) (o:Oper) (w:Bool):Prop:=match o.guard with
 | none=>w=Nk
 | some (j,b)=>(∃ q,eH ops.toList e j = .v (.bool q)/\w=(q==b))\/(eH ops.toList e j = .tup []/\w=Nl)
theorem rD.wants {ops:Array Oper} {e:Env} {o:Oper} {w:Bool} (h:rD ops e o w):wQ ops e o w:=by
 unfold rD at h
 cases hg:o.guard with
 | none=>
  rw [hg] at h;subst h;exact .free hg
 | some x=>
  obtain ⟨j,b⟩:=x;rw [hg] at h;rcases h with ⟨q,h1,h2⟩ | ⟨h1,h2⟩
  ·subst h2
   by_cases e1:q=b
   ·subst e1;rw [beq_self_eq_true];exact .yes hg h1 rfl
   have e2:(q==b)=Nl:=by simpa using e1
   rw [e2];exact .no hg h1 (by cases q <;> cases b <;> simp_all)
  subst h2;exact .un hg h1
theorem rD.congr {ops:Array Oper} {e e':Env} {o:Oper} {w:Bool} (h:rD ops e o w) (he:∀ t∈o.looksAt ops,e t=e' t):rD ops e' o w:=by
 unfold rD at h ⊢
 cases hg:o.guard with
 | none=>rw [hg] at h;exact h
 | some x=>
  obtain ⟨j,b⟩:=x;rw [hg] at h;have hy:eH ops.toList e' j=eH ops.toList e j:=by
   unfold eH
   cases hd:(ops.toList[j]?).bind (·.dst) with
   | none=>rfl
   | some d=>
    refine (he d ?_).symm;unfold Oper.looksAt;rw [hg];refine List.mem_append_right _ ?_;have : (ops[j]?).bind (·.dst)=Nn d:=by simpa using hd
    show d∈((ops[j]?).bind (·.dst)).toList;rw [this];simp
  simp only [hy];exact h
theorem G7 {ops:Array Oper} {e e':Env} {o:Oper} (he:∀ t∈o.looksAt ops,e t=e' t):∀ x∈o.op.operands,rho e x=rho e' x:=by
 intro x hx
 cases x with
 | tmp t=>exact he t (List.mem_append_left _<|List.mem_filterMap.2 ⟨.tmp t,by simpa using hx,rfl⟩)
 | _=>rfl
theorem Cn {ops:Array Oper} {e:Env} {oi oj:Oper} {r:AV} (h:∀ d,oi.dst=Nn d->d∉oj.looksAt ops):∀ t∈oj.looksAt ops,uU e oi.dst r t=e t:=by
 intro t ht
 cases hd:oi.dst with
 | none=>rfl
 | some d=>
  rw [vL];show (if t=d then r else e t)=e t;have hne:t≠d:=by
   rintro rfl;exact h t hd ht
  rw [if_neg hne]
def Lp (P:Program) (ops:Array Oper) (o:Oper) (e:Env) (H:AH) (r:AV) (H':AH):Prop:=(rD ops e o Nk/\MX P o (rho e) H r H')\/(rD ops e o Nl/\r = .tup []/\H'=H)
theorem Lp.congr {P:Program} {ops:Array Oper} {o:Oper} {e e':Env} {H H':AH} {r:AV} (h:Lp P ops o e H r H') (he:∀ t∈o.looksAt ops,e t=e' t):Lp P ops o e' H r H':=by
 rcases h with ⟨h1,h2⟩ | ⟨h1,h2⟩
 ·exact .inl ⟨h1.congr he,h2.congr<|G7 he⟩
 exact .inr ⟨h1.congr he,h2⟩
def sV (P:Program) (ops:Array Oper) (o:Oper) (e:Env) (H:AH) (r:AV) (H':AH) (F:List Nat):Prop:=
 H'.length=H.length/\(∀ b,b∉F->H'[b]? = H[b]?)/\∀ G,agree F G H->∃ G',G'.length=G.length/\(∀ b∈F,G'[b]? = H'[b]?)/\(∀ b,b∉F->G'[b]? = G[b]?)/\Lp P ops o e G r G'
section
variable {P:Program} {ops:Array Oper} {o:Oper} {e:Env} {H H':AH} {r:AV} {F:List Nat}
theorem sV.op (h:sV P ops o e H r H' F):Lp P ops o e H r H':=by
 obtain ⟨h1,h2,h3⟩:=h;obtain ⟨G',g1,g2,g3,g4⟩:=h3 H ⟨rfl,λ_ _=>rfl⟩;have : G'=H':=by
  apply SI;intro b
  by_cases hb:b∈F
  ·exact g2 b hb
  rw [g3 b hb,h2 b hb]
 exact this ▸ g4
theorem sV.congr {e':Env} (h:sV P ops o e H r H' F) (he:∀ t∈o.looksAt ops,e t=e' t):sV P ops o e' H r H' F:=by
 obtain ⟨h1,h2,h3⟩:=h;refine ⟨h1,h2,λG hG=>?_⟩;obtain ⟨G',g1,g2,g3,g4⟩:=h3 G hG;exact ⟨G',g1,g2,g3,g4.congr he⟩
theorem sV.at_ {G:AH} (h:sV P ops o e H r H' F) (hG:agree F G H):∃ G',G'.length=G.length/\(∀ b∈F,G'[b]? = H'[b]?)/\(∀ b,b∉F->G'[b]? = G[b]?)/\sV P ops o e G r G' F:=by
 obtain ⟨h1,h2,h3⟩:=h;obtain ⟨G',g1,g2,g3,g4⟩:=h3 G hG;refine ⟨G',g1,g2,g3,g1,g3,λK hK=>?_⟩;obtain ⟨K',k1,k2,k3,k4⟩:=h3 K ⟨hK.1.trans hG.1,λb hb=>(hK.2 b hb).trans<|hG.2 b hb⟩;exact ⟨K',k1,λb hb=>(k2 b hb).trans (g2 b hb).symm,k3,k4⟩
theorem sV.ofF (hw:rD ops e o Nk) (h:ql P o (rho e) H r H' F):sV P ops o e H r H' F:=by
 obtain ⟨h1,h2,h3⟩:=h;refine ⟨h1,h2,λG hG=>?_⟩;obtain ⟨G',g1,g2,g3,g4⟩:=h3 G hG;exact ⟨G',g1,g2,g3,.inl ⟨hw,g4⟩⟩
theorem sV.skip (hw:rD ops e o Nl) (F:List Nat):sV P ops o e H (.tup []) H F:=⟨rfl,λ_ _=>rfl,λG hG=>⟨G,rfl,hG.2,λ_ _=>rfl,.inr ⟨hw,rfl,rfl⟩⟩⟩
def Km (P:Program) (ops:Array Oper) (fp:Nat->Fp) (Q:Env->AH->Prop):Nat->Array Bool->Env->AH->Prop
 | 0,listed,e,H=>Region.ready .any ops listed=[]/\Q e H
 | fuel+1,listed,e,H=>(Region.ready .any ops listed=[]->Q e H) /\
  ∀ i∈Region.ready .any ops listed,∃ o r H',ops[i]? = Nn o/\sV P ops o e H r H' (fp i).1/\((fp i).2=Nl->H'=H)/\Km P ops fp Q fuel (listed.setIfInBounds i Nk) (uU e o.dst r) H'
theorem E9 {ops:Array Oper} {fp:Nat->Fp} {Q:Env->AH->Prop} {i:Nat} {oi:Oper} {r:AV} (hi:ops[i]? = Nn oi) :
  ∀ (fuel:Nat) (listed:Array Bool) (e:Env) (H Hi:AH),
   (∀ (j:Nat) (oj:Oper),ops[j]? = Nn oj->j≠i->listed.getD j Nk=Nl->(∀ ed∈oj.after,Region.binds .any ed=Nk->ed.on≠i)->oi.apart ops oj=Nk/\nS (fp i) (fp j)=Nk) ->
   i∈Region.ready .any ops listed->sV P ops oi e H r Hi (fp i).1->((fp i).2=Nl->Hi=H)->Km P ops fp Q fuel (listed.setIfInBounds i Nk) (uU e oi.dst r) Hi->Km P ops fp Q (fuel+1) listed e H:=by
 intro fuel
 induction fuel with
 | zero=>
  intro listed e H Hi _ hr hy hro hA;refine ⟨λh=>(by rw [h] at hr;cases hr),λj hj=>?_⟩
  by_cases hji:j=i
  ·subst hji;exact ⟨oi,r,Hi,hi,hy,hro,hA⟩
  have := ready_mono hj hji;rw [hA.1] at this
  cases this
 | succ fuel ih=>
  intro listed e H Hi hfree hr hy hro hA;refine ⟨λh=>(by rw [h] at hr;cases hr),λj hj=>?_⟩
  by_cases hji:j=i
  ·subst hji;exact ⟨oi,r,Hi,hi,hy,hro,hA⟩
  obtain ⟨oj,q,Hj,hoj,hsj,hroj,hAj⟩:=hA.2 j<|ready_mono hj hji;obtain ⟨hjun,oj',hoj',hall⟩:=mem_ready.1 hj;rw [hoj] at hoj';injection hoj' with hoj';subst hoj';have hnot:∀ ed∈oj.after,Region.binds .any ed=Nk->ed.on≠i:=λed he hb heq=>by
   have h1:=hall ed he hb;have h0:=(mem_ready.1 hr).1;rw [heq] at h1;rcases Nat.lt_or_ge i listed.size with h' | h'
   ·simp [h'] at h0 h1;rw [h0] at h1;cases h1
   simp [Array.getElem?_eq_none h'] at h1
  obtain ⟨hap,hcm⟩:=hfree j oj hoj hji hjun hnot;obtain ⟨h1,h2,h3⟩:=Oper.apart_spec hap;have ej:=Cn (e:=e) (r:=r) h1;have ei:=Cn (e:=e) (oi:=oj) (r:=q) h3;have hsj':=hsj.congr ej;have hfree':∀ (k:Nat) (ok:Oper),ops[k]? = Nn ok->k≠i->(listed.setIfInBounds j Nk).getD k Nk=Nl->(∀ ed∈ok.after,Region.binds .any ed=Nk->ed.on≠i)->oi.apart ops ok=Nk/\nS (fp i) (fp k)=Nk:=λk ok hk hki hun hno=>by
   refine hfree k ok hk hki ?_ hno
   by_cases hjk:j=k
   ·subst hjk;exact hjun
   rw [getD_set_ne Nk hjk] at hun;exact hun
  have fin:∀ Hj',sV P ops oj e H q Hj' (fp j).1->((fp j).2=Nl->Hj'=H)->sV P ops oi e Hj' r Hj (fp i).1->((fp i).2=Nl->Hj=Hj')->∃ o r' H',ops[j]? = Nn o/\sV P ops o e H r' H' (fp j).1/\((fp j).2=Nl->H'=H)/\Km P ops fp Q (fuel+1) (listed.setIfInBounds j Nk) (uU e o.dst r') H':=λHj' s1 s1' s2 s2'=>by
   refine ⟨oj,q,Hj',hoj,s1,s1',ih (listed.setIfInBounds j Nk) (uU e oj.dst q) Hj' Hj hfree' (ready_mono hr<|Ne.symm hji) (s2.congr λx hx=>(ei x hx).symm) s2' ?_⟩;rw [Array.setIfInBounds_comm _ _ hji,yU (λd hd=>λhd'=>h2 d (by simpa using hd')<|by simpa using hd)];exact hAj
  simp only [nS,Bool.or_eq_true,bae,Bool.not_eq_true',List.all_eq_true,List.contains_eq_mem,decide_eq_false_iff_not] at hcm;rcases hcm with hdis | ⟨w1,w2⟩
  ·have hag:agree (fp j).1 H Hi:=⟨hy.1.symm,λb hb=>(hy.2.1 b λhbi=>hdis b hbi hb).symm⟩;obtain ⟨Hj',a1,a2,a3,a4⟩:=hsj'.at_ hag;have hag2:agree (fp i).1 Hj' H:=⟨a1,λb hb=>a3 b<|hdis b hb⟩;obtain ⟨K,b1,b2,b3,b4⟩:=hy.at_ hag2;have hKH:K=Hj:=by
    apply SI;intro b
    by_cases hbi:b∈(fp i).1
    ·rw [b2 b hbi,hsj'.2.1 b (hdis b hbi)]
    rw [b3 b hbi]
    by_cases hbj:b∈(fp j).1
    ·exact a2 b hbj
    rw [a3 b hbj,hsj'.2.1 b hbj,hy.2.1 b hbi]
   subst hKH;refine fin Hj' a4 (λhw=>?_) b4 λhw=>?_
   ·apply SI;intro b
    by_cases hbj:b∈(fp j).1
    ·rw [a2 b hbj,hroj hw,hy.2.1 b (λhbi=>hdis b hbi hbj)]
    exact a3 b hbj
   apply SI;intro b
   by_cases hbi:b∈(fp i).1
   ·rw [b2 b hbi,hro hw,a3 b (hdis b hbi)]
   exact b3 b hbi
  obtain rfl:=hro w1;obtain rfl:=hroj w2;exact fin _ hsj' (λ_=>rfl) hy λ_=>rfl
def LD (ops:Array Oper) (fp:Nat->Fp):Bool:=
 Region.lexB .any ops &&
 (List.range ops.size).all λi=>(List.range ops.size).all λj=>Nq (j<=i)||nS (fp i) (fp j)||match ops[j]? with
  | some oj=>oj.after.any λed=>Region.binds .any ed&&ed.on==i
  | none=>Nk
def TG (P:Program) (ops:Array Oper) (fp:Nat->Fp):Nat->List Oper->(Env->AH->Prop)->Env->AH->Prop
 | _,[],K,e,H=>K e H
 | k,o::rest,K,e,H=>∃ r H',sV P ops o e H r H' (fp k).1/\((fp k).2=Nl->H'=H)/\TG P ops fp (k+1) rest K (uU e o.dst r) H'
theorem G8 {ops:Array Oper} {fp:Nat->Fp} {Q:Env->AH->Prop} (hc:LD ops fp=Nk):∀ (l:List Oper) (k:Nat) (listed:Array Bool) (e:Env) (H:AH),(∀ j,l[j]? = ops[k+j]?)->listed.size=ops.size->(∀ j,j<k->listed.getD j Nk=Nk) ->
  Region.lexFrom .any ops l.length k listed=Nk->TG P ops fp k l Q e H->Km P ops fp Q l.length listed e H
 | [],k,listed,e,H,_,_,_,hB,h=>⟨by simpa [Region.lexFrom] using hB,h⟩
 | o::l,k,listed,e,H,hl,hsz,hbef,hB,h=>by
  have h0:ops[k]? = Nn o:=by simpa using (hl 0).symm
  have hk:k<ops.size:=(SK.1 h0).1;simp only [llc,Region.lexFrom,bae] at hB;obtain ⟨⟨hr,hf⟩,hB'⟩:=hB;obtain ⟨r,H',hs,hro,hK⟩:=h;refine E9 h0 l.length listed e H H' (λj oj hj hne hun hno=>⟨Region.free_spec h0 hf j oj hj hne hun hno,?_⟩) (by simpa using hr) hs hro
   (G8 hc l (k+1) _ _ _ (λj=>by have := hl<|j+1;simpa [Nat.add_assoc,Nat.add_comm 1 j] using this) (by simpa using hsz) (λj hj=>?_) hB' hK)
  ·have hjs:j<ops.size:=(SK.1 hj).1;have hkj : ¬ j<=k:=λhle=>by
    have := hbef j (by omega);rw [this] at hun
    cases hun
   simp only [LD,bae,List.all_eq_true,List.mem_range] at hc;have := hc.2 k hk j hjs;simp only [hj,Bool.or_eq_true,dte,hkj,false_or] at this;rcases this with h1 | h1
   ·exact h1
   rw [Array.any_eq_true'] at h1;obtain ⟨ed,h2,h3⟩:=h1;simp only [bae,beq_iff_eq] at h3;exact absurd h3.2<|hno ed h2 h3.1
  by_cases e:j=k
  ·subst e;simp [hsz,hk]
  rw [getD_set_ne Nk (Ne.symm e)];exact hbef j (by omega)
theorem xq {nt:Nat} {ops:Array Oper} {fp:Nat->Fp} {Q:Exit->Env->AH->Prop} (hd:FG nt ops.toList=Nk):∀ (fuel:Nat) (listed:Array Bool) (e:Env) (H:AH),Km P ops fp (Q .normal) fuel listed e H ->
  ∀ (c c0:Cx) (a:Act),c.H=H->Ext c0 c->SRel c nt e a->wpAny P .any ops (Kt nt c0 Q) fuel listed a c.w
 | 0,listed,e,H,h,c,c0,a,hH,hx,hs=>⟨h.1,trivial,c,e,rfl,hx,hs,hH ▸ h.2⟩
 | fuel+1,listed,e,H,h,c,c0,a,hH,hx,hs=>by
  refine ⟨λhr=>⟨trivial,c,e,rfl,hx,hs,hH ▸ h.1 hr⟩,λi hi=>?_⟩;obtain ⟨o,r,H',ho,hst,_,hA⟩:=h.2 i hi;have hm:o∈ops.toList:=by rw [Array.mem_toList_iff];exact Array.mem_of_getElem? ho
  unfold wpOp;simp only [ho];rcases hst.op with ⟨hw,hop⟩ | ⟨hw,rfl,rfl⟩
  ·rw [if_pos (hw.wants nt c a hs)];refine .inl<|hop c a _ _ hH hs.heap (λx _=>hs.rho x) λv c' hH' hr' hx' hv=>?_;exact xq hd fuel _ _ H' hA c' c0 _ hH' (hx.trans hx')<|hs.put o.dst (pE hd hm) hx' hr' hv
  rw [hw.wants nt c a hs];exact xq hd fuel _ _ _ hA c c0 _ hH hx<|hs.put o.dst (pE hd hm) (Ext.refl c) hs.heap<|.tup (vs:=#[]) rfl (λi q u hq=>by simp at hq)
end
section
variable {P:Program} {nt b0:Nat} {Q:Exit->Env->AH->Prop} {e:Env} {H H':AH} {r:AV}
theorem T.drawG {i:Nat} {ops:Array Oper} (fp:Nat->Fp) (hm:P.follows .mixedOrders=Nk) (hc:LD ops fp=Nk) (h:TG P ops fp 0 ops.toList (Q .normal) e H):T P nt b0 (.region i ops Nk) Q e H:=by
 intro hok c c0 a hH hb hx hs;simp only [codeOk] at hok;have hc':=hc;simp only [LD,bae,Region.lexB] at hc';refine wp_region_any hm ?_;have hlex:=G8 hc ops.toList 0 (Array.replicate ops.size Nl) e H (λj=>by simp) (by simp) (λj hj=>absurd hj<|by omega) (by simpa using hc'.1.2) h;have := xq hok ops.toList.length _ e H hlex c.drew c0 a hH (hx.trans c.drew_ext) ⟨hs.size,hs.defers,λt=>(hs.rel t).ext hs.heap c.drew_ext,Cx.drew_rel hs.heap⟩;rw [Array.length_toList] at this;exact this
variable {ops:Array Oper} {d:Tmp} {op:Op} {ty:TypeId} {pos:String} {af:Array Edge} {en:List (Nat×AV)} {fp:Nat->Fp} {i:Nat} {K:Env->AH->Prop} {l:List Oper}
theorem TG.nil {k:Nat} (h:K e H):TG P ops fp k [] K e H:=h
theorem rD.y {o:Oper} {j:Nat} {b q:Bool} (hg:o.guard=Nn (j,b)) (hy:eH ops.toList e j = .v (.bool q)) (hq:q=b):rD ops e o Nk:=by
 unfold rD;rw [hg];exact .inl ⟨q,hy,by rw [hq];simp⟩
theorem rD.n {o:Oper} {j:Nat} {b q:Bool} (hg:o.guard=Nn (j,b)) (hy:eH ops.toList e j = .v (.bool q)) (hq:q = !b):rD ops e o Nl:=by
 unfold rD;rw [hg];exact .inl ⟨q,hy,by rw [hq];cases b <;> rfl⟩
theorem rD.u {o:Oper} {j:Nat} {b:Bool} (hg:o.guard=Nn (j,b)) (hy:eH ops.toList e j = .tup []):rD ops e o Nl:=by
 unfold rD;rw [hg];exact .inr ⟨hy,rfl⟩
theorem tN (hc:fp i=([],Nl)) (hv:M0 P (rho<|ak en) op r) (h:TG P ops fp (i+1) l K (ak ((d,r)::en)) H):TG P ops fp i (⟨Nn d,op,ty,pos,af,Np⟩::l) K (ak en) H:=
 ⟨r,H,by rw [hc];exact .ofF rfl<|CN hv,λ_=>rfl,h⟩
theorem tR (F:List Nat) (hc:fp i=(F,Nl)) (hv:∀ G,agree F G H->EvA P (rho<|ak en) op G r G) (h:TG P ops fp (i+1) l K (ak ((d,r)::en)) H):TG P ops fp i (⟨Nn d,op,ty,pos,af,Np⟩::l) K (ak en) H:=
 ⟨r,H,by rw [hc];exact .ofF rfl<|CO hv,λ_=>rfl,h⟩
theorem tgN {j:Nat} {b q:Bool} (hy:eH ops.toList (ak en) j = .v (.bool q)) (hq:q=b) (hc:fp i=([],Nl)) (hv:M0 P (rho<|ak en) op r) (h:TG P ops fp (i+1) l K (ak ((d,r)::en)) H):TG P ops fp i (⟨Nn d,op,ty,pos,af,Nn (j,b)⟩::l) K (ak en) H:=
 ⟨r,H,by rw [hc];exact .ofF (.y rfl hy hq)<|CN hv,λ_=>rfl,h⟩
theorem tgR {j:Nat} {b q:Bool} (hy:eH ops.toList (ak en) j = .v (.bool q)) (hq:q=b) (F:List Nat) (hc:fp i=(F,Nl)) (hv:∀ G,agree F G H->EvA P (rho<|ak en) op G r G) (h:TG P ops fp (i+1) l K (ak ((d,r)::en)) H):TG P ops fp i (⟨Nn d,op,ty,pos,af,Nn (j,b)⟩::l) K (ak en) H:=
 ⟨r,H,by rw [hc];exact .ofF (.y rfl hy hq)<|CO hv,λ_=>rfl,h⟩
theorem tgS {j:Nat} {b q:Bool} (hy:eH ops.toList (ak en) j = .v (.bool q)) (hq:q = !b) (h:TG P ops fp (i+1) l K (ak ((d,.tup [])::en)) H):TG P ops fp i (⟨Nn d,op,ty,pos,af,Nn (j,b)⟩::l) K (ak en) H:=
 ⟨.tup [],H,.skip (.n rfl hy hq) _,λ_=>rfl,h⟩
theorem tgU {j:Nat} {b:Bool} (hy:eH ops.toList (ak en) j = .tup []) (h:TG P ops fp (i+1) l K (ak ((d,.tup [])::en)) H):TG P ops fp i (⟨Nn d,op,ty,pos,af,Nn (j,b)⟩::l) K (ak en) H:=
 ⟨.tup [],H,.skip (.u rfl hy) _,λ_=>rfl,h⟩
end
open Go.RowKit

structure TI where
 u:TypeDesc
 ag:Bool
 n:Nat
 zs:List AV
 m:Nat
structure TI.ok (P:Program) (t:TypeId) (x:TI):Prop where
 u:P.underlying t=Nn x.u
 ty:TyF P t x.ag x.n
 z:TyZ P t x.zs
 zl:x.zs.length=x.n
 by_:P.bytesOf t=x.m
structure Ent (P:Program) where
 t:TypeId
 x:TI
 ok:TI.ok P t x
def Ent.m {P:Program} {t:TypeId} {u:TypeDesc} (hu:P.underlying t=Nn u) (ag:Bool) (n:Nat) (zs:List AV) (m:Nat) (h0:zs.length=n:=by rfl) (h1:vN P t=ag:=by kernel_rfl) (h2:P.cellsOf t=n:=by kernel_rfl) (h3:(P.info? t).isSome=Nk:=by kernel_rfl)
  (h4:((P.info? t).bind (·.zero)).map dD=Nn zs:=by kernel_rfl) (h5:((P.info? t).bind (·.zero)).map (λz=>lG z.cells)=Nn Nk:=by kernel_rfl) (h6:P.bytesOf t=m:=by kernel_rfl):Ent P:=
 ⟨t,⟨u,ag,n,zs,m⟩,⟨hu,⟨h1,by rw [hu];rfl,h2,h3⟩,⟨h4,h5⟩,h0,h6⟩⟩
def lk {P:Program}:List (Ent P)->Nat->Option TI
 | [],_=>Np
 | p::l,t=>bif SD p.t t then Nn p.x else lk l t
theorem Lr {P:Program} {t:Nat} {x:TI}:∀ {l:List (Ent P)},lk l t=Nn x->TI.ok P t x
 | p::l,h=>by
  unfold lk at h
  cases e:SD p.t t with
  | true=>
   rw [e] at h;obtain rfl:=osl h;exact SF e ▸ p.ok
  | false=>
   rw [e] at h;exact Lr h
class Tab (P:Program) where
 tab:List (Ent P)
abbrev tq (P:Program) [Tab P] (t:Nat):Option TI:=lk (Tab.tab (P:=P)) t
theorem kv {P:Program} [Tab P] {t:Nat} {x:TI} (h:tq P t=Nn x):TI.ok P t x:=Lr h
theorem TI.ok.sl {P:Program} {t e:TypeId} {x y:TI} (h:TI.ok P t x) (g:TI.ok P e y) (hu:x.u = .slice e) (hp:SE 0 y.n=Nk):SlT P t e y.ag y.n y.zs y.m:=⟨hu ▸ h.u,g.ty,g.z,g.zl,hp,g.by_⟩
abbrev RV:=Option<|Option Prop×AV
def spine {α β:Type}:List α->(List α->β)->β
 | [],K=>K []
 | a::l,K=>spine l λl=>K (a::l)
theorem o6 {α β:Type}:∀ {l:List α} {K:List α->β},spine l K=K l
 | [],_=>rfl
 | _::l,_=>o6 (l:=l)
def fcV (x:AV):RV:=match x with
 | .v a=>Nn (Np,.v a)
 | .agg cs=>Nn (Np,.agg cs)
 | .tup xs=>Nn (Np,.tup xs)
 | .nil=>Nn (Np,.nil)
 | .sl n row=>Nn (Np,.sl n row)
 | .fp row j=>Nn (Np,.fp row j)
 | .hs b q s o l=>Nn (Np,.hs b q s o l)
 | .hp b q s i j=>Nn (Np,.hp b q s i j)
 | .mp b s=>Nn (Np,.mp b s)
 | .ifc t x=>Nn (Np,.ifc t x)
 | .fn f cs=>Nn (Np,.fn f cs)
 | .top=>Nn (Np,.top)
theorem Ls (x:AV):fcV x=Nn (Np,x):=by cases x <;> rfl
def Co (ag:Bool) (n:Nat) (row:List AV) (j:Nat) (K:AV->RV):RV:=match ag with
 | true=>bif SG (j+n) row.length then spine ((row.drop j).take n) λcs=>K (.agg cs) else Np
 | false=>match row.drop j with
  | a::_=>K a
  | []=>Np
theorem uz {ag:Bool} {n:Nat} {row:List AV} {j:Nat} {K:AV->RV} {r:Option Prop×AV} (h:Co ag n row j K=Nn r):∃ a,uW ag n row j=Nn a/\K a=Nn r:=by
 unfold Co at h
 split at h
 ·cases hb:SG (j+n) row.length with
  | true=>
   rw [hb] at h;rw [cond_true,o6] at h;exact ⟨_,by simp only [uW];rw [if_pos (nlb hb)],h⟩
  | false=>rw [hb] at h;cases h
 split at h
 ·rename_i a l hd;refine ⟨a,?_,h⟩;simp only [uW];have := congrArg (λl=>l[0]?) hd;simpa using this
 cases h
def okV (v:AV):RV:=Nn (Np,v)
def cdV (c:Prop) (v:AV):RV:=Nn (Nn c,v)
def Hol:Option Prop->Prop
 | none=>True
 | some c=>c
def kq (a b:IntKind):Bool:=Nq<|a=b
def evI (op:BinOp) (k:IntKind) (a b:Int):RV:=match op with
 | .add=>cdV (k.wrap (a+b)=a+b) (.v<|.int k<|a+b)
 | .sub=>cdV (k.wrap (a-b)=a-b) (.v<|.int k<|a-b)
 | .mul=>cdV (k.wrap (a*b)=a*b) (.v<|.int k<|a*b)
 | .quo=>cdV (b≠0/\k.wrap (a.tdiv b)=a.tdiv b) (.v<|.int k<|a.tdiv b)
 | .rem=>cdV (b≠0) (.v<|.int k<|a.tmod b)
 | .and=>okV (.v<|.int k<|iC k a b)
 | .or=>okV (.v<|.int k<|bOr k a b)
 | .xor=>okV (.v<|.int k<|Kw k a b)
 | .andNot=>okV (.v<|.int k<|AU k a b)
 | .eql=>okV (.v<|.bool<|a==b)
 | .neq=>okV (.v<|.bool<|a != b)
 | .lss=>okV (.v<|.bool<|Nq<|a<b)
 | .leq=>okV (.v<|.bool<|Nq<|a<=b)
 | .gtr=>okV (.v<|.bool<|Nq<|b<a)
 | .geq=>okV (.v<|.bool<|Nq<|b<=a)
 | _=>Np
def evB (op:BinOp) (x y:AV):RV:=match x,y with
 | .v (.int k a),.v (.int k' b)=>(match op with
  | .shl=>cdV (0<=b) (.v<|.int k<|Fb k a b)
  | .shr=>cdV (0<=b) (.v<|.int k<|kH k a b)
  | _=>bif kq k k' then evI op k a b else Np)
 | .v (.string a),.v (.string b)=>(match op with
  | .add=>cdV (a.size+b.size<=9223372036854775807) (.v<|.string<|a++b)
  | .eql=>okV (.v<|.bool<|Nq<|a=b)
  | .neq=>okV (.v<|.bool<|!decide (a=b))
  | _=>Np)
 | _,_=>Np
def opI (ρ:Operand->AV) (x:Option Operand) (d:Int):Option Int:=match x with
 | none=>Nn d
 | some o=>match ρ o with
  | .v (.int _ n)=>Nn n
  | _=>Np
def Mk (P:Program) [Tab P] (t:TypeId) (x y:AV):RV:=match tq P t,y with
 | some ⟨u,_,_,_,_⟩,.v (.int _ q)=>(match u,x with
  | .slice e,.sl n row=>(match tq P e with
   | some ⟨_,_,w,_,_⟩=>bif SD (row q.toNat).length w then cdV (0<=q/\q<n) (.fp (row q.toNat) 0) else Np
   | none=>Np)
  | .slice e,.hs b ver s off len=>(match tq P e with
   | some ⟨_,_,w,_,_⟩=>bif SD s w&&SD off 0 then cdV (0<=q/\q<len) (.hp b ver s q.toNat 0) else Np
   | none=>Np)
  | .array n e,.fp row j=>(match tq P e with
   | some ⟨_,_,w,_,_⟩=>cdV (0<=q/\q<n) (.fp row<|j+q.toNat*w)
   | none=>Np)
  | .array n e,.hp b ver s i j=>(match tq P e with
   | some ⟨_,_,w,_,_⟩=>cdV (0<=q/\q<n) (.hp b ver s i<|j+q.toNat*w)
   | none=>Np)
  | _,_=>Np)
 | _,_=>Np
def placesOf (P:Program) [Tab P]:List Field->Option (List<|Nat×Nat)
 | []=>Nn []
 | f::l=>match tq P f.type,placesOf P l with
  | some x,Nn r=>Nn ((f.offset,x.n)::r)
  | _,_=>Np
def J4 (P:Program) [Tab P] (t:TypeId) (x:AV):RV:=match tq P t with
 | some ⟨u,_,_,_,_⟩=>(match u,x with
  | .slice _,.sl n _=>okV (I n)
  | .slice _,.hs _ _ _ _ n=>okV (I n)
  | .slice _,.nil=>okV (I 0)
  | .string,.v (.string s)=>okV (I s.size)
  | _,_=>Np)
 | none=>Np
def G9 (P:Program) [Tab P] (ρ:Operand->AV) (f:Callee) (args:List Operand) (ts:List TypeId):RV:=match f,args,ts with
 | .builtin .len,[x],[t]=>J4 P t (ρ x)
 | .builtin .min,[x,y],_=>(match ρ x,ρ y with
  | .v (.int k a),.v (.int _ b)=>okV (.v<|.int k<|if b<a then b else a)
  | _,_=>Np)
 | .builtin .max,[x,y],_=>(match ρ x,ρ y with
  | .v (.int k a),.v (.int _ b)=>okV (.v<|.int k<|if b>a then b else a)
  | _,_=>Np)
 | _,_,_=>Np
def evN (P:Program) [Tab P] (ρ:Operand->AV) (op:Op):RV:=match op with
 | .nilCheck x=>(match ρ x with
  | .fp row j=>okV (.fp row j)
  | .hp b q s i j=>okV (.hp b q s i j)
  | _=>Np)
 | .load t x=>(match tq P t,ρ x with
  | some ⟨_,ag,n,_,_⟩,.fp row j=>Co ag n row j okV
  | _,_=>Np)
 | .binOp op _ x y _=>evB op (ρ x) (ρ y)
 | .unOp op _ x=>(match op,ρ x with
  | .not,.v (.bool b)=>okV (.v<|.bool !b)
  | .neg,.v (.int k n)=>cdV (k.wrap (0-n)=0-n) (.v<|.int k<|0-n)
  | _,_=>Np)
 | .convert s d x=>(match tq P s,tq P d with
  | some _,Nn ⟨u,_,_,_,_⟩=>(match u,ρ x with
   | .int k,.v (.int _ n)=>cdV (k.wrap n=n) (.v<|.int k n)
   | .string,.v (.string b)=>okV (.v<|.string b)
   | _,_=>Np)
  | _,_=>Np)
 | .makeInterface t x=>(match tq P t with
  | some ⟨u,_,_,_,_⟩=>(match u with
   | .interface _=>Np
   | _=>okV (.ifc t (ρ x)))
  | none=>Np)
 | .makeFunc f first nR=>bif first.size==0 then okV (.fn f<|nR.toList.map ρ) else Np
 | .fieldAddr t x f=>(match tq P t with
  | some ⟨u,_,_,_,_⟩=>(match u with
   | .struct fs=>(match fs[f]? with
    | some ⟨_,ft,off,_,_,_,_⟩=>(match tq P ft with
     | some ⟨_,_,n,_,_⟩=>bif SD n 0 then Np else (match ρ x with
      | .fp row j=>spine ((row.drop<|j+off).take n) λr=>okV (.fp r 0)
      | .hp b v s i j=>okV (.hp b v s i<|j+off)
      | _=>Np)
     | none=>Np)
    | none=>Np)
   | _=>Np)
  | none=>Np)
 | .field t x f=>(match tq P t with
  | some ⟨u,_,_,_,_⟩=>(match u with
   | .struct fs=>(match fs[f]?,ρ x with
    | some ⟨_,ft,off,_,_,_,_⟩,.agg cs=>(match tq P ft with
     | some ⟨_,ag,n,_,_⟩=>Co ag n cs off okV
     | none=>Np)
    | _,_=>Np)
   | _=>Np)
  | none=>Np)
 | .indexAddr t x y=>Mk P t (ρ x) (ρ y)
 | .index t x y=>(match tq P t,ρ x,ρ y with
  | some ⟨u,_,_,_,_⟩,.v (.string s),.v (.int _ q)=>(match u with
   | .string=>cdV (0<=q/\q<s.size) (.v<|.int .u8 ((s.data.getD q.toNat 0).toNat:Int))
   | _=>Np)
  | _,_,_=>Np)
 | .slice t x lo hi Np=>(match tq P t,ρ x with
  | some ⟨u,_,_,_,_⟩,.v (.string s)=>(match u,opI ρ lo 0,opI ρ hi s.size with
   | .string,Nn l,Nn h=>cdV (0<=l/\l<=h/\h<=s.size) (.v<|.string<|s.extract l.toNat h.toNat)
   | _,_,_=>Np)
  | _,_=>Np)
 | .extract x i=>(match ρ x with
  | .tup xs=>(match xs.drop i with
   | a::_=>okV a
   | []=>Np)
  | _=>Np)
 | .build t parts=>(match tq P t with
  | some ⟨u,_,_,zs,_⟩=>(match u with
   | .struct fs=>(match placesOf P fs.toList with
    | some pl=>(match yH (pl.toArray[·]?) zs (parts.toList.map λp=>(p.1,ρ p.2)) with
     | some cs=>spine cs λcs=>okV (.agg cs)
     | none=>Np)
    | none=>Np)
   | _=>Np)
  | none=>Np)
 | .call c=>G9 P ρ c.callee c.args.toList c.argTypes.toList
 | _=>Np
section
variable {P:Program} {ρ:Operand->AV} {H:AH}
theorem dM {v r:AV} {c:Option Prop} (h:okV v=Nn (c,r)):c=Np/\v=r:=by
 injection h with h;injection h with h1 h2;exact ⟨h1.symm,h2⟩
theorem ow {p:Prop} {v r:AV} {c:Option Prop} (h:cdV p v=Nn (c,r)):c=Nn p/\v=r:=by
 injection h with h;injection h with h1 h2;exact ⟨h1.symm,h2⟩
theorem Lt {op:BinOp} {k:IntKind} {a b:Int} {t u:TypeId} {x y:Operand} {c:Option Prop} {r:AV} (hx:ρ x = .v (.int k a)) (hy:ρ y = .v (.int k b)) (h:evI op k a b=Nn (c,r)) (hc:Hol c):M0 P ρ (.binOp op t x y u) r:=by
 cases op <;> simp only [evI] at h <;> first
  | (obtain ⟨rfl,rfl⟩:=ow h;first | exact M0.add hx hy hc | exact M0.sub hx hy hc | exact M0.mul hx hy hc | exact M0.quo hx hy hc.1 hc.2 | exact M0.rem hx hy hc)
  | (obtain ⟨rfl,rfl⟩:=dM h;first | exact M0.band hx hy | exact M0.bor hx hy | exact M0.bxor hx hy | exact M0.bandNot hx hy | exact M0.ieq hx hy | exact M0.ine hx hy | exact M0.ilt hx hy | exact M0.ile hx hy | exact M0.igt hx hy | exact M0.ige hx hy)
  | cases h
theorem Lu {op:BinOp} {t u:TypeId} {x y:Operand} {c:Option Prop} {r:AV} (h:evB op (ρ x) (ρ y)=Nn (c,r)) (hc:Hol c):M0 P ρ (.binOp op t x y u) r:=by
 unfold evB at h
 split at h
 ·rename_i k a k' b hx hy
  split at h
  ·obtain ⟨rfl,rfl⟩:=ow h;exact M0.shl hx hy hc
  ·obtain ⟨rfl,rfl⟩:=ow h;exact M0.shr hx hy hc
  cases hk:kq k k' with
  | true=>
   rw [hk] at h;obtain rfl:=of_decide_eq_true hk;exact Lt hx hy h hc
  | false=>rw [hk] at h;cases h
 ·rename_i a b hx hy
  split at h
  ·obtain ⟨rfl,rfl⟩:=ow h;exact M0.cat hx hy hc
  ·obtain ⟨rfl,rfl⟩:=dM h;exact M0.seq hx hy
  ·obtain ⟨rfl,rfl⟩:=dM h;exact M0.sne hx hy
  cases h
 cases h
theorem Je {o:Option Operand} {d m:Int} (h:opI ρ o d=Nn m):bnd ρ o d m:=by
 unfold opI at h
 split at h
 ·exact osl h
 split at h
 ·rename_i k n he;obtain rfl:=osl h;exact ⟨k,he⟩
 cases h
variable [Tab P]
theorem J5 {t:TypeId} {x y:Operand} {c:Option Prop} {r:AV} (h:Mk P t (ρ x) (ρ y)=Nn (c,r)) (hc:Hol c):M0 P ρ (.indexAddr t x y) r:=by
 unfold Mk at h
 split at h
 ·rename_i u _ _ _ _ k q hz hy;have hz:=(kv hz).u
  split at h
  ·rename_i e n row hx _
   split at h
   ·rename_i w _ _ hf;have hf:=(kv hf).ty
    cases hb:SD (row q.toNat).length w with
    | true=>
     rw [hb] at h;obtain ⟨rfl,rfl⟩:=ow h;exact M0.ixsl hz hf hx hy hc<|SF hb
    | false=>rw [hb] at h;cases h
   cases h
  ·rename_i e b ver s off len hx _
   split at h
   ·rename_i w _ _ hf;have hf:=(kv hf).ty
    cases hb:(SD s w&&SD off 0) with
    | true=>
     rw [hb] at h;obtain ⟨rfl,rfl⟩:=ow h;rw [bae] at hb;obtain rfl:=SF hb.1;obtain rfl:=SF hb.2;have := M0.ixhs (P:=P) hz hf hx hy hc
     rwa [Nat.zero_add] at this
    | false=>rw [hb] at h;cases h
   cases h
  ·rename_i n e row j hx _
   split at h
   ·rename_i hf;obtain ⟨rfl,rfl⟩:=ow h;exact M0.ixafp hz (kv hf).ty hx hy hc
   cases h
  ·rename_i n e b ver s i j hx _
   split at h
   ·rename_i hf;obtain ⟨rfl,rfl⟩:=ow h;exact M0.ixahp hz (kv hf).ty hx hy hc
   cases h
  cases h
 cases h
theorem zB:∀ {l:List Field} {pl:List (Nat×Nat)},placesOf P l=Nn pl->l.mapM (λf=>(P.info? f.type).map λi=>(f.offset,i.size))=Nn pl
 | [],pl,h=>by
  obtain rfl:=osl h
  rfl
 | f::l,pl,h=>by
  unfold placesOf at h
  split at h
  ·rename_i x r hx hr;obtain rfl:=osl h;have h1:=kv hx;have h2:=zB hr;have h3:=h1.ty.cells;have h4:=h1.ty.info
   cases hi:P.info? f.type with
   | none=>rw [hi] at h4;cases h4
   | some i=>
    unfold Program.cellsOf at h3;rw [hi] at h3;have h5:i.size=x.n:=by simpa using h3
    simp [List.mapM_cons,hi,h2,h5]
  cases h
theorem IJ {t:TypeId} {x:Operand} {c:Option Prop} {r:AV} (h:J4 P t (ρ x)=Nn (c,r)):M0 P ρ (.call ⟨.builtin .len,#[x],#[t]⟩) r:=by
 unfold J4 at h
 split at h
 ·rename_i hz;have hz:=(kv hz).u
  split at h
  ·obtain ⟨rfl,rfl⟩:=dM h;exact M0.lensl hz ‹_›
  ·obtain ⟨rfl,rfl⟩:=dM h;exact M0.lenhs hz ‹_›
  ·obtain ⟨rfl,rfl⟩:=dM h;exact M0.lennil hz ‹_›
  ·obtain ⟨rfl,rfl⟩:=dM h;exact M0.lenst hz ‹_›
  cases h
 cases h
theorem Ha {cl:Call} {c:Option Prop} {r:AV} (h:G9 P ρ cl.callee cl.args.toList cl.argTypes.toList=Nn (c,r)):M0 P ρ (.call cl) r:=by
 obtain ⟨f,⟨args⟩,⟨ts⟩⟩:=cl;simp only at h;unfold G9 at h
 split at h
 ·exact IJ h
 ·split at h
  ·rename_i hx hy;obtain ⟨rfl,rfl⟩:=dM h;exact M0.min hx hy
  cases h
 ·split at h
  ·rename_i hx hy;obtain ⟨rfl,rfl⟩:=dM h;exact M0.max hx hy
  cases h
 cases h
theorem sK {op:Op} {c:Option Prop} {r:AV} (h:evN P ρ op=Nn (c,r)) (hc:Hol c):M0 P ρ op r:=by
 unfold evN at h
 split at h
 ·split at h
  ·rename_i he;obtain ⟨rfl,rfl⟩:=dM h;exact M0.nilfp he
  ·rename_i he;obtain ⟨rfl,rfl⟩:=dM h;exact M0.nilhp he
  cases h
 ·split at h
  ·rename_i hz hx;obtain ⟨a,ha,h⟩:=uz h;obtain ⟨rfl,rfl⟩:=dM h;exact M0.loadfp _ (kv hz).ty hx ha
  cases h
 ·exact Lu h hc
 ·split at h
  ·rename_i hx;obtain ⟨rfl,rfl⟩:=dM h;exact M0.not hx
  ·rename_i hx;obtain ⟨rfl,rfl⟩:=ow h;exact M0.neg hx hc
  cases h
 ·split at h
  ·rename_i hs hd
   split at h
   ·rename_i hx;obtain ⟨rfl,rfl⟩:=ow h;exact M0.iconv (kv hs).ty.und (kv hd).u hx hc
   ·rename_i hx;obtain ⟨rfl,rfl⟩:=dM h;exact M0.sconv (kv hs).ty.und (kv hd).u hx
   cases h
  cases h
 ·split at h
  ·rename_i hz
   split at h
   ·cases h
   rename_i hn;obtain ⟨rfl,rfl⟩:=dM h;exact M0.mkifc _ (kv hz).u hn rfl
  cases h
 ·rename_i f first nR
  cases hb:first.size==0 with
  | true=>
   rw [hb] at h;obtain ⟨rfl,rfl⟩:=dM h;exact M0.mkfn _ hb rfl
  | false=>rw [hb] at h;cases h
 ·split at h
  ·rename_i hz
   split at h
   ·rename_i fs
    split at h
    ·rename_i ft off _ _ _ _ hfl
     split at h
     ·rename_i n _ _ hy
      cases hb:SD n 0 with
      | true=>rw [hb] at h;cases h
      | false=>
       rw [hb] at h;have hne:(P.cellsOf ft != 0)=Nk:=by
        rw [(kv hy).ty.cells]
        cases n with
        | zero=>cases hb
        | succ k=>rfl
       simp only [cond_false] at h
       split at h
       ·rename_i hx;rw [o6] at h;obtain ⟨rfl,rfl⟩:=dM h;exact M0.fafpS n (kv hz).u hfl hne hx rfl
       ·rename_i hx;obtain ⟨rfl,rfl⟩:=dM h;exact M0.fahp (kv hz).u hfl hne hx
       cases h
     cases h
    cases h
   cases h
  cases h
 ·split at h
  ·rename_i hz
   split at h
   ·split at h
    ·rename_i hfl hx
     split at h
     ·rename_i hy;obtain ⟨a,ha,h⟩:=uz h;obtain ⟨rfl,rfl⟩:=dM h;exact M0.field _ (kv hz).u hfl (kv hy).ty hx ha
     cases h
    cases h
   cases h
  cases h
 ·exact J5 h hc
 ·split at h
  ·rename_i hz hx hy
   split at h
   ·obtain ⟨rfl,rfl⟩:=ow h;exact M0.ixst (kv hz).u hx hy hc
   cases h
  cases h
 ·split at h
  ·rename_i hz hx
   split at h
   ·rename_i hl hq;obtain ⟨rfl,rfl⟩:=ow h;exact M0.slst (kv hz).u hx (Je hl) (Je hq) hc
   cases h
  cases h
 ·split at h
  ·rename_i hx
   split at h
   ·rename_i i _ xs _ a l ha;obtain ⟨rfl,rfl⟩:=dM h;exact M0.ext _ hx (by have := congrArg (λl=>l[0]?) ha;rw [List.getElem?_drop] at this;simpa using this)
   cases h
  cases h
 ·split at h
  ·rename_i hz
   split at h
   ·rename_i fs
    split at h
    ·rename_i pl hpl
     split at h
     ·rename_i cs hcs;rw [o6] at h;obtain ⟨rfl,rfl⟩:=dM h;have hz:=kv hz;have hu':P.underlying _=Nn (.struct fs):=hz.u;exact M0.build _ hu' hz.z ⟨by rw [hu'];exact zB hpl⟩ rfl hcs
     cases h
    cases h
   cases h
  cases h
 ·exact Ha h
 cases h
def evA (P:Program) [Tab P] (H:AH) (op:Op):Option (AV×AH):=match op with
 | .alloc t=>(match tq P t with
  | some ⟨_,_,n,zs,_⟩=>bif SE 0 n then spine (H++[Nn ⟨0,n,t,[zs]⟩]) λG=>Nn (.hp H.length 0 n 0 0,G) else Np
  | none=>Np)
 | _=>Np
omit [Tab P] in
theorem MS {t:TypeId} {zs:List AV} {n b:Nat} (z:TyZ P t zs) (hl:zs.length=n) (hn:SE 0 n=Nk) (hb:H.length=b):EvA P ρ (.alloc t) H (.hp b 0 n 0 0) (H++[Nn ⟨0,n,t,[zs]⟩]):=by
 subst hl;exact EvA.al z hn hb
theorem Lv {op:Op} {r:AV} {H':AH} (h:evA P H op=Nn (r,H')):EvA P ρ op H r H':=by
 unfold evA at h
 split at h
 ·split at h
  ·rename_i n zs _ hz
   cases hb:SE 0 n with
   | true=>
    rw [hb,cond_true,o6] at h;obtain ⟨rfl,rfl⟩:=Prod.mk.inj<|osl h;exact MS (kv hz).z (kv hz).zl hb rfl
   | false=>rw [hb] at h;cases h
  cases h
 cases h
def evL (P:Program) [Tab P] (ρ:Operand->AV) (H:AH) (op:Op):Option (Nat×Nat×Nat×AV):=match op with
 | .load t x=>(match tq P t,ρ x with
  | some ⟨_,ag,n,_,_⟩,.hp b ver s i j=>(match H[b]? with
   | some (Nn ⟨o8,s',_,rows⟩)=>bif SD s' s then (match rows[i]? with
    | some row=>(match Co ag n row j okV with
     | some (Np,a)=>Nn (b,o8,ver,a)
     | _=>Np)
    | none=>Np) else Np
   | _=>Np)
  | _,_=>Np)
 | _=>Np
theorem Hd {op:Op} {b ver o8:Nat} {r:AV} (h:evL P ρ H op=Nn (b,o8,ver,r)) (hv:o8=ver):∀ G:AH,agree [b] G H->EvA P ρ op G r G:=by
 intro G hG;unfold evL at h
 split at h
 ·split at h
  ·rename_i b' _ s i j hz hx
   split at h
   ·rename_i _ s' _ rows hk
    cases hb:SD s' s with
    | true=>
     rw [hb] at h;simp only [cond_true] at h
     split at h
     ·rename_i row hrow
      split at h
      ·rename_i a ha;obtain ⟨a',ha',h'⟩:=uz ha;obtain ⟨_,rfl⟩:=dM h';injection h with h;injection h with h1 h;injection h with h2 h;injection h with h3 h;subst h1 h2 h3 h;exact EvA.loadhp _ (kv hz).ty hx (hG.a0 hk) hv (SF hb) hrow ha'
      cases h
     cases h
    | false=>rw [hb] at h;cases h
   cases h
  cases h
 cases h
def evS (P:Program) [Tab P] (ρ:Operand->AV) (H:AH) (op:Op):Option (Nat×Nat×ABlk):=match op with
 | .store t x y=>(match tq P t,ρ x,(ρ y).cells with
  | some ⟨_,_,n,_,_⟩,.hp b ver s i j,Nn cs=>(match H[b]? with
   | some (Nn ⟨o8,s',ty,rows⟩)=>bif SD s' s&&SD cs.length n&&SG (j+n) s&&SE b H.length then (match rows[i]? with
    | some row=>spine (splice row j cs) λr=>spine (rows.set i r) λrows=>Nn (b,ver,⟨o8,s',ty,rows⟩)
    | none=>Np) else Np
   | _=>Np)
  | _,_,_=>Np)
 | _=>Np
theorem He {op:Op} {b ver:Nat} {k':ABlk} (h:evS P ρ H op=Nn (b,ver,k')) (hv:k'.ver=ver):SE b H.length=Nk/\∀ G:AH,agree [b] G H->EvA P ρ op G .top (G.set b<|Nn k'):=by
 unfold evS at h
 split at h
 ·split at h
  ·rename_i n _ _ b' _ s i j cs hz hx hy
   split at h
   ·rename_i o8 s' ty rows hk
    cases hb:(SD s' s&&SD cs.length n&&SG (j+n) s&&SE b' H.length) with
    | true=>
     rw [hb] at h;simp only [cond_true] at h
     split at h
     ·rename_i row hrow;rw [o6,o6] at h;injection h with h;injection h with h1 h;injection h with h2 h;subst h1 h2 h;simp only [bae] at hb;obtain ⟨⟨⟨h2,h3⟩,h4⟩,h5⟩:=hb;exact ⟨h5,λG hG=>EvA.st _ (kv hz).ty hx hy (hG.a0 hk) hv (SF h2) hrow (SF h3) h4 rfl⟩
     cases h
    | false=>rw [hb] at h;cases h
   cases h
  cases h
 cases h
end
def Cq:List (Nat×AV)->Nat->Option AV
 | [],_=>Np
 | (u,v)::l,t=>bif SD t u then Nn v else Cq l t
theorem uA {t:Nat} {v:AV}:∀ {en:List (Nat×AV)},Cq en t=Nn v->ak en t=v
 | (u,w)::l,h=>by
  unfold Cq at h;show (bif SD t u then w else ak l t)=v
  cases e:SD t u with
  | true=>rw [e] at h;exact osl h
  | false=>rw [e] at h;exact uA h
def opE (en:List<|Nat×AV) (x:Operand):Option AV:=match x with
 | .tmp t=>Cq en t
 | x=>(match fcV (rho (ak en) x) with
  | some (_,v)=>Nn v
  | none=>Np)
theorem fS {en:List (Nat×AV)} {x:Operand} {v:AV} (h:opE en x=Nn v):rho (ak en) x=v:=by
 unfold opE at h
 split at h
 ·exact uA h
 rw [Ls] at h;exact osl h
theorem agree.refl {F:List Nat} {H:AH}:agree F H H:=⟨rfl,λ_ _=>rfl⟩
section
variable {P:Program} {nt b0:Nat} {Q:Exit->Env->AH->Prop} {H H':AH} {x:Operand} {t:TypeId} {cs:List AV} {ops:Array Oper} {l:List Oper} {d:Tmp} {op:Op} {ty:TypeId} {pos:String} {af:Array Edge} {en:List (Nat×AV)} {v:AV} {c:Prop} {b ver o8:Nat} {k':ABlk}
theorem eM (h:opE en x=Nn v) (k:TO P nt b0 ops l Q (ak ((d,v)::en)) H):TO P nt b0 ops (⟨Nn d,.move x,ty,pos,af,Np⟩::l) Q (ak en) H:=oN (M0.mv _<|fS h) k
theorem eR (h:opE en x=Nn v) (k:TO P nt b0 ops l Q (ak ((d,v)::en)) H):TO P nt b0 ops (⟨Nn d,.assign x,ty,pos,af,Np⟩::l) Q (ak en) H:=oN (M0.asg _<|fS h) k
theorem fM {fp:Nat->Fp} {i:Nat} {K:Env->AH->Prop} (h:opE en x=Nn v) (hf:fp i=([],Nl)) (k:TF P fp (i+1) l K (ak ((d,v)::en)) H):TF P fp i (⟨Nn d,.move x,ty,pos,af,Np⟩::l) K (ak en) H:=fN hf (M0.mv _<|fS h) k
theorem fA {fp:Nat->Fp} {i:Nat} {K:Env->AH->Prop} (h:opE en x=Nn v) (hf:fp i=([],Nl)) (k:TF P fp (i+1) l K (ak ((d,v)::en)) H):TF P fp i (⟨Nn d,.assign x,ty,pos,af,Np⟩::l) K (ak en) H:=fN hf (M0.asg _<|fS h) k
theorem eB (hx:(rho (ak en) x).cells=Nn cs) (hn:SE 0 cs.length=Nk) (k:TO P nt b0 ops l Q (ak ((d,.hp H.length 0 cs.length 0 0)::en))<|H++[Nn ⟨0,cs.length,t,[cs]⟩]):TO P nt b0 ops (⟨Nn d,.box t x,ty,pos,af,Np⟩::l) Q (ak en) H:=oA (EvA.bx hx hn rfl) k
theorem eF (hx:(rho (ak en) x).cells=Nn cs) (hn:(SE 0 cs.length)=Nk) (hF:cs.all (isF 9)=Nk) (k:TO P nt b0 ops l Q (ak ((d,.fp cs 0)::en)) H):TO P nt b0 ops (⟨Nn d,.box t x,ty,pos,af,Np⟩::l) Q (ak en) H:=oN (M0.bxF cs hx hn hF) k
variable [Tab P]
theorem eN (h:evN P (rho<|ak en) op=Nn (Np,v)) (k:TO P nt b0 ops l Q (ak ((d,v)::en)) H):TO P nt b0 ops (⟨Nn d,op,ty,pos,af,Np⟩::l) Q (ak en) H:=oN (sK h trivial) k
theorem eG (h:evN P (rho<|ak en) op=Nn (Nn c,v)) (hc:c) (k:TO P nt b0 ops l Q (ak ((d,v)::en)) H):TO P nt b0 ops (⟨Nn d,op,ty,pos,af,Np⟩::l) Q (ak en) H:=oN (sK h hc) k
theorem eA (h:evA P H op=Nn (v,H')) (k:TO P nt b0 ops l Q (ak ((d,v)::en)) H'):TO P nt b0 ops (⟨Nn d,op,ty,pos,af,Np⟩::l) Q (ak en) H:=oA (Lv h) k
theorem eL_ (h:evL P (rho<|ak en) H op=Nn (b,o8,ver,v)) (hv:o8=ver) (k:TO P nt b0 ops l Q (ak ((d,v)::en)) H):TO P nt b0 ops (⟨Nn d,op,ty,pos,af,Np⟩::l) Q (ak en) H:=oA (Hd h hv H .refl) k
theorem eS (h:evS P (rho<|ak en) H op=Nn (b,ver,k')) (hv:k'.ver=ver) (hs:spine (H.set b<|Nn k') Nn=Nn H') (k:TO P nt b0 ops l Q (ak en) H'):TO P nt b0 ops (⟨Np,op,ty,pos,af,Np⟩::l) Q (ak en) H:=by
 rw [o6] at hs;obtain rfl:=osl hs;exact oV ((He h hv).2 H .refl) k
theorem hN {j:Nat} {w q:Bool} (hy:eH ops.toList (ak en) j = .v (.bool q)) (hq:q=w) (h:evN P (rho<|ak en) op=Nn (Np,v)) (k:TO P nt b0 ops l Q (ak ((d,v)::en)) H):TO P nt b0 ops (⟨Nn d,op,ty,pos,af,Nn (j,w)⟩::l) Q (ak en) H:=gN hy hq (sK h trivial) k
theorem hG {j:Nat} {w q:Bool} (hy:eH ops.toList (ak en) j = .v (.bool q)) (hq:q=w) (h:evN P (rho<|ak en) op=Nn (Nn c,v)) (hc:c) (k:TO P nt b0 ops l Q (ak ((d,v)::en)) H):TO P nt b0 ops (⟨Nn d,op,ty,pos,af,Nn (j,w)⟩::l) Q (ak en) H:=gN hy hq (sK h hc) k
variable {fp:Nat->Fp} {i:Nat} {K:Env->AH->Prop} {F:List Nat}
theorem fN' (h:evN P (rho<|ak en) op=Nn (Np,v)) (hf:fp i=([],Nl)) (k:TF P fp (i+1) l K (ak ((d,v)::en)) H):TF P fp i (⟨Nn d,op,ty,pos,af,Np⟩::l) K (ak en) H:=fN hf (sK h trivial) k
theorem fG' (h:evN P (rho<|ak en) op=Nn (Nn c,v)) (hf:fp i=([],Nl)) (hc:c) (k:TF P fp (i+1) l K (ak ((d,v)::en)) H):TF P fp i (⟨Nn d,op,ty,pos,af,Np⟩::l) K (ak en) H:=fN hf (sK h hc) k
theorem fL' (h:evL P (rho<|ak en) H op=Nn (b,o8,ver,v)) (hv:o8=ver) (hf:fp i=([b],Nl)) (k:TF P fp (i+1) l K (ak ((d,v)::en)) H):TF P fp i (⟨Nn d,op,ty,pos,af,Np⟩::l) K (ak en) H:=fR [b] hf (λG hG=>Hd h hv G hG) k
theorem fS' (h:evS P (rho<|ak en) H op=Nn (b,ver,k')) (hv:k'.ver=ver) (hs:spine (H.set b<|Nn k') Nn=Nn H') (hf:fp i=([b],Nk)) (k:TF P fp (i+1) l K (ak en) H'):TF P fp i (⟨Np,op,ty,pos,af,Np⟩::l) K (ak en) H:=by
 rw [o6] at hs;obtain rfl:=osl hs;exact fV b [] hf (He h hv).1 (λG hG=>(He h hv).2 G hG) k
end
section
variable {P:Program} {nt b0:Nat} {Q:Exit->Env->AH->Prop} {e:Env} {H:AH}
def Hf (P:Program) (c:Code) (Q:Exit->Act->World->Prop) (a:Act) (w:World):Prop:=∀ (b:Frame) (k:List Item) (cs),∃ e a' w',Q e a' w'/\Arrives P (lone (b.at a (.code c :: .inLoop c::k)) cs w) b k cs e a' w'
theorem Hf.loop {c:Code} {Q:Exit->Act->World->Prop} {a:Act} {w:World} (h:Hf P c Q a w):(Code.loop c).wp P Q a w:=by
 intro b k cs;obtain ⟨e',a',w',hq',harr'⟩:=h b k cs;exact ⟨e',a',w',hq',.of_steps (.one step_loop) harr'⟩
theorem Hf.mk {c:Code} {Q:Exit->Act->World->Prop} {a:Act} {w:World} (h:c.wp P (Exit.then (λa w=>Hf P c Q a w) Q) a w):Hf P c Q a w:=by
 intro b k cs;obtain ⟨e,a₁,w₁,hq,harr⟩:=h b (.inLoop c::k) cs
 cases e with
 | normal=>
  obtain ⟨e₂,a₂,w₂,hq₂,harr₂⟩:=hq b k cs;exact ⟨e₂,a₂,w₂,hq₂,.of_steps (Steps.trans harr<|.one step_inLoop) harr₂⟩
 | exit id=>exact ⟨_,a₁,w₁,hq,.pass (x:=.inLoop c) rfl (λ_ _ => .inl<|by simp) harr⟩
 | goto l=>exact ⟨_,a₁,w₁,hq,.pass (x:=.inLoop c) rfl (λ_ _ => .inl<|by simp) harr⟩
 | ret=>exact ⟨_,a₁,w₁,hq,.pass (x:=.inLoop c) rfl (λ_ _ => .inl<|by simp) harr⟩
 | panic ch=>exact ⟨_,a₁,w₁,hq,.pass (x:=.inLoop c) rfl (λ_ _ => .inl<|by simp) harr⟩
 | outgrown=>exact ⟨_,a₁,w₁,hq,.pass (x:=.inLoop c) rfl (λ_ _ => .inl<|by simp) harr⟩
variable {en:List (Nat×AV)} {ops:Array Oper} {l:List Oper} {d:Tmp} {t:TypeId} {pos:String} {af:Array Edge}
variable {cls:Nat->Xc} {i:Nat} {K:Env->AH->Prop} {li:List Nat} {op:Op}
end
def IK (en:List<|Nat×AV):List Nat->Option (List<|Nat×AV)
 | []=>Nn []
 | t::l=>match Cq en t with
  | some v=>(match IK en l with
   | some r=>Nn ((t,v)::r)
   | none=>Np)
  | none=>Np
theorem El {en:List (Nat×AV)}:∀ {l:List Nat} {r:List (Nat×AV)},IK en l=Nn r->zK (ak en) (ak r)
 | [],r,h=>by
  obtain rfl:=osl h;exact wkN
 | t::l,r,h=>by
  unfold IK at h
  split at h
  ·rename_i v hv
   split at h
   ·rename_i r' hr;obtain rfl:=osl h;exact MZ (uA hv)<|El hr
   cases h
  cases h
section
variable {P:Program} {nt b0:Nat} {Q:Exit->Env->AH->Prop} {H H':AH} {x:Operand} {ops:Array Oper} {l:List Oper} {d:Tmp} {op:Op} {ty:TypeId} {pos:String} {af:Array Edge} {en:List (Nat×AV)} {v:AV} {c:Prop} {b ver o8 j:Nat} {k':ABlk} {w q:Bool} {fp:Nat->Fp} {i:Nat} {K:Env->AH->Prop}
theorem hM (hy:eH ops.toList (ak en) j = .v (.bool q)) (hq:q=w) (h:opE en x=Nn v) (k:TO P nt b0 ops l Q (ak ((d,v)::en)) H):TO P nt b0 ops (⟨Nn d,.move x,ty,pos,af,Nn (j,w)⟩::l) Q (ak en) H:=gN hy hq (M0.mv _<|fS h) k
theorem hR (hy:eH ops.toList (ak en) j = .v (.bool q)) (hq:q=w) (h:opE en x=Nn v) (k:TO P nt b0 ops l Q (ak ((d,v)::en)) H):TO P nt b0 ops (⟨Nn d,.assign x,ty,pos,af,Nn (j,w)⟩::l) Q (ak en) H:=gN hy hq (M0.asg _<|fS h) k
theorem hPT {y z:Operand} {u:Bool} (hc:opE en x=Nn (.v<|.bool u)) (hu:u=Nk) (h:opE en y=Nn v) (k:TO P nt b0 ops l Q (ak ((d,v)::en)) H):TO P nt b0 ops (⟨Nn d,.pick x y z,ty,pos,af,Np⟩::l) Q (ak en) H:=oN (M0.pickT (fS hc) hu _<|fS h) k
theorem hPF {y z:Operand} {u:Bool} (hc:opE en x=Nn (.v<|.bool u)) (hu:u=Nl) (h:opE en z=Nn v) (k:TO P nt b0 ops l Q (ak ((d,v)::en)) H):TO P nt b0 ops (⟨Nn d,.pick x y z,ty,pos,af,Np⟩::l) Q (ak en) H:=oN (M0.pickF (fS hc) hu _<|fS h) k
theorem tM (h:opE en x=Nn v) (hc:fp i=([],Nl)) (k:TG P ops fp (i+1) l K (ak ((d,v)::en)) H):TG P ops fp i (⟨Nn d,.move x,ty,pos,af,Np⟩::l) K (ak en) H:=tN hc (M0.mv _<|fS h) k
theorem tA (h:opE en x=Nn v) (hc:fp i=([],Nl)) (k:TG P ops fp (i+1) l K (ak ((d,v)::en)) H):TG P ops fp i (⟨Nn d,.assign x,ty,pos,af,Np⟩::l) K (ak en) H:=tN hc (M0.asg _<|fS h) k
theorem tgM (hy:eH ops.toList (ak en) j = .v (.bool q)) (hq:q=w) (h:opE en x=Nn v) (hc:fp i=([],Nl)) (k:TG P ops fp (i+1) l K (ak ((d,v)::en)) H):TG P ops fp i (⟨Nn d,.move x,ty,pos,af,Nn (j,w)⟩::l) K (ak en) H:=tgN hy hq hc (M0.mv _<|fS h) k
theorem tPT {y z:Operand} {u:Bool} (hc:opE en x=Nn (.v<|.bool u)) (hu:u=Nk) (h:opE en y=Nn v) (hf:fp i=([],Nl)) (k:TG P ops fp (i+1) l K (ak ((d,v)::en)) H):TG P ops fp i (⟨Nn d,.pick x y z,ty,pos,af,Np⟩::l) K (ak en) H:=tN hf (M0.pickT (fS hc) hu _<|fS h) k
theorem tPF {y z:Operand} {u:Bool} (hc:opE en x=Nn (.v<|.bool u)) (hu:u=Nl) (h:opE en z=Nn v) (hf:fp i=([],Nl)) (k:TG P ops fp (i+1) l K (ak ((d,v)::en)) H):TG P ops fp i (⟨Nn d,.pick x y z,ty,pos,af,Np⟩::l) K (ak en) H:=tN hf (M0.pickF (fS hc) hu _<|fS h) k
variable {cls:Nat->Xc} {lx:List Nat}
theorem xM (h0:ops[i]? = Nn ⟨Nn d,.move x,ty,pos,af,Np⟩) (h:opE en x=Nn v) (hc:cls i=(Nl,[])) (k:TX P ops cls lx K (ak ((d,v)::en)) H):TX P ops cls (i::lx) K (ak en) H:=xN h0 hc (M0.mv _<|fS h) k
theorem xAs (h0:ops[i]? = Nn ⟨Nn d,.assign x,ty,pos,af,Np⟩) (h:opE en x=Nn v) (hc:cls i=(Nl,[])) (k:TX P ops cls lx K (ak ((d,v)::en)) H):TX P ops cls (i::lx) K (ak en) H:=xN h0 hc (M0.asg _<|fS h) k
variable [Tab P]
theorem tN' (h:evN P (rho<|ak en) op=Nn (Np,v)) (hc:fp i=([],Nl)) (k:TG P ops fp (i+1) l K (ak ((d,v)::en)) H):TG P ops fp i (⟨Nn d,op,ty,pos,af,Np⟩::l) K (ak en) H:=tN hc (sK h trivial) k
theorem tG' (h:evN P (rho<|ak en) op=Nn (Nn c,v)) (hf:fp i=([],Nl)) (hc:c) (k:TG P ops fp (i+1) l K (ak ((d,v)::en)) H):TG P ops fp i (⟨Nn d,op,ty,pos,af,Np⟩::l) K (ak en) H:=tN hf (sK h hc) k
theorem tL' (h:evL P (rho<|ak en) H op=Nn (b,o8,ver,v)) (hv:o8=ver) (hf:fp i=([b],Nl)) (k:TG P ops fp (i+1) l K (ak ((d,v)::en)) H):TG P ops fp i (⟨Nn d,op,ty,pos,af,Np⟩::l) K (ak en) H:=tR [b] hf (λG hG=>Hd h hv G hG) k
theorem ME (hy:eH ops.toList (ak en) j = .v (.bool q)) (hq:q=w) (h:evN P (rho<|ak en) op=Nn (Np,v)) (hc:fp i=([],Nl)) (k:TG P ops fp (i+1) l K (ak ((d,v)::en)) H):TG P ops fp i (⟨Nn d,op,ty,pos,af,Nn (j,w)⟩::l) K (ak en) H:=tgN hy hq hc (sK h trivial) k
theorem LF (hy:eH ops.toList (ak en) j = .v (.bool q)) (hq:q=w) (h:evN P (rho<|ak en) op=Nn (Nn c,v)) (hf:fp i=([],Nl)) (hc:c) (k:TG P ops fp (i+1) l K (ak ((d,v)::en)) H):TG P ops fp i (⟨Nn d,op,ty,pos,af,Nn (j,w)⟩::l) K (ak en) H:=tgN hy hq hf (sK h hc) k
theorem xN' (h0:ops[i]? = Nn ⟨Nn d,op,ty,pos,af,Np⟩) (h:evN P (rho<|ak en) op=Nn (Np,v)) (hc:cls i=(Nl,[])) (k:TX P ops cls lx K (ak ((d,v)::en)) H):TX P ops cls (i::lx) K (ak en) H:=xN h0 hc (sK h trivial) k
theorem xG' (h0:ops[i]? = Nn ⟨Nn d,op,ty,pos,af,Np⟩) (h:evN P (rho<|ak en) op=Nn (Nn c,v)) (hf:cls i=(Nl,[])) (hc:c) (k:TX P ops cls lx K (ak ((d,v)::en)) H):TX P ops cls (i::lx) K (ak en) H:=xN h0 hf (sK h hc) k
end
theorem T.cl {P:Program} {nt b0:Nat} {Q:Exit->Env->AH->Prop} {en en':List (Nat×AV)} {H:AH} {x:Code} (l:List Nat) (h:IK en l=Nn en') (k:T P nt b0 x Q (ak en') H):T P nt b0 x Q (ak en) H:=k.weak<|El h
theorem T.drawP {P:Program} {nt b0:Nat} {Q:Exit->Env->AH->Prop} {e:Env} {H:AH} {i:Nat} {ops:Array Oper} (hm:P.follows .mixedOrders=Nk) (hc:KA ops (λ_=>([],Nl))=Nk) (h:TF P (λ_=>([],Nl)) 0 ops.toList (Q .normal) e H):T P nt b0 (.region i ops Nk) Q e H:=T.drawF _ hm hc h
def slq (P:Program) [Tab P] (t:TypeId):Option (TypeId×TI):=match tq P t with
 | some ⟨.slice e,_,_,_,_⟩=>(match tq P e with
  | some ⟨u,ag,n,zs,m⟩=>bif SE 0 n then Nn (e,⟨u,ag,n,zs,m⟩) else Np
  | none=>Np)
 | _=>Np
theorem Cr {P:Program} [Tab P] {t e:TypeId} {x:TI} (h:slq P t=Nn (e,x)):SlT P t e x.ag x.n x.zs x.m:=by
 unfold slq at h
 split at h
 ·rename_i hz
  split at h
  ·rename_i u ag n zs m hy
   cases hb:SE 0 n with
   | true=>
    rw [hb] at h;obtain ⟨rfl,rfl⟩:=Prod.mk.inj<|osl h;exact (kv hz).sl (kv hy) rfl hb
   | false=>rw [hb] at h;cases h
  cases h
 cases h
def LG (P:Program) [Tab P] (t:TypeId):Bool:=match tq P t with
 | some ⟨.slice _,_,_,_,_⟩=>Nk
 | some ⟨.string,_,_,_,_⟩=>Nk
 | _=>Nl
theorem Hg {P:Program} [Tab P] {t:TypeId} (h:LG P t=Nk):En P t=Nk:=by
 unfold LG at h
 split at h
 ·rename_i hz;simp only [En,(kv hz).u]
 ·rename_i hz;simp only [En,(kv hz).u]
 cases h
section
variable {P:Program} [Tab P] {nt b0:Nat} {Q:Exit->Env->AH->Prop} {H:AH} {x y:Operand} {ops:Array Oper} {l:List Oper} {d:Tmp} {op:Op} {ty:TypeId} {pos:String} {af:Array Edge} {en:List (Nat×AV)} {fp:Nat->Fp} {i:Nat} {K:Env->AH->Prop}
variable {t u e e':TypeId} {z:TI} {α:Type} [Inhabited α] {c:α->List AV} {k xs:List α} {g:Bool} {b ver n w j q:Nat} {v:α} {a:AV}
theorem eK (hq:slq P t=Nn (e,z)) (hx:((opE en x).bind AV.cells)=Nn (c v)) (k:TO P nt b0 ops l Q (ak ((d,eL c [v])::en)) H) (hc:∀ x,(c x).length=z.n) (hF:∀ x,(c x).all (isF 9)=Nk) (hn:SG z.n 16777216=Nk):TO P nt b0 ops (⟨Nn d,.buildSlice t 1 #[(0,x)],ty,pos,af,Np⟩::l) Q (ak en) H:=by
 obtain ⟨a,ha,hx⟩:=SL.1 hx;have hs:=Cr hq;exact oN (M0.mkF [v] [c v] hs (by simp [fS ha,hx,kG]) (by simp [hs.pos,hn]) rfl hc hF rfl) k
theorem fK (hq:slq P t=Nn (e,z)) (hx:((opE en x).bind AV.cells)=Nn (c v)) (hf:fp i=([],Nl)) (k:TF P fp (i+1) l K (ak ((d,eL c [v])::en)) H) (hc:∀ x,(c x).length=z.n) (hF:∀ x,(c x).all (isF 9)=Nk) (hn:SG z.n 16777216=Nk):TF P fp i (⟨Nn d,.buildSlice t 1 #[(0,x)],ty,pos,af,Np⟩::l) K (ak en) H:=by
 obtain ⟨a,ha,hx⟩:=SL.1 hx;have hs:=Cr hq;exact fN hf (M0.mkF [v] [c v] hs (by simp [fS ha,hx,kG]) (by simp [hs.pos,hn]) rfl hc hF rfl) k
theorem eP (hq:slq P t=Nn (e,z)) (hu:LG P u=Nk) (hx:opE en x=Nn (hS g b ver z.n n)) (hy:opE en y=Nn (eL c [v])) (hk:H[b]? = Nn (bE g ver z.n e<|xs.map c)) (hn:n=xs.length) (hg:g=Nk->xs=[]) (hc:∀ x,(c x).length=z.n) (hb:dS (xs.length+1) z.m=Nk)
  (k:TO P nt b0 ops l Q (ak ((d,hS Nl b (ver+1) z.n (xs++[v]).length)::en))<|H.set b<|bE Nl (ver+1) z.n e<|(xs++[v]).map c):TO P nt b0 ops (⟨Nn d,.call ⟨.builtin .append,#[x,y],#[t,u]⟩,ty,pos,af,Np⟩::l) Q (ak en) H:=
 oA (EvA.app1 v (Cr hq) (Hg hu) (fS hx) hn hk hg (dN.fz (l:=[v]) (fS hy) hc) hb) k
theorem eQ (hq:slq P t=Nn (e,z)) (hu:LG P u=Nk) (hx:opE en x=Nn (hS Nl b ver z.n n)) (hy:opE en y=Nn (eL c k)) (hk:H[b]? = Nn (bE Nl ver z.n e<|xs.map c)) (hn:n=xs.length) (hc:∀ x,(c x).length=z.n) (hb:dS (xs.length+k.length) z.m=Nk)
  (kk:TO P nt b0 ops l Q (ak ((d,hS Nl b (ver+1) z.n (xs++k).length)::en))<|H.set b<|bE Nl (ver+1) z.n e<|(xs++k).map c):TO P nt b0 ops (⟨Nn d,.call ⟨.builtin .append,#[x,y],#[t,u]⟩,ty,pos,af,Np⟩::l) Q (ak en) H:=
 oA (EvA.appF k (Cr hq) (Hg hu) (fS hx) hn hk (dN.fz (fS hy) hc) hb) kk
theorem eU (hq:slq P t=Nn (e,z)) (hx:opE en x=Nn (hS g b ver w n)) (hg:g=Nk->n=0) (k:TO P nt b0 ops l Q (ak ((d,I n)::en)) H):TO P nt b0 ops (⟨Nn d,.call ⟨.builtin .len,#[x],#[t]⟩,ty,pos,af,Np⟩::l) Q (ak en) H:=oN (M0.lenO (Cr hq) (fS hx) hg) k
theorem eW {s:Nat} {ag:Bool} {n:Nat} {uu:TypeDesc} {zs:List AV} {m:Nat} (hz:tq P t=Nn ⟨uu,ag,n,zs,m⟩) (hx:opE en x=Nn (.hp b ver s q j)) (hk:H[b]? = Nn (bE g ver s e'<|xs.map c)) (hg:g=Nk->xs=[]) (hi:q<xs.length) (hp:Co ag n (c<|xs.getD q Nj) j okV=Nn (Np,a)) (k:TO P nt b0 ops l Q (ak ((d,a)::en)) H):TO P nt b0 ops (⟨Nn d,.load t x,ty,pos,af,Np⟩::l) Q (ak en) H:=by
 obtain ⟨a',ha,h'⟩:=uz hp;obtain ⟨_,rfl⟩:=dM h';exact oA (EvA.ldO _ (kv hz).ty (fS hx) hk hg hi ha) k
theorem fW' {s:Nat} {ag:Bool} {n:Nat} {uu:TypeDesc} {zs:List AV} {m:Nat} (hz:tq P t=Nn ⟨uu,ag,n,zs,m⟩) (hx:opE en x=Nn (.hp b ver s q j)) (hk:H[b]? = Nn (bE g ver s e'<|xs.map c)) (hf:fp i=([b],Nl)) (hg:g=Nk->xs=[]) (hi:q<xs.length) (hp:Co ag n (c<|xs.getD q Nj) j okV=Nn (Np,a)) (k:TF P fp (i+1) l K (ak ((d,a)::en)) H):TF P fp i (⟨Nn d,.load t x,ty,pos,af,Np⟩::l) K (ak en) H:=by
 obtain ⟨a',ha,h'⟩:=uz hp;obtain ⟨_,rfl⟩:=dM h';exact fR [b] hf (λG hG=>EvA.ldO _ (kv hz).ty (fS hx) (hG.a0 hk) hg hi ha) k
end
attribute [local irreducible] T TO TF TG TX M0 EvA
theorem go {P Q:Prop} {α:Type} {x:Option α} {r:α} (h:x=some r) (k:Q) (c:x=some r->Q->P:=by
 intro h k;have f:=True.intro
 repeat first
  | refine eM rfl ?_
  | refine fM rfl rfl ?_
  | refine eN rfl ?_
  | refine eR rfl ?_
  | refine fA rfl rfl ?_
  | refine fN' rfl rfl ?_
  | refine T.sr ?_
  | refine TO.nil ?_
  | ((first | refine jD h ?_ | refine jW h ?_);clear h;intro g h;(first | refine eG rfl g ?_ | refine fG' rfl rfl g ?_ | refine hG rfl (by first | assumption | rfl) rfl g ?_ | refine xG' rfl rfl rfl g ?_ | refine tG' rfl rfl g ?_ | refine LF rfl (by first | assumption | rfl) rfl rfl g ?_);replace f:=And.intro g f)
  | refine eG rfl (by first | assumption | decide) ?_
  | refine fG' rfl rfl (by first | assumption | decide) ?_
  | refine eA rfl ?_
  | refine eS rfl rfl rfl ?_
  | refine eL_ rfl rfl ?_
  | refine fL' rfl rfl rfl ?_
  | refine fS' rfl rfl rfl rfl ?_
  | (refine jL h ?_;clear h;intro g h;(first | refine eP rfl rfl rfl rfl rfl rfl (by first | assumption | exact λ_=>rfl | exact λx=>Bool.noConfusion x | exact λx=>List.eq_nil_of_length_eq_zero<|by simp_all) (λ_=>rfl) g ?_ | refine eQ rfl rfl rfl rfl rfl rfl (λ_=>rfl) g ?_);replace f:=And.intro g f)
  | refine eU rfl rfl (by first | exact wT (by assumption) rfl | exact λx=>Bool.noConfusion x | assumption) ?_
  | refine eW rfl rfl rfl (by first | assumption | exact λ_=>rfl | exact λx=>Bool.noConfusion x | exact λx=>List.eq_nil_of_length_eq_zero<|by simp_all) (bH rfl<|by assumption) rfl ?_
  | refine fW' rfl rfl rfl rfl (by first | assumption | exact λ_=>rfl | exact λx=>Bool.noConfusion x | exact λx=>List.eq_nil_of_length_eq_zero<|by simp_all) (bH rfl<|by assumption) rfl ?_
  | refine hM rfl (by first | assumption | rfl) rfl ?_
  | refine hR rfl (by first | assumption | rfl) rfl ?_
  | refine hN rfl (by first | assumption | rfl) rfl ?_
  | refine hG rfl (by first | assumption | rfl) rfl (by first | assumption | decide) ?_
  | refine gS rfl (by first | assumption | rfl) ?_
  | refine gU rfl ?_
  | refine xM rfl rfl rfl ?_
  | refine xAs rfl rfl rfl ?_
  | refine xN' rfl rfl rfl ?_
  | refine xG' rfl rfl rfl (by first | assumption | decide) ?_
  | refine tM rfl rfl ?_
  | refine tA rfl rfl ?_
  | refine tN' rfl rfl ?_
  | refine tG' rfl rfl (by first | assumption | decide) ?_
  | refine tL' rfl rfl rfl ?_
  | refine tgM rfl (by first | assumption | rfl) rfl rfl ?_
  | refine ME rfl (by first | assumption | rfl) rfl rfl ?_
  | refine LF rfl (by first | assumption | rfl) rfl rfl (by first | assumption | decide) ?_
  | refine tgS rfl (by first | assumption | rfl) ?_
  | refine tgU rfl ?_
  | refine T.skip ?_
  | refine T.block ?_
  | refine T.region ?_
  | refine T.ret ?_
  | refine TF.nil ?_
  | refine TG.nil ?_
  | refine TX.nil ?_
  | ((first | refine jD h ?_ | refine jW h ?_);clear h;intro g h;(first | refine eG rfl (And.intro (by first | assumption | decide) g) ?_ | refine fG' rfl rfl (And.intro (by first | assumption | decide) g) ?_);replace f:=And.intro g f)
  | ((first | refine jD h ?_ | refine jW h ?_);clear h;intro g h;(first | refine jD h ?_ | refine jW h ?_);clear h;intro g' h;(first | refine eG rfl (And.intro g g') ?_ | refine fG' rfl rfl (And.intro g g') ?_);replace f:=And.intro g'<|And.intro g f)
 revert h
 revert f
 exact k):P:=c h k
theorem gs {P Q:Prop} {α:Type} {x:Option α} {r:α} (h:x=some r) (k:Q) (c:x=some r->Q->P:=by
 intro h k;refine T.seq ?_;refine go h λf h=>?_
 revert h
 revert f
 exact k):P:=c h k
theorem gz {P:Prop} {α:Type} {x:Option α} {r:α} (h:x=some r) (c:x=some r->P:=by
 intro h;refine go h λf h=>?_;obtain rfl:=M4 h;exact HQ rfl rfl rfl):P:=c h
theorem gi {P Q R:Prop} {α:Type} {x:Option α} {r:α} (h:x=some r) (k:Q) (l:R) (c:x=some r->Q->R->P:=by
 intro h k l;refine go h λf h=>?_;refine T.ifH rfl h (λq h=>?_) λq h=>?_
 ·revert q h;revert f;exact k
 revert q h;revert f;exact l):P:=c h k l
theorem Ng {P Q R:Prop} {α:Type} {x:Option α} {r:α} (h:x=some r) (k:Q) (l:R) (c:x=some r->Q->R->P:=by
 intro h k l;refine T.seq ?_;refine go h λf h=>?_;refine T.ifH rfl h (λq h=>?_) λq h=>?_
 ·revert q h;revert f;exact k
 revert q h;revert f;exact l):P:=c h k l
theorem gp {P Q:Prop} {α:Type} {x:Option α} {r:α} (h:x=some r) (k:Q) (c:x=some r->Q->P:=by
 intro h k;refine go h λf h=>?_
 first | refine hPT rfl (by first | assumption | rfl) rfl ?_ | refine hPF rfl (by first | assumption | rfl) rfl ?_ | refine tPT rfl (by first | assumption | rfl) rfl rfl ?_ | refine tPF rfl (by first | assumption | rfl) rfl rfl ?_
 revert h
 revert f
 exact k):P:=c h k
theorem gj {P J:Prop} {α:Type} {x:Option α} {r:α} (h:x=some r) (j:J) (c:x=some r->J->P:=by
 intro h j;refine gp h λf h=>?_;obtain rfl:=M4 h;exact j _ _ (kw rfl rfl)):P:=c h j
theorem stc {m:Nat} {H:AH} {en l:List (Nat×AV)} {t:Nat} {v a:AV} (hv:Cq en t=Nn v) (h:Stl m H v a) (w:∀ q,Stl m H (ak en q)<|ak l q):∀ q,Stl m H (ak en q) (ak ((t,a)::l) q):=aj ((uA hv).symm ▸ h) w
theorem stS {m:Nat} {H:AH} {g:Bool} {b ver s n:Nat} {a:AV} (ha:a=hS g b ver s n) (hb:SE b m=Nk):Stl m H a (hS g b ver s n) := .eqv ha<|.hS hb
theorem Nh {p:Prop} (c:p:=by
  first
    | exact kw rfl rfl
    | (refine qZ rfl ?_ ?_
       · repeat' first
           | exact .nil
           | refine .cons ?_ ?_
           | exact .list (λ_=>rfl)
           | exact .mp (λ_=>rfl)
           | refine .row ?_
           | exact .fz .nil0
           | exact .fz (.of_isF 9 _ rfl)
           | exact stS rfl rfl
           | exact .mp (nlb rfl)
           | exact .hs (nlb rfl)
           | exact .hp (nlb rfl)
           | exact .fz (Fz.own rfl rfl rfl (by first | assumption | exact λ_=>rfl | exact λx=>Bool.noConfusion x | exact λx=>List.eq_nil_of_length_eq_zero<|by simp_all) λ_=>rfl)
       repeat' first
         | exact bg
         | refine stc rfl ?_ ?_
         | exact .fz .nil0
         | exact .fz (.of_isF 9 _ rfl)
         | exact stS rfl rfl
         | exact .mp (nlb rfl)
         | exact .hs (nlb rfl)
         | exact .hp (nlb rfl)
         | exact .fz (Fz.own rfl rfl rfl (by first | assumption | exact λ_=>rfl | exact λx=>Bool.noConfusion x | exact λx=>List.eq_nil_of_length_eq_zero<|by simp_all) λ_=>rfl)
         | refine .fz (Fz.fpL rfl rfl rfl ?_)
         | exact .nil
         | refine .cons ?_ ?_
         | exact .of_isF 9 _ rfl)):p:=c
section
variable {P:Program} {nt b0:Nat} {Q:Exit->Env->AH->Prop} {e:Env} {H:AH} {S E G W:Type} {body x y:Code} {r:E} {step:S->Option (S ⊕ E)} {s0:S} {w:W} {A:Option S} {K:S->Option W}
theorem tL (h:aV step s0=Nn r) (g0:G) (inv:S->G->Prop) (slots:S->G->List (Nat×AV)) (heap:S->G->AH) (hi:inv s0 g0)
 (round:∀ s g z,step s=Nn z->inv s g->T P nt b0 body (DF (CI b0 inv slots heap z)<|Leave Q r z) (ak<|slots s g) (heap s g)) (hs:dW b0 e H (ak<|slots s0 g0) (heap s0 g0):=by exact Nh):T P nt b0 (.loop body) Q e H:=T.loop step inv slots heap g0 h hi hs round
theorem tT (h:aV step s0=Nn r) (g0:G) (slots:S->G->List (Nat×AV)) (heap:S->G->AH)
 (round:∀ s g z,step s=Nn z->T P nt b0 body (DF (CI b0 (λ_ _=>True) slots heap z)<|Leave Q r z) (ak<|slots s g) (heap s g)) (hs:dW b0 e H (ak<|slots s0 g0) (heap s0 g0):=by exact Nh):T P nt b0 (.loop body) Q e H:=T.loop step (λ_ _=>True) slots heap g0 h trivial hs λs g z hz _=>round s g z hz
theorem tU (h:aV step s0=Nn r) (slots:S->List (Nat×AV)) (heap:S->AH)
 (round:∀ s z,step s=Nn z->T P nt b0 body (DF (CI b0 (λ_ (_:Unit)=>True) (λs _=>slots s) (λs _=>heap s) z)<|Leave Q r z) (ak<|slots s) (heap s)) (hs:dW b0 e H (ak<|slots s0) (heap s0):=by exact Nh):T P nt b0 (.loop body) Q e H:=T.lU h slots heap hs round
theorem tJ (h:A.bind K=Nn w) (slots:S->G->List (Nat×AV)) (heap:S->G->AH)
 (J:∀ s g,K s=Nn w->T P nt b0 y Q (ak<|slots s g) (heap s g)) (k:∀ s,A=Nn s->T P nt b0 x (DF (Ly b0 (λ_=>True) (slots s)<|heap s) Q) e H):T P nt b0 (.seq x y) Q e H:=T.jF h (λ_ _=>True) slots heap (λs g h _=>J s g h) k
end
def J6 (P:Program) [Tab P] (en:List<|Nat×AV) (H:AH):List ResultVar->Option (List AV)
 | []=>Nn []
 | .tmp t::l=>(match Cq en t,J6 P en H l with
  | some v,Nn r=>Nn (v::r)
  | _,_=>Np)
 | .cell ad t::l=>(match tq P t,Cq en ad,J6 P en H l with
  | some ⟨_,ag,n,_,_⟩,Nn (.hp b ver s i j),Nn r=>(match H[b]? with
   | some (Nn ⟨o8,s',_,rows⟩)=>bif SD o8 ver&&SD s' s then (match rows[i]? with
    | some row=>(match Co ag n row j okV with
     | some (Np,a)=>Nn (a::r)
     | _=>Np)
    | none=>Np) else Np
   | _=>Np)
  | _,_,_=>Np)
theorem Bp {P:Program} [Tab P] {en:List (Nat×AV)} {H:AH}:∀ {l:List ResultVar} {vs:List AV},J6 P en H l=Nn vs->ResL P (ak en) H l vs
 | [],vs,h=>by
  obtain rfl:=osl h;exact .nil
 | .tmp t::l,vs,h=>by
  unfold J6 at h
  split at h
  ·rename_i v r hv hr;obtain rfl:=osl h;exact .cons (.tmp<|uA hv)<|Bp hr
  cases h
 | .cell ad t::l,vs,h=>by
  unfold J6 at h
  split at h
  ·rename_i b ver s i j r hz hv hr
   split at h
   ·rename_i o8 s' _ rows hk
    cases hb:(SD o8 ver&&SD s' s) with
    | true=>
     rw [hb] at h;simp only [cond_true] at h
     split at h
     ·rename_i row hrow
      split at h
      ·rename_i a ha;obtain ⟨a',ha',h'⟩:=uz ha;obtain ⟨_,rfl⟩:=dM h';obtain rfl:=osl h;rw [bae] at hb;exact .cons (.cell _ (kv hz).ty (uA hv) hk (SF hb.1) (SF hb.2) hrow ha')<|Bp hr
      cases h
     cases h
    | false=>rw [hb] at h;cases h
   cases h
  cases h
theorem MU {P:Program} [Tab P] {fn:Func} {R:AV->AH->Prop} {en:List (Nat×AV)} {G:AH} {vs:List AV} (h:J6 P en G fn.results.toList=Nn vs) (k:R (Kb vs) G):Fin P fn R .ret (ak en) G := .ret (Bp h) k
theorem MV {P:Program} [Tab P] {fn:Func} {R:AV->AH->Prop} {en:List (Nat×AV)} {G:AH} {vs:List AV} (h:J6 P en G fn.results.toList=Nn vs) (k:R (Kb vs) G):Fin P fn R .normal (ak en) G := .normal (Bp h) k
theorem gf {P:Prop} {α:Type} {x:Option α} {r:α} (h:x=some r) (c:x=some r->P:=by
 intro h;refine go h λf h=>?_;obtain rfl:=M4 h
 repeat first | refine lD ?_ | refine lF ?_
 first | refine MU rfl ?_ | refine MV rfl ?_
 repeat' first
   | exact .of_isF 9 _ rfl
   | exact .nil
   | exact .nil0
   | refine .cons ?_ ?_
   | exact Fz.own rfl rfl (by first | rfl | simp) (by first | assumption | exact λ_=>rfl | exact λx=>Bool.noConfusion x | exact λx=>List.eq_nil_of_length_eq_zero<|by simp_all) (λ_=>rfl)
   | refine .ifc ?_
   | refine .tupL ?_
   | refine .aggL ?_
   | refine Fz.fpL rfl rfl rfl ?_):P:=c h
theorem gk {P Q:Prop} {α:Type} {x:Option α} {r:α} (h:x=some r) (k:Q) (c:x=some r->Q->P:=by
 intro h k;refine go h λf h=>?_
 first
  | refine eK (c:=cI) rfl rfl ?_ (λ_=>rfl) (λ_=>rfl) rfl
  | refine eK (c:=cY) rfl rfl ?_ (λ_=>rfl) (λ_=>rfl) rfl
  | refine eK (c:=cS) rfl rfl ?_ (λ_=>rfl) (λ_=>rfl) rfl
  | refine eK (c:=cB) rfl rfl ?_ (λ_=>rfl) (λ_=>rfl) rfl
  | refine eK (c:=cL _) rfl rfl ?_ (λ_=>rfl) (λ_=>rfl) rfl
  | refine eK rfl rfl ?_ (λ_=>rfl) (λ_=>rfl) rfl
  | refine fK (c:=cI) rfl rfl rfl ?_ (λ_=>rfl) (λ_=>rfl) rfl
  | refine fK (c:=cY) rfl rfl rfl ?_ (λ_=>rfl) (λ_=>rfl) rfl
  | refine fK (c:=cS) rfl rfl rfl ?_ (λ_=>rfl) (λ_=>rfl) rfl
  | refine fK (c:=cB) rfl rfl rfl ?_ (λ_=>rfl) (λ_=>rfl) rfl
  | refine fK (c:=cL _) rfl rfl rfl ?_ (λ_=>rfl) (λ_=>rfl) rfl
  | refine fK rfl rfl rfl ?_ (λ_=>rfl) (λ_=>rfl) rfl
 refine go h λf' h=>?_
 revert h
 revert f'
 revert f
 exact k):P:=c h k
theorem gq {P Q:Prop} {α:Type} {x:Option α} {r:α} (h:x=some r) (k:Q) (c:x=some r->Q->P:=by
 intro h k;have f:=True.intro
 repeat first
  | refine eM rfl ?_
  | refine fM rfl rfl ?_
  | refine eN rfl ?_
  | refine eR rfl ?_
  | refine fA rfl rfl ?_
  | refine fN' rfl rfl ?_
  | refine TO.nil ?_
  | ((first | refine jD h ?_ | refine jW h ?_);clear h;intro g h;(first | refine eG rfl g ?_ | refine fG' rfl rfl g ?_ | refine hG rfl (by first | assumption | rfl) rfl g ?_ | refine xG' rfl rfl rfl g ?_ | refine tG' rfl rfl g ?_ | refine LF rfl (by first | assumption | rfl) rfl rfl g ?_);replace f:=And.intro g f)
  | refine eG rfl (by first | assumption | decide) ?_
  | refine fG' rfl rfl (by first | assumption | decide) ?_
  | refine eA rfl ?_
  | refine eS rfl rfl rfl ?_
  | refine eL_ rfl rfl ?_
  | refine fL' rfl rfl rfl ?_
  | refine fS' rfl rfl rfl rfl ?_
  | (refine jL h ?_;clear h;intro g h;(first | refine eP rfl rfl rfl rfl rfl rfl (by first | assumption | exact λ_=>rfl | exact λx=>Bool.noConfusion x | exact λx=>List.eq_nil_of_length_eq_zero<|by simp_all) (λ_=>rfl) g ?_ | refine eQ rfl rfl rfl rfl rfl rfl (λ_=>rfl) g ?_);replace f:=And.intro g f)
  | refine eU rfl rfl (by first | exact wT (by assumption) rfl | exact λx=>Bool.noConfusion x | assumption) ?_
  | refine eW rfl rfl rfl (by first | assumption | exact λ_=>rfl | exact λx=>Bool.noConfusion x | exact λx=>List.eq_nil_of_length_eq_zero<|by simp_all) (bH rfl<|by assumption) rfl ?_
  | refine fW' rfl rfl rfl rfl (by first | assumption | exact λ_=>rfl | exact λx=>Bool.noConfusion x | exact λx=>List.eq_nil_of_length_eq_zero<|by simp_all) (bH rfl<|by assumption) rfl ?_
  | refine hM rfl (by first | assumption | rfl) rfl ?_
  | refine hR rfl (by first | assumption | rfl) rfl ?_
  | refine hN rfl (by first | assumption | rfl) rfl ?_
  | refine hG rfl (by first | assumption | rfl) rfl (by first | assumption | decide) ?_
  | refine gS rfl (by first | assumption | rfl) ?_
  | refine gU rfl ?_
  | refine xM rfl rfl rfl ?_
  | refine xAs rfl rfl rfl ?_
  | refine xN' rfl rfl rfl ?_
  | refine xG' rfl rfl rfl (by first | assumption | decide) ?_
  | refine tM rfl rfl ?_
  | refine tA rfl rfl ?_
  | refine tN' rfl rfl ?_
  | refine tG' rfl rfl (by first | assumption | decide) ?_
  | refine tL' rfl rfl rfl ?_
  | refine tgM rfl (by first | assumption | rfl) rfl rfl ?_
  | refine ME rfl (by first | assumption | rfl) rfl rfl ?_
  | refine LF rfl (by first | assumption | rfl) rfl rfl (by first | assumption | decide) ?_
  | refine tgS rfl (by first | assumption | rfl) ?_
  | refine tgU rfl ?_
  | refine TF.nil ?_
  | refine TG.nil ?_
  | refine TX.nil ?_
  | ((first | refine jD h ?_ | refine jW h ?_);clear h;intro g h;(first | refine eG rfl (And.intro (by first | assumption | decide) g) ?_ | refine fG' rfl rfl (And.intro (by first | assumption | decide) g) ?_);replace f:=And.intro g f)
  | ((first | refine jD h ?_ | refine jW h ?_);clear h;intro g h;(first | refine jD h ?_ | refine jW h ?_);clear h;intro g' h;(first | refine eG rfl (And.intro g g') ?_ | refine fG' rfl rfl (And.intro g g') ?_);replace f:=And.intro g'<|And.intro g f)
 revert h
 revert f
 exact k):P:=c h k
noncomputable instance:Tab Nr:=⟨[.m Tryz.underlying2 Nl 1 [I (0:Int)] 8,.m Tryz.underlying3 Nl 1 [I (0:Int)] 8,.m Tryz.underlying4 Nl 1 [Bo Nl] 1,.m Tryz.underlying5 Nl 1 [Y (0:Int)] 1,.m Tryz.underlying6 Nl 1 [Y (0:Int)] 1,.m Tryz.underlying9 Nl 1 [St (⟨#[]⟩:BA)] 16,.m Tryz.underlying12 Nl 1 [.v (.int .u64 (0:Int))] 8,.m Tryz.underlying21 Nl 1 [.v (.int .i32 (0:Int))] 4,.m Tryz.underlying22 Nl 1 [.nil] 24,.m Tryz.underlying23 Nl 1 [.nil] 24,.m Tryz.underlying24 Nl 1 [.nil] 24,.m Tryz.underlying25 Nl 1 [.nil] 24,.m Tryz.underlying27 Nk 2 [.nil,.nil] 48,.m Tryz.underlying34 Nl 1 [.nil] 24,.m Tryz.underlying51 Nl 1 [.nil] 24,.m Tryz.underlying52 Nl 1 [.nil] 24,.m Tryz.underlying57 Nl 1 [.nil] 24,.m Tryz.underlying60 Nk 5 [I (0:Int),I (0:Int),I (0:Int),Bo Nl,Bo Nl] 32,.m Tryz.underlying73 Nl 1 [.nil] 24,.m Tryz.underlying79 Nk 4 [I (0:Int),I (0:Int),I (0:Int),I (0:Int)] 32,.m Tryz.underlying91 Nl 1 [.v (.map Np)] 8,.m Tryz.underlying93 Nk 6 [.nil,.nil,.nil,.nil,.nil,.v (.map Np)] 128,.m Tryz.underlying95 Nk 3 [I (0:Int),I (0:Int),I (0:Int)] 24,.m Tryz.underlying108 Nl 1 [.v (.int .u64 (0:Int))] 8,.m Tryz.underlying114 Nl 1 [.nil] 24,.m Tryz.underlying116 Nk 3 [I (0:Int),St (⟨#[]⟩:BA),.nil] 48,.m Tryz.underlying120 Nk 4 [I (0:Int),I (0:Int),St (⟨#[]⟩:BA),.nil] 56,.m Tryz.underlying138 Nl 1 [.nil] 24,.m Tryz.underlying140 Nk 6 [.nil,.nil,.nil,.nil,.nil,.nil] 144,.m Tryz.underlying151 Nl 1 [.nil] 24,.m Tryz.underlying157 Nk 2 [.nil,I (0:Int)] 32,.m Tryz.underlying162 Nl 1 [I (0:Int)] 8,.m Tryz.underlying168 Nl 1 [.v (.int .u32 (0:Int))] 4,.m Tryz.underlying170 Nl 1 [.v (.int .u64 (0:Int))] 8,.m Tryz.underlying174 Nk 2 [St (⟨#[]⟩:BA),Bo Nl] 24,.m Tryz.underlying184 Nk 3 [Y (0:Int),Y (0:Int),Y (0:Int)] 3,.m Tryz.underlying185 Nk 9 [Y (0:Int),Y (0:Int),Y (0:Int),Y (0:Int),Y (0:Int),Y (0:Int),Y (0:Int),Y (0:Int),Y (0:Int)] 9,.m Tryz.underlying187 Nk 16 [.nil,Y (0:Int),Y (0:Int),Y (0:Int),Y (0:Int),Y (0:Int),Y (0:Int),Y (0:Int),Y (0:Int),Y (0:Int),Y (0:Int),Y (0:Int),Y (0:Int),Y (0:Int),Y (0:Int),Y (0:Int)] 40,.m Tryz.underlying189 Nk 16 [.nil,Y (0:Int),Y (0:Int),Y (0:Int),Y (0:Int),Y (0:Int),Y (0:Int),Y (0:Int),Y (0:Int),Y (0:Int),Y (0:Int),Y (0:Int),Y (0:Int),Y (0:Int),Y (0:Int),Y (0:Int)] 40,.m Tryz.underlying216 Nl 1 [.v (.int .u64 (0:Int))] 8,.m Tryz.underlying277 Nk 2 [Y (0:Int),Y (0:Int)] 2,.m Tryz.underlying288 Nl 1 [Y (0:Int)] 1,.m Tryz.underlying289 Nl 1 [Y (0:Int)] 1,.m Tryz.underlying291 Nl 1 [.v (.int .i32 (0:Int))] 4,.m Tryz.underlying292 Nl 1 [.v (.int .i32 (0:Int))] 4,.m Tryz.underlying15 Nl 1 [.v (.pointer Np)] 8,.m Tryz.underlying16 Nl 1 [.v (.pointer Np)] 8,.m Tryz.underlying17 Nl 1 [.v (.pointer Np)] 8,.m Tryz.underlying84 Nl 1 [.v (.pointer Np)] 8,.m Tryz.underlying89 Nl 1 [.v (.pointer Np)] 8,.m Tryz.underlying137 Nl 1 [.v (.pointer Np)] 8,.m Tryz.underlying172 Nl 1 [.v (.pointer Np)] 8,.m Tryz.underlying183 Nl 1 [.v (.pointer Np)] 8,.m Tryz.underlying196 Nl 1 [.v (.pointer Np)] 8,.m Tryz.underlying220 Nl 1 [.v (.pointer Np)] 8,.m Tryz.underlying242 Nl 1 [.v (.pointer Np)] 8,.m Tryz.underlying247 Nl 1 [.v (.pointer Np)] 8,.m Tryz.underlying298 Nl 1 [.v (.pointer Np)] 8]⟩
theorem pOf {P:Program} {g:FuncId} {Ni:List AV} {w:Nat} {ty:TypeId} {α:Type} [Inhabited α] {f:α->List AV} {l:List α} (h:bP P g Ni []<|CP w ty (λx=>x) l.length (l.map f) 0 []) (hF:∀ x,(f x).all (isF 9)=Nk):aD P g Ni (eL f l):=
 aD.of ⟨h.1,λc vs hH hr ha=>(h.2 c vs hH hr ha).mono λ_ _ ⟨v,c',r0,e,hw,⟨_,_,hg,h2,h3⟩,i,x,u⟩=>⟨v,c',r0,e,hw,by rw [h2,h3];exact Fz.own rfl rfl rfl (λk=>List.length_eq_zero_iff.1<|hg k) hF,i,x,u⟩⟩
theorem uE (x:M5) {q} (h:iO x=Nn q):aD Nr 80 [.agg (M5.c x)] (Bo q):=by
 refine pM func80 Z (by kernel_rfl) Z<|go h λ_ h=>?_;refine eF Z Z Z<|go h λ_ h=>?_;refine TO.jB h 4 (λs1=>[(10,Bo s1)]) (λs1=>[]) (λs1 q2 h js1=>?_) (λs1 q2 h js1=>?_) λs1 h=>?_
 ·exact gj h js1
 ·exact gj h js1
 exact gz h
theorem tZ (x:M5) {q} (h:gZ x=Nn q):aD Nr 81 [.agg (M5.c x)] (Bo q):=by
 refine pM func81 Z (by kernel_rfl) Z<|go h λ_ h=>?_;refine eF Z Z Z<|go h λ_ h=>?_;refine TO.jB h 4 (λs1=>[(10,Bo s1),(1,.fp (M5.c x) 0)]) (λs1=>[]) (λs1 q2 h js1=>?_) (λs1 q2 h js1=>?_) λs1 h=>?_
 ·exact gj h js1
 ·exact gj h js1
 refine go h λ_ h=>?_;refine TO.jB h 4 (λs3=>[(15,Bo s3)]) (λs3=>[]) (λs3 q4 h js3=>?_) (λs3 q4 h js3=>?_) λs3 h=>?_
 ·exact gj h js3
 ·exact gj h js3
 exact gz h
theorem p9 (p:List<|List M5) {q} (h:jm p=Nn q):aD Nr 30 [eL (cL M5.c) p] (eL M7.c q):=by
 refine pM func30 Z (by kernel_rfl) Z<|jI ?_;refine gq h λ_ h=>?_;refine jH<|T.reserve ?_;refine go h λ_ h=>?_;refine T.jF (G:=(Bool×Nat)) h (λs1 gh=>(gh.1=Nk->s1=[])) (λs1 gh=>[(3,hS gh.1 0 gh.2 5 s1.length),(0,eL (cL M5.c) p)]) (λs1 gh=>[bE gh.1 gh.2 5 60 (s1.map M7.c)]) (λs1 gh h n17=>?_) λs1 h=>?_
 ·obtain ⟨b16,u15⟩:=gh;refine T.jF (G:=(Bool×Nat)) h (λs18 gh=>(gh.1=Nk->s18=[])) (λs18 gh=>[(3,hS gh.1 0 gh.2 5 s18.length)]) (λs18 gh=>[bE gh.1 gh.2 5 60 (s18.map M7.c)]) (λs18 gh h n59=>?_) λs18 h=>?_
  ·obtain ⟨b58,u57⟩:=gh;exact gf h
  refine go h λ_ h=>?_;refine tL h (b16,u15) (λs24 gh=>(gh.1=Nk->s24.1=[])) (λs24 gh=>[(21,I s24.2),(20,I (p.length:Int)),(19,eL (cL M5.c) p),(3,hS gh.1 0 gh.2 5 s24.1.length)]) (λs24 gh=>[bE gh.1 gh.2 5 60 (s24.1.map M7.c)]) n17 λs24 gh ws24 h n28=>?_;obtain ⟨b27,u26⟩:=gh;refine go h λ_ h=>?_;refine jH ?_;refine jN Z h (λq29 h=>?_) λq29 h=>?_
  ·refine go h λ_ h=>?_;refine T.jF (G:=(Bool×Nat)) h (λs30 gh=>(gh.1=Nk->s30=[])) (λs30 gh=>[(21,I s24.2),(20,I (p.length:Int)),(19,eL (cL M5.c) p),(3,hS gh.1 0 gh.2 5 s30.length)]) (λs30 gh=>[bE gh.1 gh.2 5 60 (s30.map M7.c)]) (λs30 gh h n55=>?_) λs30 h=>?_
   ·obtain ⟨b54,u53⟩:=gh;refine go h λ_ h=>?_;obtain rfl:=M4 h;exact ⟨(s30,(s24.2+V)),(b54,u53),Z,n55,Nh⟩
   refine go h λ_ h=>?_;refine tL h (b27,u26) (λs37 gh=>(gh.1=Nk->s37.1=[])) (λs37 gh=>[(28,I s37.2),(27,I ((J p s24.2).length:Int)),(26,eL M5.c<|J p s24.2),(5,I s24.2),(21,I s24.2),(20,I (p.length:Int)),(19,eL (cL M5.c) p),(3,hS gh.1 0 gh.2 5 s37.1.length)]) (λs37 gh=>[bE gh.1 gh.2 5 60 (s37.1.map M7.c)]) n28 λs37 gh ws37 h n41=>?_;obtain ⟨b40,u39⟩:=gh;refine go h λ_ h=>?_;refine jH ?_;refine jN Z h (λq42 h=>?_) λq42 h=>?_
   ·refine go h λ_ h=>?_;refine T.jF (G:=(Bool×Nat)) h (λs43 gh=>(gh.1=Nk->s43=[])) (λs43 gh=>[(3,hS gh.1 0 gh.2 5 s43.length),(28,I s37.2),(27,I ((J p s24.2).length:Int)),(26,eL M5.c<|J p s24.2),(5,I s24.2),(21,I s24.2),(20,I (p.length:Int)),(19,eL (cL M5.c) p)]) (λs43 gh=>[bE gh.1 gh.2 5 60 (s43.map M7.c)]) (λs43 gh h n51=>?_) λs43 h=>?_
    ·obtain ⟨b50,u49⟩:=gh;refine go h λ_ h=>?_;obtain rfl:=M4 h;exact ⟨(s43,(s37.2+V)),(b50,u49),Z,n51,Nh⟩
    refine gi h (λ_ q45 h=>?_) λ_ q45 h=>?_
    ·refine jP (dG [dF,dF,dF,dF,([1],Nl),([1],Nl),dF,([1],Nl),dF,dF,dF,([0],Nk),dF]) (by kernel_rfl) (by kernel_rfl)<|go h λ_ h=>?_;refine fC h (λ_=>uE _) Z Z Z Z Z λv46 _ h=>(go h λ_ h=>?_);refine fC h (λ_=>tZ _) Z Z Z Z Z λv47 _ h=>(go h λ_ h=>?_);refine fN Z (M0.mkF (c:=M7.c) ([(⟨s24.2,s37.2,(J (J p s24.2) s37.2).Loc,v46,v47⟩:M7)]:List M7) [[I s24.2,I s37.2,I ((J (J p s24.2) s37.2).Loc),Bo v46,Bo v47]] LC Z Z Z qD M7.isF Z)<|jL h λg48 h=>fW 0 [] Z Z (λG hG=>EvA.app1 (g:=b40) (l:=s37.1) (⟨s24.2,s37.2,(J (J p s24.2) s37.2).Loc,v46,v47⟩:M7) LC (by kernel_rfl) Z Z (hG.a0 Z) n41 (dN.fz (l:=([(⟨s24.2,s37.2,(J (J p s24.2) s37.2).Loc,v46,v47⟩:M7)]:List M7)) Z qD) g48) ?_;refine go h λ_ h=>?_
     cases h
     exact ⟨(Nl,u39+1),nofun,Nh⟩
    refine go h λ_ h=>?_
    cases h
    exact ⟨(b40,u39),n41,Nh⟩
   refine jM<|lX h λh=>?_
   cases h
   exact ⟨(b40,u39),n41,Nh⟩
  refine jM<|lX h λh=>?_
  cases h
  exact ⟨(b27,u26),n28,Nh⟩
 refine go h λ_ h=>?_;refine tL h (Nk,0) (λs7 gh=>(gh.1=Nk->s7.1=[])) (λs7 gh=>[(9,I s7.2),(3,hS gh.1 0 gh.2 5 s7.1.length),(0,eL (cL M5.c) p)]) (λs7 gh=>[bE gh.1 gh.2 5 60 (s7.1.map M7.c)]) qD λs7 gh ws7 h n11=>?_;obtain ⟨b10,u9⟩:=gh;refine go h λ_ h=>?_;refine jH ?_;refine jN Z h (λq12 h=>?_) λq12 h=>?_
 ·refine go h λ_ h=>?_;refine gs h λ_ h=>?_;refine oN (M0.mkF (c:=M7.c) ([(⟨(-1:Int),s7.2,s7.2,Nl,Nk⟩:M7)]:List M7) [[I (-1:Int),I s7.2,I s7.2,Bo Nl,Bo Nk]] LC Z Z Z qD M7.isF Z)<|go h λ_ h=>?_;obtain rfl:=M4 h;exact ⟨((s7.1++[(⟨(-1:Int),s7.2,s7.2,Nl,Nk⟩:M7)]),(s7.2+V)),(Nl,u9+1),Z,nofun,Nh⟩
 refine jM<|lX h λh=>?_
 cases h
 exact ⟨(b10,u9),n11,Nh⟩
theorem qd (list:List M7) (loc:Int) {q} (h:fg list loc=Nn q):bP Nr 32 [eL M7.c list,I loc] [] (CP 1 3 (λx=>x) q.length (q.map cI) 0 []):=by
 refine bP.mkO func32 Z (by kernel_rfl) Z (by kernel_rfl) (e0:=ak [(0,eL M7.c list),(1,I loc)]) (MZ Z<|MZ Z wkN) nB (pG qD)<|jI ?_;refine gq h λ_ h=>?_;refine jH<|T.reserve ?_;refine go h λ_ h=>?_;refine T.jF (G:=(Bool×Nat)) h (λs1 gh=>(gh.1=Nk->s1=[])) (λs1 gh=>[(5,hS gh.1 0 gh.2 1 s1.length)]) (λs1 gh=>[bE gh.1 gh.2 1 3 (s1.map cI)]) (λs1 gh h n25=>?_) λs1 h=>?_
 ·obtain ⟨b24,u23⟩:=gh;refine go h λ_ h=>?_;obtain rfl:=M4 h
  repeat (first|refine lD ?_|refine lF ?_)
  exact jQ (vs:=[hS b24 0 u23 1 s1.length]) (.cons (.tmp Z) .nil) ⟨0,b24,u23,(wT n25 Z),Z,ownB Z⟩
 refine go h λ_ h=>?_;refine tL h (Nk,0) (λs7 gh=>(gh.1=Nk->s7.1=[])) (λs7 gh=>[(10,I s7.2),(9,I (list.length:Int)),(8,eL M7.c list),(5,hS gh.1 0 gh.2 1 s7.1.length),(1,I loc)]) (λs7 gh=>[bE gh.1 gh.2 1 3 (s7.1.map cI)]) qD λs7 gh ws7 h n11=>?_;obtain ⟨b10,u9⟩:=gh;refine go h λ_ h=>?_;refine jH ?_;refine jN Z h (λq12 h=>?_) λq12 h=>?_
 ·refine go h λ_ h=>?_;refine T.jF (G:=(Bool×Nat)) h (λs13 gh=>(gh.1=Nk->s13=[])) (λs13 gh=>[(5,hS gh.1 0 gh.2 1 s13.length),(10,I s7.2),(9,I (list.length:Int)),(8,eL M7.c list),(1,I loc)]) (λs13 gh=>[bE gh.1 gh.2 1 3 (s13.map cI)]) (λs13 gh h n21=>?_) λs13 h=>?_
  ·obtain ⟨b20,u19⟩:=gh;refine go h λ_ h=>?_;obtain rfl:=M4 h;exact ⟨(s13,(s7.2+V)),(b20,u19),Z,n21,Nh⟩
  refine go h λ_ h=>?_;refine TO.jB h 5 (λs15=>[(22,Bo s15),(6,I s7.2),(10,I s7.2),(9,I (list.length:Int)),(8,eL M7.c list),(5,hS b10 0 u9 1 s7.1.length),(1,I loc)]) (λs15=>[bE b10 u9 1 3 (s7.1.map cI),Nn ⟨0,5,60,[(M7.c<|J list s7.2)]⟩]) (λs15 q16 h js15=>?_) (λs15 q16 h js15=>?_) λs15 h=>?_
  ·refine go h λ_ h=>?_;refine gA Z q16 (lh (I<|(J list s7.2).Loc) ty3 Z Z Z) ?_;exact gj h js15
  ·exact gj h js15
  refine gi h (λ_ q17 h=>?_) λ_ q17 h=>?_
  ·refine gk h λ_ _ h=>?_
   cases h
   exact ⟨(Nl,u9+1),nofun,Nh⟩
  refine go h λ_ h=>?_
  cases h
  exact ⟨(b10,u9),n11,Nh⟩
 refine jM<|lX h λh=>?_
 cases h
 exact ⟨(b10,u9),n11,Nh⟩
theorem wC (list:List M7) (loc:Int) {q} (h:fg list loc=Nn q):aD Nr 32 [eL M7.c list,I loc] (eL cI q):=pOf (qd list loc h) λ_=>rfl
theorem lg (s:LI) (v:Int) {q} (h:cV s v=Nn q):aD Nr 82 [eL cI s,I v] (I q):=by
 refine pM func82 Z (by kernel_rfl) Z<|go h λ_ h=>?_;obtain ⟨Ks1,es1,ws1,h,ks1⟩:=Bq h;refine T.join (S:=Unit) (G:=Unit) (λs1=>Ks1 s1=Nn q) (λs1 gh=>True) (λs1 gh=>[]) (λs1 gh=>[]) (λs1 gh h hg=>?_) ?_
 ·clear ks1;subst es1;exact gz h
 refine go h λ_ h=>?_;refine tU h (λs4=>[(8,I s4),(7,I (s.length:Int)),(0,eL cI s),(1,I v)]) (λs4=>[]) λs4 ws4 h=>?_;refine go h λ_ h=>?_;refine jH ?_;refine jN Z h (λq6 h=>?_) λq6 h=>?_
 ·refine go h λ_ h=>?_;refine Ng h (λ_ q8 h=>?_) λ_ q8 h=>?_
  ·refine go h λ_ h=>?_;refine lX h λh=>?_;obtain rfl:=M4 h;replace h:=congrArg Nn (show _=_ from ks1);exact gz h
  refine go h λ_ h=>?_;exact lE h Nh
 refine jM<|lX h λh=>?_
 cases h
 exact ⟨(),(),ks1,trivial,Nh⟩
theorem dx (s:LI) {q} (h:aJ s=Nn q):bP Nr 33 [eL cI s] [] (CP 1 3 (λx=>x) q.length (q.map cI) 0 []):=by
 refine bP.mkO func33 Z (by kernel_rfl) Z (by kernel_rfl) (e0:=ak [(0,eL cI s)]) (MZ Z wkN) nB (pG qD)<|go h λ_ h=>?_;refine gs h λ_ h=>?_;refine LK Nl Tryz.underlying24 Z Z (λz1=>?_) ?_
 ·replace h:=(wU h).1 (by rw [z1];rfl);refine go h λ_ h=>?_;refine T.cond Z (λ_=>?_) λq=>absurd (q.symm.trans Z) (by decide);refine go h λ_ h=>?_;obtain rfl:=M4 h
  repeat (first|refine lD ?_|refine lF ?_)
  exact jQ (vs:=[.nil]) (.cons (.tmp Z) .nil) ⟨0,Nk,0,λ_=>Z,Z,nofun⟩
 replace h:=(wU h).2;refine go h λ_ h=>?_;refine T.cond Z (λq=>absurd (q.symm.trans Z)<|by decide) λ_=>?_;refine go h λ_ h=>?_;refine oA (EvA.mkO (c:=cI) ([]:LI) [] zy Z Z Z qD Z Z)<|go h λ_ h=>?_;obtain rfl:=M4 h
 repeat (first|refine lD ?_|refine lF ?_)
 exact jQ (vs:=[hS Nl 0 (0+1) 1 ((([]:LI)++s).length)]) (.cons (.tmp Z) .nil) ⟨0,Nl,0+1,nofun,Z,ownB Z⟩
theorem lj (s:LI) {q} (h:aJ s=Nn q):aD Nr 33 [eL cI s] (eL cI q):=pOf (dx s h) λ_=>rfl
theorem yc (x:M5) {q} (h:m8 x=Nn q):aD Nr 130 [.agg (M5.c x)] (Bo q):=by
 refine pM func130 Z (by kernel_rfl) Z<|go h λ_ h=>?_;refine eF Z Z Z<|go h λ_ h=>?_;refine TO.jB h 4 (λs1=>[(10,Bo s1)]) (λs1=>[]) (λs1 q2 h js1=>?_) (λs1 q2 h js1=>?_) λs1 h=>?_
 ·exact gj h js1
 ·exact gj h js1
 exact gz h
theorem xu (x:M5) {q} (h:lK x=Nn q):aD Nr 131 [.agg (M5.c x)] (Bo q):=by
 refine pM func131 Z (by kernel_rfl) Z<|go h λ_ h=>?_;refine eF Z Z Z<|go h λ_ h=>?_;refine TO.jB h 4 (λs1=>[(10,Bo s1),(1,.fp (M5.c x) 0)]) (λs1=>[]) (λs1 q2 h js1=>?_) (λs1 q2 h js1=>?_) λs1 h=>?_
 ·exact gj h js1
 ·exact gj h js1
 refine go h λ_ h=>?_;refine TO.jB h 4 (λs3=>[(15,Bo s3)]) (λs3=>[]) (λs3 q4 h js3=>?_) (λs3 q4 h js3=>?_) λs3 h=>?_
 ·exact gj h js3
 ·exact gj h js3
 exact gz h
theorem wD (name:BA) {q} (h:kx name=Nn q):aD Nr 37 [St name] (St q):=by
 refine pM func37 Z (by kernel_rfl) Z<|go h λ_ h=>?_;refine Ng h (λ_ q1 h=>?_) λ_ q1 h=>?_
 ·exact gz h
 refine gi h (λ_ q2 h=>?_) λ_ q2 h=>?_
 ·exact gz h
 refine gi h (λ_ q3 h=>?_) λ_ q3 h=>?_
 ·exact gz h
 refine gi h (λ_ q4 h=>?_) λ_ q4 h=>?_
 ·exact gz h
 refine gi h (λ_ q5 h=>?_) λ_ q5 h=>?_
 ·exact gz h
 exact gz h
theorem lu (s:BA) (c:Int) {q} (h:bG s c=some q):aD Tryz.prog 254 [St s,Y c] (I q):=by
 refine pM Tryz.func254 Z (by kernel_rfl) Z<|go h λ_ h=>?_;refine oN (M0.extIndex Z Z Z Z Z Tryz.func277 (by kernel_rfl) (by kernel_rfl) (by kernel_rfl)<|by kernel_rfl) ?_;exact gz h
theorem gX (s:BA) (substr:BA) {q} (h:bD s substr=some q):aD Tryz.prog 209 [St s,St substr] (I q):=by
 refine pM Tryz.func209 Z (by kernel_rfl) Z<|go h λ_ h=>?_;refine gs h λ_ h=>?_;refine TO.jB h 4 (λs1=>[(23,Bo s1),(5,I (substr.size:Int)),(0,St s),(1,St substr)]) (λs1=>[]) (λs1 q2 h js1=>?_) (λs1 q2 h js1=>?_) λs1 h=>?_
 ·exact gj h js1
 ·exact gj h js1
 refine gi h (λ_ q3 h=>?_) λ_ q3 h=>?_
 ·exact gz h
 refine gi h (λ_ q4 h=>?_) λ_ q4 h=>?_
 ·refine go h λ_ h=>?_;refine oC h (λ_=>lu _ _) Z Z Z Z λv6 _ h=>?_;exact gz h
 refine gi h (λ_ q7 h=>?_) λ_ q7 h=>?_
 ·exact gz h
 cases h
theorem rE (s:BA) (substr:BA) {q} (h:iW s substr=some q):aD Tryz.prog 208 [St s,St substr] (I q):=by
 refine pM Tryz.func208 Z (by kernel_rfl) Z<|go h λ_ h=>?_;refine oC h (λ_=>gX _ _) Z Z Z Z λv1 _ h=>?_;exact gz h
theorem xw (s:BA) (substr:BA) {q} (h:lM s substr=some q):aD Tryz.prog 207 [St s,St substr] (I q):=by
 refine pM Tryz.func207 Z (by kernel_rfl) Z<|go h λ_ h=>?_;refine Ng h (λ_ q1 h=>?_) λ_ q1 h=>?_
 ·cases h
 refine go h λ_ h=>?_;refine Ng h (λ_ q2 h=>?_) λ_ q2 h=>?_
 ·refine go h λ_ h=>?_;refine oN (M0.extCount Z Z Z Z Z Tryz.func253 (by kernel_rfl) (by kernel_rfl) (by kernel_rfl)<|by kernel_rfl) ?_;exact gz h
 refine go h λ_ h=>?_;refine tU h (λs6=>[(5,I s6.1),(0,St s6.2),(1,St substr)]) (λs6=>[]) λs6 ws6 h=>?_;refine go h λ_ h=>?_;refine oC h (λ_=>rE _ _) Z Z Z Z λv8 _ h=>(go h λ_ h=>?_);refine Ng h (λ_ q9 h=>?_) λ_ q9 h=>?_
 ·refine go h λ_ h=>?_;refine lX h λh=>?_;exact gz h
 refine go h λ_ h=>?_;exact lE h Nh
end
end Go.Proofs.YtabfkkjdfhbngaaGreatDoor
