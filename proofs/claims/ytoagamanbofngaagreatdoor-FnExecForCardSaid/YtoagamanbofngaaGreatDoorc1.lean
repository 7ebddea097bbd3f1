/- Texts joined. No conditions. -/
import Derived.Below
import Derived.Control
import Derived.WalkKit
import Derived.IntWalk
import Derived.WalkSpells
import Derived.WalkLawsBesides
import Derived.Laws.Cells
import Derived.ChangeKeysEq
import Derived.ShutString
import Derived.Laws.Slices
import Derived.Laws.Tables
import Derived.Laws.CopyRow
import Derived.Laws.Append
import Derived.Laws.AppendOwn
import Derived.Still
import Derived.MapKept
import Derived.WideKeyRuns
namespace Go.Proofs.YtoagamanbofngaaGreatDoor
noncomputable section
set_option linter.defProp false
open _root_.Inhabited renaming default -> aad
open _root_.Bool renaming true -> aae
open _root_.Bool renaming false -> aaf
open _root_.Option renaming some -> aag
open _root_.Option renaming none -> aah
open _root_.Decidable renaming decide -> aai
open _root_.Nat renaming le_refl -> aak,add_mul -> aal,lt_or_ge -> aaq,beq -> aas,lt_of_lt_of_le -> aat,mul_le_mul_right -> aau,zero_add -> aax,le_trans -> aaz,lt_irrefl -> aaM
open _root_.Array renaming range -> aam,getElem?_toList -> aav,getElem?_eq_getElem -> aaB,length_toList -> aaE,getElem?_append_left -> aaF,size_append -> aaG,toList_map -> aaL,getElem?_extract -> aaQ,getElem?_map -> aaR,eq_empty_of_size_eq_zero -> aaT
open _root_.List renaming all_eq_true -> aan,range -> aao,mem_of_getElem? -> aaw,getElem?_set_ne -> aay,replicate -> aaA,getElem?_map -> aaC,size_toArray -> aaH,mem_iff_getElem? -> aaI,ext_getElem? -> aaO,getElem?_set_self -> aaU,eq_nil_of_length_eq_zero -> aaV
open _root_.Option renaming map_eq_some_iff -> aap,map_some -> aaD,isSome_iff_exists -> aaJ,bind_some -> aaN,isSome_none -> aaS
open _root_.BitVec renaming ofInt -> aar
open _root_.Bool renaming false_eq_true -> aaK
open _root_.Option.some renaming inj -> aaP
abbrev LS(S E:Type):=S->Option (S ⊕ E)
abbrev dF:List Nat×Bool:=([],aaf)
abbrev dG(l:List<|List Nat×Bool)(i:Nat):List Nat×Bool:=l.getD i ([],aaf)
theorem Z{α:Sort _}{a:α}:a=a:=rfl
abbrev J{α:Type}[Inhabited α](l:List α)(i:Int):α:=l.getD i.toNat aad
abbrev BA:=ByteArray
abbrev LI:=List Int
abbrev LL:=List<|List Int
abbrev U:Int:=0
abbrev V:Int:=1
theorem osk{α:Type _}{a b:α}(h:aag a=aag b):b=a:=(aaP h).symm
theorem ges{α:Type _}{l:List α}{i:Nat}{a:α}(h:l[i]?=aag a):∃h:i<l.length,l[i]=a:=List.getElem?_eq_some_iff.1 h
theorem osl{α:Type _}{a b:α}(h:aag a=aag b):a=b:=aaP h
theorem gal{α:Type _}{l k:List α}{n:Nat}(h:n<l.length):(l++k)[n]?=l[n]?:=List.getElem?_append_left h
theorem gar{α:Type _}{l k:List α}{n:Nat}(h:l.length<=n):(l++k)[n]?=k[n-l.length]?:=List.getElem?_append_right h
theorem nlb{n m:Nat}(h:Nat.ble n m=aae):n<=m:=Nat.le_of_ble_eq_true h
theorem bae(a b:Bool):((a&&b)=aae)=(a=aae/\b=aae):=Bool.and_eq_true a b
theorem lla{α:Type _}{l k:List α}:(l++k).length=l.length+k.length:=List.length_append
theorem sie{α:Type _}(a b:α):(aag a=aag b)=(a=b):=Option.some.injEq a b
theorem dte{p:Prop}[Decidable p]:(decide p=aae)=p:=decide_eq_true_eq
theorem llc{α:Type _}{a:α}{l:List α}:(a::l).length=l.length+1:=List.length_cons
theorem llm{α β:Type _}{l:List α}(f:α->β):(l.map f).length=l.length:=List.length_map f
theorem gen{α:Type _}{l:List α}{i:Nat}(h:l.length<=i):l[i]?=aah:=List.getElem?_eq_none h
theorem gdq{α:Type _}{l:List α}{i:Nat}{a:α}:l.getD i a=l[i]?.getD a:=List.getD_eq_getElem?_getD
theorem geq{α:Type _}{l:List α}{i:Nat}(h:i<l.length):l[i]?=aag l[i]:=List.getElem?_eq_getElem h
@[simp] theorem tnn(n:Nat):((n:Int)).toNat=n:=Int.toNat_natCast n
open Go.RowKit
inductive AV where
 |v (x:Value)
 |agg (cs:List AV)
 |tup (xs:List AV)
 |nil
 |sl (n:Nat) (row:Nat->List AV)
 |fp (row:List AV) (j:Nat)
 |hs (b ver s off len:Nat)
 |hp (b ver s i j:Nat)
 |mp (b s:Nat)
 |ifc (t:TypeId) (x:AV)
 |fn (f:Fn) (pK:List AV)
 |top
structure ABlk where
 ver:Nat
 s:Nat
 ty:TypeId
 rows:List (List AV)
abbrev AH:=List<|Option ABlk
def plain:Value->Bool
 | .bool _| .int _ _| .float _ _| .complex _ _ _| .string _| .pointer aah| .map aah| .chan aah| .nilFunc| .nilIface=>aae
 |_=>aaf
theorem Jy{x:Value}(h:plain x=aae):x.oneCell'=aae:=by
 unfold plain at h
 split at h <;> first|rfl|cases h
theorem KT{x:Value}(h:plain x=aae):x.cells=#[x]:=by
 unfold plain at h
 split at h <;> first|rfl|cases h
inductive FRel(w:World)(fz:Nat->Prop):AV->Value->Prop
 |v {x:Value} (h:plain x=aae):FRel w fz (.v x) x
 |agg {cs:List AV} {vs:Array Value} (hl:vs.size=cs.length) (h1:∀(i:Nat)(u:Value),vs[i]?=aag u->u.oneCell'=aae)
   (h:∀(i:Nat)(c:AV)(u:Value),cs[i]?=aag c->vs[i]?=aag u->FRel w fz c u):FRel w fz (.agg cs) (.agg vs)
 |tup {cs:List AV} {vs:Array Value} (hl:vs.size=cs.length) (h:∀(i:Nat)(c:AV)(u:Value),cs[i]?=aag c->vs[i]?=aag u->FRel w fz c u):FRel w fz (.tup cs) (.tuple vs)
 |nil:FRel w fz .nil (.slice aah 0 0)
 |sl {n cap s g o:Nat} {row:Nat->List AV} {a:Option Addr} (us:Nat->Nat->Value) (hc:n<=cap) (hm:cap<=9223372036854775807)
   (ha:0<n->a=aag ⟨g,o,aah⟩/\fz g/\g<w.heap.size) (hs:∀i,i<n->(row i).length=s)
   (hu:∀(i j:Nat)(c:AV),i<n->(row i)[j]?=aag c->w.cell? ⟨g,o+i*s+j,aah⟩=aag (us i j))
   (h1:∀(i j:Nat)(c:AV),i<n->(row i)[j]?=aag c->(us i j).oneCell'=aae)
   (h:∀(i j:Nat)(c:AV),i<n->(row i)[j]?=aag c->FRel w fz c (us i j)):FRel w fz (.sl n row) (.slice a n cap)
 |fp {row:List AV} {j g o:Nat} (us:Nat->Value) (hg:fz g) (hlt:g<w.heap.size)
   (hu:∀(j:Nat)(c:AV),row[j]?=aag c->w.cell? ⟨g,o+j,aah⟩=aag (us j))
   (h1:∀(j:Nat)(c:AV),row[j]?=aag c->(us j).oneCell'=aae)
   (h:∀(j:Nat)(c:AV),row[j]?=aag c->FRel w fz c (us j)):FRel w fz (.fp row j) (.pointer<|aag ⟨g,o+j,aah⟩)
 |ifc {t:TypeId} {x:AV} {u:Value} (h:FRel w fz x u):FRel w fz (.ifc t x) (.iface t u)
 |fn {f:Fn} {cs:List AV} {vs:Array Value} (hl:vs.size=cs.length) (h:∀(i:Nat)(c:AV)(u:Value),cs[i]?=aag c->vs[i]?=aag u->FRel w fz c u):FRel w fz (.fn f cs) (.func f #[] vs)
theorem FRel.mono{w w':World}{fz fz':Nat->Prop}{a:AV}{v:Value}(h:FRel w fz a v)(hs:w.heap.size<=w'.heap.size)
  (hf:∀g,fz g->g<w.heap.size->w'.heap[g]?=w.heap[g]? /\ fz' g):FRel w' fz' a v:=by
 induction h with
 |v h=>exact .v h
 |agg hl h1 _ ih=>exact .agg hl h1 ih
 |tup hl _ ih=>exact .tup hl ih
 |nil=>exact .nil
 |@sl n cap s g o row a us hc hm ha hr hu h1 _ ih=>
  refine .sl (g:=g) (o:=o) us hc hm (λhn=>?_) hr (λi j c hi hj=>?_) h1 ih
  .grind
  obtain⟨_,hg,hlt⟩:=ha (by omega);rw[World.cell?_of_block (hf g hg hlt).1]
  simp_all
 |@fp row j g o us hg hlt hu h1 _ ih=>
  refine .fp us (hf g hg hlt).2 (by omega) (λj c hj=>?_) h1 ih;rw[World.cell?_of_block (hf g hg hlt).1]
  simp_all
 |ifc _ ih=>exact .ifc ih
 |fn hl _ ih=>exact .fn hl ih
structure HI where
 g:Nat
 o:Nat
 s:Nat
 n:Nat
 m:Nat
inductive VRel(w:World)(fz:Nat->Prop)(bn:Nat->Nat->Prop)(hd:Nat->Nat->Option HI):AV->Value->Prop
 |fr {a:AV} {u:Value} (h:FRel w fz a u):VRel w fz bn hd a u
 |agg {cs:List AV} {vs:Array Value} (hl:vs.size=cs.length) (h1:∀(i:Nat)(u:Value),vs[i]?=aag u->u.oneCell'=aae)
   (h:∀(i:Nat)(c:AV)(u:Value),cs[i]?=aag c->vs[i]?=aag u->VRel w fz bn hd c u):VRel w fz bn hd (.agg cs) (.agg vs)
 |tup {cs:List AV} {vs:Array Value} (hl:vs.size=cs.length) (h:∀(i:Nat)(c:AV)(u:Value),cs[i]?=aag c->vs[i]?=aag u->VRel w fz bn hd c u):VRel w fz bn hd (.tup cs) (.tuple vs)
 |ifc {t:TypeId} {x:AV} {u:Value} (h:VRel w fz bn hd x u):VRel w fz bn hd (.ifc t x) (.iface t u)
 |fn {f:Fn} {cs:List AV} {vs:Array Value} (hl:vs.size=cs.length) (h:∀(i:Nat)(c:AV)(u:Value),cs[i]?=aag c->vs[i]?=aag u->VRel w fz bn hd c u):VRel w fz bn hd (.fn f cs) (.func f #[] vs)
 |hs {b ver s off len cap:Nat} {A:Option Addr} (hb:bn b ver) (hc:len<=cap) (hm:cap<=9223372036854775807) (h0:0<cap->∃ad,A=aag ad)
   (h:∀x,hd b ver=aag x->x.s=s/\off+len<=x.n/\(0<cap->A=aag ⟨x.g,x.o+off*s,aah⟩)/\x.o+off*s+cap*s<=x.m):VRel w fz bn hd (.hs b ver s off len) (.slice A len cap)
 |hp {b ver s i j:Nat} {ad:Addr} (hb:bn b ver) (h:∀x,hd b ver=aag x->x.s=s/\ad=⟨x.g,x.o+i*s+j,aah⟩):VRel w fz bn hd (.hp b ver s i j) (.pointer<|aag ad)
 |mp {b s g:Nat} (hb:bn b 0) (h:∀x,hd b 0=aag x->x.s=s+1/\x.g=g):VRel w fz bn hd (.mp b s) (.map<|aag g)
 |top {u:Value}:VRel w fz bn hd .top u
theorem VRel.mono{w w':World}{fz fz':Nat->Prop}{bn bn':Nat->Nat->Prop}{hd hd':Nat->Nat->Option HI}{a:AV}{v:Value}(h:VRel w fz bn hd a v)(hs:w.heap.size<=w'.heap.size)
  (hf:∀g,fz g->g<w.heap.size->w'.heap[g]?=w.heap[g]? /\ fz' g) (hN:∀b ver,bn b ver->bn' b ver) (hh:∀b ver x,bn b ver->hd' b ver=aag x->hd b ver=aag x):VRel w' fz' bn' hd' a v:=by
 induction h with
 |fr h=>exact .fr (h.mono hs hf)
 |agg hl h1 _ ih=>exact .agg hl h1 ih
 |tup hl _ ih=>exact .tup hl ih
 |ifc _ ih=>exact .ifc ih
 |fn hl _ ih=>exact .fn hl ih
 |hs hb hc hm h0 h=>exact .hs (hN _ _ hb) hc hm h0 λx hx=>h x (hh _ _ _ hb hx)
 |hp hb h=>exact .hp (hN _ _ hb) λx hx=>h x (hh _ _ _ hb hx)
 |mp hb h=>exact .mp (hN _ _ hb) λx hx=>h x (hh _ _ _ hb hx)
 |top=>exact .top
structure Cx where
 w:World
 fz:Nat->Prop
 H:AH
 φ:Nat->Nat×Nat
def mkv:List Value->Value
 |[x]=>x
 |l=>.agg l.toArray
def GV(s ty o:Nat)(cs:Array Value)(i:Nat):MapEntry:=⟨mkv<|(cs.toList.drop<|o+i*s).take ty,mkv<|(cs.toList.drop<|o+i*s+ty).take<|s-ty,i⟩
def Vf(k:ABlk)(o:Nat)(cs:Array Value):Option (Nat×Nat)->Obj
 |some fr=>.cells cs k.ty fr
 |none=>.map ((aam k.rows.length).map<|GV k.s k.ty o cs) k.rows.length
def hdo(k:ABlk)(p:Nat×Nat):Obj->Option HI
 | .cells cs _ _=>aag ⟨p.1,p.2,k.s,k.rows.length,cs.size⟩
 | .map _ _=>aag ⟨p.1,0,k.s+1,0,0⟩
 |_=>aah
theorem Jz{k k':ABlk}(hs:k'.s=k.s)(hl:k'.rows.length=k.rows.length)(p:Nat×Nat)(o:Obj):hdo k' p o=hdo k p o:=by
 cases o <;> simp[hdo,hs,hl]
theorem Hu{k k':ABlk}(hs:k'.s=k.s)(ht:k'.ty=k.ty)(hl:k'.rows.length=k.rows.length)(o:Nat)(cs:Array Value)(fr:Option<|Nat×Nat):Vf k' o cs fr=Vf k o cs fr:=by
 cases fr <;> simp[Vf,hs,ht,hl]
def Cx.live(c:Cx)(b:Nat)(k:ABlk):Prop:=c.H[b]?=aag (aag k)
def Cx.hd(c:Cx)(b ver:Nat):Option HI:=
 match c.H[b]? with
 |some (aag k)=>
  if k.ver=ver then (c.w.heap[(c.φ b).1]?).bind (hdo k<|c.φ b) else aah
 |_=>aah
def Cx.born(c:Cx)(b ver:Nat):Prop:=
 match c.H[b]? with
 |some (aag k)=>ver<=k.ver
 |_=>False
def Cx.rel(c:Cx)(a:AV)(v:Value):Prop:=VRel c.w c.fz c.born c.hd a v
structure BRel(c:Cx)(b:Nat)(k:ABlk)(cs:Array Value)(fr:Option (Nat×Nat)):Prop where
 at_:c.w.heap[(c.φ b).1]?=aag (Vf k (c.φ b).2 cs fr)
 nf : ¬ c.fz (c.φ b).1
 pos:0<k.s
 free:∀f,fr=aag f->∀i,i+1<cs.size+min k.s 2 -> ¬ (f.1<=i/\i<f.2)
 fits:(c.φ b).2+k.rows.length*k.s<=cs.size
 len:∀(i:Nat)(row:List AV),k.rows[i]?=aag row->row.length=k.s
 rel:∀(i:Nat)(row:List AV)(j:Nat)(a:AV),k.rows[i]?=aag row->row[j]?=aag a->∃u,cs[(c.φ b).2+i*k.s+j]?=aag u/\u.oneCell'=aae/\c.rel a u
theorem BRel.fre{c:Cx}{b:Nat}{k:ABlk}{cs:Array Value}{fr:Option (Nat×Nat)}(h:BRel c b k cs fr)(f:Nat×Nat)(hf:fr=aag f)(i:Nat)(hi:i<cs.size) : ¬ (f.1<=i/\i<f.2):=h.free f hf i (by have:=h.pos;omega)
def Y8:List (Nat×List AV):=[(0,[.v (.string (⟨#[112,111]⟩:BA)),.v (.string (⟨#[108,111,99]⟩:BA)),.v (.string (⟨#[101,120,116]⟩:BA)),.v (.string (⟨#[114,102]⟩:BA)),.v (.string (⟨#[99,111]⟩:BA)),.v (.string (⟨#[102,114]⟩:BA)),.v (.string (⟨#[102,101,110,99,101]⟩:BA)),.v (.string (⟨#[119,114]⟩:BA)),.v (.string (⟨#[119,119]⟩:BA)),.v (.string (⟨#[105,100]⟩:BA))])]
def Gl(w:World)(fz:Nat->Prop):Prop:=∀x∈Y8,FRel w fz (.fp x.2 0)<|.pointer<|aag ⟨x.1,0,aah⟩
theorem Gl.mono{w w':World}{fz fz':Nat->Prop}(h:Gl w fz)(hs:w.heap.size<=w'.heap.size)(hf:∀g,fz g->g<w.heap.size->w'.heap[g]?=w.heap[g]? /\ fz' g):Gl w' fz':=
 λx hx=>(h x hx).mono hs hf
def YA(g:Nat):AV:=match Y8.find? (λx=>aas x.1 g) with
 |some x=>.fp x.2 0
 |none=>.top
structure HRel(c:Cx):Prop where
 lt:∀g,c.fz g->g<c.w.heap.size
 blk:∀b k,c.live b k->∃cs fr,BRel c b k cs fr
 inj:∀b b' k k',c.live b k->c.live b' k'->b≠b'->(c.φ b).1≠(c.φ b').1
 gl:Gl c.w c.fz
structure Ext(c c':Cx):Prop where
 os:c'.w.os=c.w.os
 tape:c'.w.tape=c.w.tape
 output:c'.w.output=c.w.output
 size:c.w.heap.size<=c'.w.heap.size
 keep:∀g,g<c.w.heap.size->(∀b k,c.live b k->(c.φ b).1≠g)->c'.w.heap[g]?=c.w.heap[g]?
 fz:∀g,c.fz g->c'.fz g
 Af:∀g,c'.fz g->c.fz g\/c.w.heap.size<=g\/∃b k,c.live b k/\(c.φ b).1=g
 N:c.H.length<=c'.H.length
 born:∀b ver,c.born b ver->c'.born b ver
 hd:∀b ver x,c.born b ver->c'.hd b ver=aag x->c.hd b ver=aag x
 kO:∀b k,c'.live b k->c.w.heap.size<=(c'.φ b).1\/∃b0 k0,c.live b0 k0/\(c.φ b0).1=(c'.φ b).1
theorem HRel.not_fz{c:Cx}(h:HRel c){b:Nat}{k:ABlk}(hl:c.live b k) : ¬ c.fz (c.φ b).1:=by
 obtain⟨_,_,hb⟩:=h.blk b k hl;exact hb.nf
theorem HRel.live_lt{c:Cx}(h:HRel c){b:Nat}{k:ABlk}(hl:c.live b k):(c.φ b).1<c.w.heap.size:=by
 obtain⟨cs,fr,hb⟩:=h.blk b k hl;rcases aaq (c.φ b).1 c.w.heap.size with hlt|hge
 .omega
 have:=hb.at_
 simp_all
theorem Ext.refl(c:Cx):Ext c c:=⟨rfl,rfl,rfl,aak _,λ_ _ _=>rfl,λ_ h=>h,λ_ h=>.inl h,aak _,λ_ _ h=>h,by grind,by grind⟩
theorem Ext.trans{a b c:Cx}(h:Ext a b)(k:Ext b c):Ext a c where
 os:=k.os.trans h.os
 tape:=k.tape.trans h.tape
 output:=k.output.trans h.output
 size:=aaz h.size k.size
 keep:=λg hg hn=>by
  rw[k.keep g (aat hg h.size) (λb' k' hl he=>?_),h.keep g hg hn];rcases h.kO b' k' hl with h1|⟨b0,k0,h1,h2⟩
  .omega
  grind
 fz:=λg hg=>k.fz g<|h.fz g hg
 Af:=λg hg=>by
  rcases k.Af g hg with h1|h1|⟨b',k',h1,h2⟩
  .exact h.Af g h1
  .exact .inr<|.inl<|aaz h.size h1
  rcases h.kO b' k' h1 with h3|⟨b0,k0,h3,h4⟩
  .omega
  grind
 N:=aaz h.N k.N
 born:=λb' ver hb=>k.born _ _<|h.born _ _ hb
 hd:=λb' ver x hb hx=>h.hd b' ver x hb<|k.hd b' ver x (h.born _ _ hb) hx
 kO:=λb' k' hl=>by
  rcases k.kO b' k' hl with h1|⟨b0,k0,h1,h2⟩
  .exact .inl<|aaz h.size h1
  rcases h.kO b0 k0 h1 with h3|⟨b1,k1,h3,h4⟩
  .omega
  grind
theorem Cx.rel.ext{c c':Cx}{a:AV}{v:Value}(h:c.rel a v)(hr:HRel c)(e:Ext c c'):c'.rel a v:=
 VRel.mono h e.size (λg hg hlt=>⟨e.keep g hlt λ_ _ hl he=>hr.not_fz hl<|he ▸ hg,e.fz g hg⟩) e.born e.hd
theorem HRel.glx{c c':Cx}(hr:HRel c)(e:Ext c c'):Gl c'.w c'.fz:=hr.gl.mono e.size λg hg hlt=>⟨e.keep g hlt λ_ _ hl he=>hr.not_fz hl<|he ▸ hg,e.fz g hg⟩
theorem HRel.gl_rel{c:Cx}(hr:HRel c)(g:Nat):c.rel (YA g) (.pointer<|aag ⟨g,0,aah⟩):=by
 unfold YA
 split
 .rename_i x hx;have h1:=List.mem_of_find?_eq_some hx;have h2:x.1=g:=Nat.eq_of_beq_eq_true (by grind);subst h2;exact .fr<|hr.gl x h1
 exact .top
abbrev Env:=Nat->AV
def ww(e:Env)(d:Option Tmp)(r:AV):Env:=match d with
 |some d=>λt=>bif aas t d then r else e t
 |none=>e
theorem Bh(e:Env)(d:Tmp)(r:AV):ww e (aag d) r=λt=>if t=d then r else e t:=by
 funext t
 show(bif aas t d then r else e t)=_
 simp_all
structure SRel(c:Cx)(nt:Nat)(e:Env)(a:Act):Prop where
 size:a.tmps.size=nt
 defers:a.defers=[]
 rel:∀t,c.rel (e t) (a.tmps.getD t undef)
 heap:HRel c
theorem SRel.put{c c':Cx}{nt:Nat}{e:Env}{a:Act}(h:SRel c nt e a)(d:Option Tmp){r:AV}{v:Value}(hd:∀t,d=aag t->t<nt)(hx:Ext c c')(hr:HRel c')(hv:c'.rel r v) :
  SRel c' nt (ww e d r) (a.put d v):=by
 cases d with
 |none=>exact⟨h.size,h.defers,λt=>(h.rel t).ext h.heap hx,hr⟩
 |some d=>
  have hlt:=hd d rfl;refine⟨by simpa [Act.put] using h.size,h.defers,λt=>?_,hr⟩;simp only[Bh,Act.put]
  by_cases e:t=d
  .subst e;have : (a.tmps.setIfInBounds t v).getD t undef=v:=by simp[h.size,hlt]
   grind
  rw[if_neg e];have : (a.tmps.setIfInBounds d v).getD t undef=a.tmps.getD t undef:=by
   simp[Array.getElem?_setIfInBounds_ne (Ne.symm e)]
  rw[this];exact(h.rel t).ext h.heap hx
def GX(e e0:Env):Prop:=∀t,e0 t= .top\/e0 t=e t
theorem SRel.weak{c:Cx}{nt:Nat}{e e0:Env}{a:Act}(h:SRel c nt e a)(hw:GX e e0):SRel c nt e0 a:=
 ⟨h.size,h.defers,λt=>by
  rcases hw t with h1|h1
  .rw[h1];exact .top
  rw[h1];exact h.rel t,h.heap⟩
def Br(b:Bool)(X Y:Prop):Prop:=match b with
 |true=>X
 |false=>Y
theorem Br.intro{b:Bool}{X Y:Prop}(h1:b=aae->X)(h2:b=aaf->Y):Br b X Y:=by
 cases b
 .exact h2 rfl
 exact h1 rfl
theorem Br.absT{b:Bool}{G:Prop}(h:b=aae)(k:b=aaf):G:=by grind
theorem Br.elim{b:Bool}{X Y:Prop}(h:Br b X Y):(b=aae/\X)\/(b=aaf/\Y):=by
 cases b
 .exact .inr ⟨rfl,h⟩
 exact .inl ⟨rfl,h⟩
def Ck(b:Bool)(X:Prop):Prop:=Br b X False
theorem Ck.elim{b:Bool}{X:Prop}(h:Ck b X):b=aae/\X:=by
 cases b
 .exact h.elim
 exact⟨rfl,h⟩
theorem Ck.intro{b:Bool}{X:Prop}(hb:b=aae)(h:X):Ck b X:=by
 subst hb;exact h
attribute [irreducible] Ck
def AV.force(x:AV)(K:AV->Prop):Prop:=match x with
 | .v a=>K (.v a)
 | .agg cs=>K (.agg cs)
 | .tup xs=>K (.tup xs)
 | .nil=>K .nil
 | .sl n row=>K (.sl n row)
 | .fp row j=>K (.fp row j)
 | .hs b q s o l=>K (.hs b q s o l)
 | .hp b q s i j=>K (.hp b q s i j)
 | .mp b s=>K (.mp b s)
 | .ifc t x=>K (.ifc t x)
 | .fn f cs=>K (.fn f cs)
 | .top=>K .top
theorem AV.force_iff{x:AV}{K:AV->Prop}:x.force K↔K x:=by cases x <;> rfl
def nW(cs:Array Value):Bool:=cs.toList.all (·.oneCell')
theorem Bi(cs:Array Value):nW cs=cs.all (·.oneCell'):=Array.all_toList ..
def of1:Value->AV
 | .slice aah 0 0=>.nil
 |x=>if plain x then .v x else .top
def KU:Value->AV
 | .slice aah 0 0=>.nil
 | .agg cs=>if nW cs then .agg (cs.toList.map of1) else .top
 |x=>if plain x then .v x else .top
def rho(e:Env):Operand->AV
 | .tmp t=>e t
 | .const v=>KU v
 | .global g=>YA g
 | .func f=>.fn (.func f) []
def AV.cells:AV->Option (List AV)
 | .agg cs=>aag cs
 | .tup _| .top=>aah
 |x=>aag [x]
def eC(z:Value):List AV:=z.cells.toList.map of1
def splice(row:List AV)(j:Nat)(cs:List AV):List AV:=row.take j++cs++row.drop (j+cs.length)
def Bj(P:Program)(t:TypeId):Bool:=match P.underlying t with
 |some (.struct _)|some (.array _ _)=>aae
 |_=>aaf
def Pz(l:List AV):(List AV->Prop)->Prop:=
 List.rec (motive:=λ_=>(List AV->Prop)->Prop) (λK=>K []) (λa _ ih K=>ih λl=>K (a::l)) l
theorem wy:∀{l:List AV}{K:List AV->Prop},Pz l K↔K l
 |[],_=>Iff.rfl
 |a::l,K=>wy (l:=l)
def apart(P:Program)(t:TypeId)(row:List AV)(j:Nat)(K:AV->Prop):Prop:=
 match Bj P t with
 |true=>Ck (aai<|j+P.cellsOf t<=row.length) (Pz ((row.drop j).take<|P.cellsOf t) λcs=>K<|.agg cs)
 |false=>match row.drop j with
  |a::_=>(match P.underlying t with
   |some _=>a.force K
   |none=>False)
  |[]=>False
def wW(P:Program)(t:TypeId):Bool:=match P.underlying t with
 |some .bool=>aae
 |_=>aaf
def DU(P:Program)(op:BinOp)(t:TypeId)(x y:AV)(K:AV->Prop):Prop:=
 match x,y with
 | .v (.int k a),.v (.int k' b)=>(match op with
  | .add=>Ck (aai<|k=k') (k.wrap (a+b)=a+b/\K (.v<|.int k<|a+b))
  | .sub=>Ck (aai<|k=k') (k.wrap (a-b)=a-b/\K (.v<|.int k<|a-b))
  | .mul=>Ck (aai<|k=k') (k.wrap (a*b)=a*b/\K (.v<|.int k<|a*b))
  | .quo=>Ck (aai<|k=k') (b≠0/\k.wrap (a.tdiv b)=a.tdiv b/\K (.v<|.int k<|a.tdiv b))
  | .rem=>Ck (aai<|k=k') (b≠0/\K (.v<|.int k<|a.tmod b))
  | .and=>Ck (aai<|k=k') (K<|.v<|.int k<|k.wrap ((aar k.bits a&&&aar k.bits b).toNat:Int))
  | .or=>Ck (aai<|k=k') (K<|.v<|.int k<|k.wrap ((aar k.bits a|||aar k.bits b).toNat:Int))
  | .xor=>Ck (aai<|k=k') (K<|.v<|.int k<|k.wrap ((aar k.bits a ^^^ aar k.bits b).toNat:Int))
  | .andNot=>Ck (aai<|k=k') (K<|.v<|.int k<|k.wrap ((aar k.bits a &&& ~~~aar k.bits b).toNat:Int))
  | .shl=>0<=b/\K (.v<|.int k<|k.wrap<|a*2 ^ (min b.toNat k.bits))
  | .shr=>0<=b/\K (.v<|.int k<|a.fdiv<|2 ^ (min b.toNat k.bits))
  | .eql=>Ck (aai<|k=k') (K<|.v<|.bool<|a==b)
  | .neq=>Ck (aai<|k=k') (K<|.v<|.bool<|a != b)
  | .lss=>Ck (aai<|k=k') (K<|.v<|.bool<|aai<|a<b)
  | .leq=>Ck (aai<|k=k') (K<|.v<|.bool<|aai<|a<=b)
  | .gtr=>Ck (aai<|k=k') (K<|.v<|.bool<|aai<|a>b)
  | .geq=>Ck (aai (k=k')) (K (.v (.bool (aai (a>=b))))))
 | .v (.string a),.v (.string b)=>(match op with
  | .add=>a.size+b.size<=9223372036854775807/\K (.v<|.string<|a++b)
  | .eql=>K (.v<|.bool<|aai<|a=b)
  | .neq=>K (.v<|.bool<|!decide (a=b))
  |_=>False)
 | .v (.bool a),.v (.bool b)=>(match op with
  | .eql=>Ck (wW P t) (K<|.v<|.bool<|a==b)
  | .neq=>Ck (wW P t) (K<|.v<|.bool<|!(a==b))
  |_=>False)
 | .nil,.nil=>(match op,P.underlying t with
  | .eql,aag (.slice _)=>K (.v<|.bool aae)
  | .neq,aag (.slice _)=>K (.v<|.bool aaf)
  |_,_=>False)
 | .sl n _,.nil=>(match op,P.underlying t with
  | .eql,aag (.slice _)=>0<n/\K (.v<|.bool aaf)
  | .neq,aag (.slice _)=>0<n/\K (.v<|.bool aae)
  |_,_=>False)
 | .hs _ _ _ _ n,.nil=>(match op,P.underlying t with
  | .eql,aag (.slice _)=>0<n/\K (.v<|.bool aaf)
  | .neq,aag (.slice _)=>0<n/\K (.v<|.bool aae)
  |_,_=>False)
 |_,_=>False
def aun(op:UnOp)(x:AV)(K:AV->Prop):Prop:=
 match op,x with
 | .not,.v (.bool b)=>K (.v<|.bool !b)
 | .neg,.v (.int k n)=>k.wrap (0-n)=0-n/\K (.v<|.int k<|0-n)
 |_,_=>False
def NE(P:Program)(s d:TypeId)(x:AV)(K:AV->Prop):Prop:=
 match P.underlying s,P.underlying d,x with
 |some _,aag (.int k),.v (.int _ n)=>k.wrap n=n/\K (.v<|.int k n)
 |some _,aag .string,.v (.string b)=>K (.v<|.string b)
 |_,_,_=>False
def iK(P:Program)(t:TypeId)(x i:AV)(K:AV->Prop):Prop:=
 match P.underlying t,x,i with
 |some (.slice e),.sl n row,.v (.int _ q)=>(0<=q/\q<n)/\Ck ((row q.toNat).length==P.cellsOf e&&(P.info? e).isSome) (K<|.fp (row q.toNat) 0)
 |some (.slice e),.hs b ver s off len,.v (.int _ q)=>(0<=q/\q<len)/\Ck (s==P.cellsOf e&&(P.info? e).isSome) (K<|.hp b ver s (off+q.toNat) 0)
 |some (.array n e),.fp row j,.v (.int _ q)=>(0<=q/\q<n)/\Ck (P.info? e).isSome (K<|.fp row<|j+q.toNat*P.cellsOf e)
 |some (.array n e),.hp b ver s i j,.v (.int _ q)=>(0<=q/\q<n)/\Ck (P.info? e).isSome (K<|.hp b ver s i<|j+q.toNat*P.cellsOf e)
 |_,_,_=>False
def FC(P:Program)(t:TypeId)(x i:AV)(K:AV->Prop):Prop:=
 match P.underlying t,x,i with
 |some (.array n e),.agg cs,.v (.int _ q)=>(0<=q/\q<n)/\Ck (P.info? e).isSome (apart P e cs (q.toNat*P.cellsOf e) K)
 |some .string,.v (.string s),.v (.int _ q)=>(0<=q/\q<s.size)/\K (.v<|.int .u8 ((s.data.getD q.toNat 0).toNat:Int))
 |_,_,_=>False
def bound(x:Option AV)(d:Int)(K:Int->Prop):Prop:=match x with
 |none=>K d
 |some (.v<|.int _ n)=>K n
 |_=>False
def Ag(P:Program)(t:TypeId)(x:AV)(lo hi mx:Option AV)(K:AV->Prop):Prop:=
 match mx,P.underlying t,x with
 |none,aag .string,.v (.string s)=>bound lo 0 λl=>bound hi s.size λh=>(0<=l/\l<=h/\h<=s.size)/\K (.v<|.string<|s.extract l.toNat h.toNat)
 |none,aag (.slice e),.sl n row=>bound lo 0 λl=>bound hi n λh=>(0<=l/\l<=h/\h<=n/\(∀i,i<n->(row i).length=P.cellsOf e)/\(P.info? e).isSome=aae)/\K (.sl (h.toNat-l.toNat) λi=>row<|i+l.toNat)
 |none,aag (.slice e),.hs b ver s off len=>bound lo 0 λl=>bound hi len λh=>(0<=l/\l<=h/\h<=len/\s=P.cellsOf e/\(P.info? e).isSome=aae)/\K (.hs b ver s (off+l.toNat)<|h.toNat-l.toNat)
 |none,aag (.array n e),.fp row j=>bound lo 0 λl=>bound hi n λh=>(0<=l/\l<=h/\h<=n/\j+n*P.cellsOf e<=row.length/\(P.info? e).isSome=aae/\n<=9223372036854775807) /\
   K (.sl (h.toNat-l.toNat) λi=>(row.drop<|j+(i+l.toNat)*P.cellsOf e).take<|P.cellsOf e)
 |_,_,_=>False
def FD(place:Nat->Option (Nat×Nat)):List AV->List (Nat×AV)->Option (List AV)
 |cells,[]=>aag cells
 |cells,(i,x)::rest=>match place i,x.cells with
  |some (off,size),aag cs=>if cs.length=size/\off+size<=cells.length then FD place (splice cells off cs) rest else aah
  |_,_=>aah
def JA(P:Program)(t:TypeId)(parts:List<|Nat×AV)(K:AV->Prop):Prop:=
 match P.info? t,P.underlying t with
 |some i,aag (.struct fs)=>(match i.zero,fs.toList.mapM (λf=>(P.info? f.type).map λi=>(f.offset,i.size)) with
  |some z,aag places=>(match FD (places.toArray[·]?) (eC z) parts with
   |some cs=>Ck (nW z.cells) (K<|.agg cs)
   |none=>False)
  |_,_=>False)
 |some i,aag (.array _ e)=>(match i.zero,P.info? e with
  |some z,aag ie=>(match FD (λq=>aag (q*ie.size,ie.size)) (eC z) parts with
   |some cs=>Ck (nW z.cells) (K<|.agg cs)
   |none=>False)
  |_,_=>False)
 |_,_=>False
def wz(P:Program)(ρ:Operand->AV)(f:Callee)(args:List Operand)(ts:List TypeId)(K:AV->Prop):Prop:=
 match f,args,ts with
 | .builtin .len,[x],[t]=>(match P.underlying t,ρ x with
  |some (.slice _),.sl n _=>K (.v<|.int .i64 n)
  |some (.slice _),.hs _ _ _ _ n=>K (.v<|.int .i64 n)
  |some (.slice _),.nil=>K (.v<|.int .i64 0)
  |some .string,.v (.string s)=>K (.v<|.int .i64 s.size)
  |some (.array n _),_=>K (.v<|.int .i64 n)
  |_,_=>False)
 | .builtin .min,[x,y],_=>(match ρ x,ρ y with
  | .v (.int k a),.v (.int _ b)=>K (.v<|.int k<|if b<a then b else a)
  |_,_=>False)
 | .builtin .max,[x,y],_=>(match ρ x,ρ y with
  | .v (.int k a),.v (.int _ b)=>K (.v<|.int k<|if b>a then b else a)
  |_,_=>False)
 |_,_,_=>False
def Bc(P:Program)(ρ:Operand->AV)(op:Op)(K:AV->Prop):Prop:=
 match op with
 | .move x| .assign x=>(ρ x).force K
 | .pick c x y=>(match ρ c with
  | .v (.bool b)=>Br b ((ρ x).force K) ((ρ y).force K)
  |_=>False)
 | .nilCheck x=>(match ρ x with
  | .fp row j=>K (.fp row j)
  | .hp b q s i j=>K (.hp b q s i j)
  |_=>False)
 | .load t x=>(match ρ x with
  | .fp row j=>apart P t row j K
  |_=>False)
 | .binOp op t x y _=>DU P op t (ρ x) (ρ y) K
 | .unOp op _ x=>aun op (ρ x) K
 | .convert s d x=>NE P s d (ρ x) K
 | .makeInterface t x=>(match P.underlying t with
  |some (.interface _)|none=>False
  |_=>(ρ x).force λx=>K (.ifc t x))
 | .makeFunc f first pK=>Ck (first.size==0) (K<|.fn f<|pK.toList.map ρ)
 | .fieldAddr s x f=>(match P.underlying s with
  |some (.struct fs)=>(match fs[f]?,ρ x with
   |some fl,.fp row j=>Ck (P.cellsOf fl.type != 0) (K<|.fp row<|j+fl.offset)
   |some fl,.hp b v s i j=>Ck (P.cellsOf fl.type != 0) (K<|.hp b v s i<|j+fl.offset)
   |_,_=>False)
  |_=>False)
 | .field t x f=>(match P.underlying t with
  |some (.struct fs)=>(match fs[f]?,ρ x with
   |some fl,.agg cs=>apart P fl.type cs fl.offset K
   |_,_=>False)
  |_=>False)
 | .indexAddr t x i=>iK P t (ρ x) (ρ i) K
 | .index t x i=>FC P t (ρ x) (ρ i) K
 | .slice t x lo hi mx=>Ag P t (ρ x) (lo.map ρ) (hi.map ρ) (mx.map ρ) K
 | .extract x i=>(match ρ x with
  | .tup xs=>Ck (aai<|i<xs.length) ((xs.getD i .top).force K)
  |_=>False)
 | .build t parts=>JA P t (parts.toList.map λp=>(p.1,ρ p.2)) K
 | .call c=>wz P ρ c.callee c.args.toList c.argTypes.toList K
 |_=>False
def ma:List (Option<|List AV)->Option (List<|List AV)
 |[]=>aag []
 |none::_=>aah
 |some c::r=>match ma r with
  |some cs=>aag (c::cs)
  |none=>aah
def WV(H:AH)(P:Program)(t:TypeId)(size:Nat)(x:AV)(K:List (List AV)->Prop):Prop:=
 match x with
 | .nil=>K []
 | .sl n row=>(∀i,i<n->(row i).length=size)/\K ((aao n).map row)
 | .hs b ver s off len=>(match H[b]? with
  |some (aag k)=>(k.ver=ver/\k.s=s/\s=size/\off+len<=k.rows.length)/\K ((k.rows.drop off).take len)
  |_=>False)
 | .v (.string s)=>(P.underlying t=aag .string/\size=1)/\K (s.data.toList.map λb=>[.v (.int .u8 (b.toNat:Int))])
 |_=>False
def Mt(P:Program)(u:TypeId):Bool:=match P.underlying u with
 |some (.slice _)|some .string=>aae
 |_=>aaf
def PD(P:Program)(ρ:Operand->AV)(f:Callee)(args:List Operand)(ts:List TypeId)(H:AH)(K:AV->AH->Prop):Prop:=
 match f,args,ts with
 | .builtin .append,[x,y],[t,u]=>(match P.underlying t,Mt P u with
  |some (.slice e),aae=>WV H P u (P.cellsOf e) (ρ y) λnews=>(match ρ x with
   | .hs b ver s off len=>(match H[b]? with
    |some (aag k)=>(k.ver=ver/\k.s=s/\off+len<=k.rows.length/\(len+news.length)*P.bytesOf e<=35184372088832/\len+news.length<=35184372088832) /\
      Ck (s==P.cellsOf e&&k.ty==e&&((((P.info? e).bind (·.zero)).map λz=>z.cells.size)==aag (P.cellsOf e)))
      (K (.hs b (ver+1) s 0<|len+news.length)<|H.set b<|aag ⟨ver+1,s,k.ty,(k.rows.drop off).take len++news⟩)
    |_=>False)
   | .nil=>(news.length*P.bytesOf e<=35184372088832/\news.length<=35184372088832)/\Ck (aai (0<P.cellsOf e)&&((((P.info? e).bind (·.zero)).map λz=>z.cells.size)==aag (P.cellsOf e)))
     (Br (aai<|news.length=0) (K .nil H)<|K (.hs H.length 0 (P.cellsOf e) 0 news.length)<|H++[aag ⟨0,P.cellsOf e,e,news⟩])
   |_=>False)
  |_,_=>False)
 |f,args,ts=>wz P ρ f args ts λr=>K r H
def KN(P:Program)(ρ:Operand->AV)(op:Op)(H:AH)(K:AV->AH->Prop):Prop:=
 match op with
 | .alloc t=>(match P.info? t with
  |some i=>(match i.zero with
   |some z=>Ck (aai (0<(eC z).length)&&nW z.cells) (K (.hp H.length 0 (eC z).length 0 0)<|H++[aag ⟨0,(eC z).length,t,[eC z]⟩])
   |none=>False)
  |none=>False)
 | .box t x=>(match (ρ x).cells with
  |some cs=>Ck (aai<|0<cs.length) (K (.hp H.length 0 cs.length 0 0)<|H++[aag ⟨0,cs.length,t,[cs]⟩])
  |none=>False)
 | .buildSlice t n parts=>(match P.underlying t with
  |some (.slice e)=>(match ma (parts.toList.map λp=>(ρ p.2).cells) with
   |some rows=>Ck (aai (0<P.cellsOf e)&&aai (n*P.cellsOf e<=16777216)&&(parts.toList.map (·.1)==aao n)&&((((P.info? e).bind (·.zero)).map λz=>z.cells.size)==aag (P.cellsOf e)) &&
     ((((P.info? e).bind (·.zero)).map λz=>nW z.cells)==aag aae)&&rows.all (λrow=>row.length==P.cellsOf e))
     (K (.hs H.length 0 (P.cellsOf e) 0 n)<|H++[aag ⟨0,P.cellsOf e,e,rows⟩])
   |none=>False)
  |_=>False)
 | .makeSlice t l c=>(match P.underlying t,ρ l,ρ c with
  |some (.slice e),.v (.int .i64 l),.v (.int .i64 c)=>(match (P.info? e).bind (·.zero) with
   |some z=>(0<=l/\l<=c/\c*(P.bytesOf e:Int)<=140737488355328/\c<=140737488355328)/\Ck (aai (0<P.cellsOf e)&&((eC z).length==P.cellsOf e)&&nW z.cells)
     (K (.hs H.length 0 (P.cellsOf e) 0 l.toNat)<|H++[aag ⟨0,P.cellsOf e,e,aaA c.toNat<|eC z⟩])
   |none=>False)
  |_,_,_=>False)
 | .load t x=>(match ρ x with
  | .hp b ver s i j=>(match H[b]? with
   |some (aag k)=>(k.ver=ver/\k.s=s/\i<k.rows.length)/\apart P t (k.rows.getD i []) j λr=>K r H
   |_=>False)
  |_=>Bc P ρ (.load t x) λr=>K r H)
 | .store t x y=>(match ρ x,(ρ y).cells with
  | .hp b ver s i j,aag cs=>(match H[b]? with
   |some (aag k)=>(k.ver=ver/\k.s=s/\i<k.rows.length/\j+cs.length<=s)/\Ck (cs.length==P.cellsOf t&&(P.info? t).isSome) (Pz (splice (k.rows.getD i []) j cs) λrow=>K .top<|H.set b<|aag { k with rows:=k.rows.set i row })
   |_=>False)
  |_,_=>False)
 | .call c=>PD P ρ c.callee c.args.toList c.argTypes.toList H K
 |_=>Bc P ρ op λr=>K r H
def ZP(P:Program)(o:Oper)(ρ:Operand->AV)(H:AH)(r:AV)(H':AH):Prop:=
 ∀(c:Cx)(a:Act)(K:Act->World->Prop)(Q:Exit->Act->World->Prop),c.H=H->HRel c->(∀x∈o.op.operands,c.rel (ρ x)<|a.eval x) ->
  (∀v c',c'.H=H'->HRel c'->Ext c c'->c'.rel r v->K (a.put o.dst v) c'.w)->o.wp P a c.w K Q
def Bd(P:Program)(o:Oper)(ρ:Operand->AV)(r:AV):Prop:=
 ∀(c:Cx)(a:Act),HRel c->(∀x∈o.op.operands,c.rel (ρ x)<|a.eval x)->∃v,(execOp a.eval o).run P c.w= .ok (.value v) c.w/\c.rel r v
theorem Bd.op{P:Program}{o:Oper}{ρ:Operand->AV}{r:AV}(h:Bd P o ρ r)(H:AH):ZP P o ρ H r H:=by
 intro c a K Q hH hr hx hK;obtain⟨v,h1,h2⟩:=h c a hr hx;unfold Oper.wp;rw[h1];exact hK v c hH hr (Ext.refl c) h2
section
variable{c:Cx}{u:Value}
theorem iw{x:Value}(h:c.rel (.v x) u):u=x/\plain x=aae:=by
 cases h with
 |fr h=>cases h with
  |v h=>simp_all
theorem eD{x:Value}(h:plain x=aae):c.rel (.v x) x:=.fr<|.v h
theorem iy(h:c.rel .nil u):u= .slice aah 0 0:=by
 cases h with
 |fr h=>cases h;rfl
theorem uf{cs:List AV}(h:c.rel (.agg cs) u):∃vs,u= .agg vs/\vs.size=cs.length/\(∀(i:Nat)(u:Value),vs[i]?=aag u->u.oneCell'=aae) /\
  ∀(i:Nat)(a:AV)(u:Value),cs[i]?=aag a->vs[i]?=aag u->c.rel a u:=by
 cases h with
 |fr h=>cases h with
  |agg hl h1 h=>exact⟨_,rfl,hl,h1,λi a u h2 h3=>.fr<|h i a u h2 h3⟩
 |agg hl h1 h=>exact⟨_,rfl,hl,h1,h⟩
theorem CE{cs:List AV}(h:c.rel (.tup cs) u):∃vs,u= .tuple vs/\vs.size=cs.length /\
  ∀(i:Nat)(a:AV)(u:Value),cs[i]?=aag a->vs[i]?=aag u->c.rel a u:=by
 cases h with
 |fr h=>cases h with
  |tup hl h=>exact⟨_,rfl,hl,λi a u h2 h3=>.fr<|h i a u h2 h3⟩
 |tup hl h=>exact⟨_,rfl,hl,h⟩
theorem DV{f:Fn}{cs:List AV}(h:c.rel (.fn f cs) u):∃vs,u= .func f #[] vs/\vs.size=cs.length /\
  ∀(i:Nat)(a:AV)(u:Value),cs[i]?=aag a->vs[i]?=aag u->c.rel a u:=by
 cases h with
 |fr h=>cases h with
  |fn hl h=>exact⟨_,rfl,hl,λi a u h2 h3=>.fr<|h i a u h2 h3⟩
 |fn hl h=>exact⟨_,rfl,hl,h⟩
theorem CF{t:TypeId}{x:AV}(h:c.rel (.ifc t x) u):∃y,u= .iface t y/\c.rel x y:=by
 cases h with
 |fr h=>cases h with
  |ifc h=>exact⟨_,rfl,.fr h⟩
 |ifc h=>exact⟨_,rfl,h⟩
theorem xH{n:Nat}{row:Nat->List AV}(h:c.rel (.sl n row) u):FRel c.w c.fz (.sl n row) u:=by
 cases h with
 |fr h=>exact h
theorem xI{row:List AV}{j:Nat}(h:c.rel (.fp row j) u):FRel c.w c.fz (.fp row j) u:=by
 cases h with
 |fr h=>exact h
theorem FE{row:List AV}{j:Nat}(h:c.rel (.fp row j) u):∃ad,u= .pointer (aag ad):=by
 cases xI h;simp_all
theorem FG{b q s i j:Nat}(h:c.rel (.hp b q s i j) u):∃ad,u= .pointer (aag ad):=by
 cases h with
 |fr h=>cases h
 |hp hb h=>simp_all
theorem UD{b s:Nat}(h:c.rel (.mp b s) u):∃g,u= .map (aag g)/\c.born b 0/\∀x,c.hd b 0=aag x->x.s=s+1/\x.g=g:=by
 cases h with
 |fr h=>cases h
 |mp hb h=>simp_all
theorem wX{n:Nat}{row:Nat->List AV}(h:c.rel (.sl n row) u):∃A cap,u= .slice A n cap/\n<=cap/\cap<=9223372036854775807/\(0<n->∃ad,A=aag ad):=by
 cases xH h with
 |sl us hc hm ha hs hu h1 h=>grind
theorem ny{b q s off n:Nat}(h:c.rel (.hs b q s off n) u):∃A cap,u= .slice A n cap/\n<=cap/\cap<=9223372036854775807/\(0<n->∃ad,A=aag ad):=by
 cases h with
 |fr h=>cases h
 |hs hb hc hm h0 h=>grind
end
theorem Vg(c:Cx)(x:Value):c.rel (of1 x) x:=by
 unfold of1
 split
 .exact .fr .nil
 split
 .rename_i h;exact .fr<|.v h
 exact .top
theorem FH(c:Cx)(cs:Array Value)(i:Nat)(a:AV)(u:Value)(h:(cs.toList.map of1)[i]?=some a)(hu:cs[i]?=some u):c.rel a u:=by
 simp_all
 exact h ▸ Vg c u
section
variable{P:Program}{o:Oper}{ρ:Operand->AV}{w:World}
theorem JB(s:Sem Value){v:Value}(h:s.run P w= .ok v w):(do pure (Next.value<|<- s):Sem Next).run P w= .ok (.value v) w:=by
 simp[h]
theorem ay{t:TypeId}{d:TypeDesc}(h:P.underlying t=aag d):(underlying t).run P w= .ok d w:=run_underlying h w
theorem Bl(t:TypeId){d:TypeDesc}(h:P.underlying t=aag d):(isAgg t).run P w= .ok (Bj P t) w:=by
 unfold isAgg Bj;simp[Sem.run_bind,ay h,Result.andThen_ok,h]
 cases d <;> rfl
end
theorem KV(c:Cx)(x:Value):c.rel (KU x) x:=by
 unfold KU
 split
 .exact .fr .nil
 .rename_i cs
  split
  .rename_i h;rw[Bi] at h;refine .agg (by simp) (λi u hu=>?_) λi a u h1 h2=>FH c cs i a u h1 h2
   grind
  exact .top
 split
 .rename_i h;exact .fr<|.v h
 exact .top
theorem SRel.rho{c:Cx}{nt:Nat}{e:Env}{a:Act}(h:SRel c nt e a)(x:Operand):c.rel (rho e x) (a.eval x):=by
 cases x with
 |tmp t=>exact h.rel t
 |const v=>exact KV c v
 |global g=>exact h.heap.gl_rel g
 |func f=>exact .fr (.fn (rfl) λi c u hc=>by grind)
section
variable{P:Program}{o:Oper}{ρ:Operand->AV}{r:AV}
theorem Bd.mk(s:(Operand->Value)->Sem Value)(he:∀f,execOp f o=(do pure (Next.value<|<- s f):Sem Next))
  (h:∀(c:Cx)(a:Act),HRel c->(∀x∈o.op.operands,c.rel (ρ x)<|a.eval x)->∃v,(s a.eval).run P c.w= .ok v c.w/\c.rel r v):Bd P o ρ r:=by
 intro c a hr hx;obtain⟨v,h1,h2⟩:=h c a hr hx
 simp_all
def FI(P:Program)(t:TypeId)(row:List AV)(j:Nat)(r:AV):Prop:=
 (Bj P t=aae/\j+P.cellsOf t<=row.length/\r= .agg ((row.drop j).take<|P.cellsOf t))\/(Bj P t=aaf/\(P.underlying t).isSome=aae/\j<row.length/\r=row.getD j .top)
theorem Bm{t:TypeId}{row:List AV}{j:Nat}{K:AV->Prop}(h:apart P t row j K):∃r,FI P t row j r/\K r:=by
 unfold apart at h
 split at h
 .rename_i hb;obtain⟨h1,h2⟩:=h.elim;exact⟨_,.inl ⟨hb,by grind,rfl⟩,wy.1 h2⟩
 rename_i hb
 split at h
 .rename_i a l ha
  split at h
  .rename_i d hd;have hj:j<row.length:=by
    rcases aaq j row.length with h1|h1
    .exact h1
    rw[List.drop_eq_nil_of_le h1] at ha
    cases ha
   refine⟨_,.inr ⟨hb,by grind,hj,rfl⟩,?_⟩;rw[List.drop_eq_getElem_cons hj] at ha;injection ha with ha _;have e:row.getD j .top=a:=by grind
   rw[e];exact AV.force_iff.1 h
  grind
 simp_all
theorem FJ{t:TypeId}{d:TypeDesc}(h:P.underlying t=aag d):∃i,P.info? t=aag i/\i.size=P.cellsOf t:=by
 unfold Program.underlying at h
 cases hi:P.info? t with
 |none=>simp_all
 |some i=>exact⟨i,rfl,by simp[Program.cellsOf,hi]⟩
theorem FK{t:TypeId}(h:Bj P t=aae):∃d,P.underlying t=aag d:=by
 unfold Bj at h
 grind
def NF(c:Cx)(g o:Nat)(row:List AV):Prop:=∀(q:Nat)(a:AV),row[q]?=aag a->∃u,c.w.cell? ⟨g,o+q,aah⟩=aag u/\u.oneCell'=aae/\c.rel a u
def JC(c:Cx)(g o:Nat)(row:List AV)(us:List Value):Prop:=
 us.length=row.length/\(∀(q:Nat)(u:Value),us[q]?=aag u->c.w.cell? ⟨g,o+q,aah⟩=aag u/\u.oneCell'=aae)/\∀(q:Nat)(a:AV)(u:Value),row[q]?=aag a->us[q]?=aag u->c.rel a u
theorem NF.list{c:Cx}{g o:Nat}{row:List AV}(h:NF c g o row):∃us,JC c g o row us:=by
 refine⟨(aao row.length).map (λq=>if hq:q<row.length then (h q row[q]<|by grind).choose else undef),by simp,λq u hu=>?_,λq a u ha hu=>?_⟩
 .grind
 grind
theorem JC.part{c:Cx}{g o:Nat}{row:List AV}{us:List Value}(h:JC c g o row us)(j n:Nat)(hn:j+n<=row.length):JC c g (o+j) ((row.drop j).take n) ((us.drop j).take n):=by
 obtain⟨h1,h2,h3⟩:=h;refine⟨by grind,λq u hu=>?_,λq a u ha hu=>?_⟩
 .grind
 grind
theorem JC.agg{c:Cx}{g o:Nat}{row:List AV}{us:List Value}(h:JC c g o row us):c.rel (.agg row) (.agg us.toArray):=by
 obtain⟨h1,h2,h3⟩:=h;exact .agg (by omega) (by grind) λi a u ha hu=>h3 i a u ha (by grind)
theorem JC.one{c:Cx}{g o:Nat}{row:List AV}{us:List Value}(h:JC c g o row us){j:Nat}(hj:j<row.length):∃u,us[j]?=aag u/\c.w.cell? ⟨g,o+j,aah⟩=aag u/\c.rel (row.getD j .top) u:=by
 obtain⟨h1,h2,h3⟩:=h;refine⟨us[j],by grind,by grind,?_⟩;exact h3 j _ _ (by grind) (by grind)
theorem add0(g o q:Nat):(⟨g,o,aah⟩:Addr).add q=⟨g,o+q,aah⟩:=by
 unfold Addr.add
 simp_all
theorem zH{c:Cx}{g o j:Nat}{row:List AV}{t:TypeId}(hrow:NF c g o row)(hp:FI P t row j r):∃v,(Instr.loadAt t<|.pointer<|aag ⟨g,o+j,aah⟩).run P c.w= .ok v c.w/\c.rel r v:=by
 obtain⟨us,hus⟩:=hrow.list;rcases hp with⟨hb,hn,rfl⟩|⟨hb,hs,hj,rfl⟩
 .obtain⟨d,hd⟩:=FK hb;obtain⟨i,hi,hsz⟩:=FJ hd;have hpart:=hus.part j (P.cellsOf t) hn;refine⟨_,?_,hpart.agg⟩;have hl:((us.drop j).take<|P.cellsOf t).length=P.cellsOf t:=by have:=hus.1;simp;omega
  have hrun:=run_loadCells_list (P:=P) (w:=c.w) ⟨g,_,_⟩ ((us.drop j).take<|P.cellsOf t) (λq u hu=>by rw[add0];exact(hpart.2.1 q u hu).1);rw[hl] at hrun;simp[Instr.loadAt,Instr.sureAddr,loadVar,Sem.run_bind,Sem.run_pure,Result.andThen_ok,Bl t hd,hb,if_true,run_sizeOf c.w hi,hrun]
 obtain⟨d,hd⟩:=aaJ.1 hs;obtain⟨u,_,hc,hrel⟩:=hus.one hj;refine⟨u,?_,hrel⟩;simp[Instr.loadAt,Instr.sureAddr,loadVar,Sem.run_bind,Sem.run_pure,Result.andThen_ok,Bl t hd,hb]
 grind
theorem Hv{c:Cx}{vs:Array Value}{cs:List AV}{t:TypeId}{j:Nat}(hl:vs.size=cs.length)(h1:∀(i:Nat)(u:Value),vs[i]?=aag u->u.oneCell'=aae)
  (h:∀(i:Nat)(a:AV)(u:Value),cs[i]?=aag a->vs[i]?=aag u->c.rel a u) (hp:FI P t cs j r):∃v,(part t vs j).run P c.w= .ok v c.w/\c.rel r v:=by
 rcases hp with⟨hb,hn,rfl⟩|⟨hb,hs,hj,rfl⟩
 .obtain⟨d,hd⟩:=FK hb;obtain⟨i,hi,hsz⟩:=FJ hd;refine⟨.agg<|vs.extract j<|j+P.cellsOf t,?_,?_⟩
  .simp[part,Sem.run_bind,Result.andThen_ok,Bl t hd,hb,if_true,run_sizeOf c.w hi,Sem.run_pure]
  refine .agg (by grind) (λi u hu=>?_) λi a u ha hu=>?_
  .rw[aaQ] at hu
   grind
  rw[aaQ] at hu;rw[List.getElem?_take] at ha
  split at hu
  .split at ha
   .rw[List.getElem?_drop] at ha;exact h _ _ _ ha hu
   cases ha
  simp_all
 obtain⟨d,hd⟩:=aaJ.1 hs;have hjv:j<vs.size:=by omega
 refine⟨vs[j],?_,?_⟩
 .simp[part,Sem.run_bind,Result.andThen_ok,Bl t hd,hb,aaK,if_false,aaB hjv,Sem.run_pure]
 rw[List.getD,geq hj];exact h j _ _ (by grind) (by grind)
theorem FRel.rowAt{c:Cx}{row:List AV}{j:Nat}{u:Value}(h:FRel c.w c.fz (.fp row j) u):∃g o,u= .pointer (aag ⟨g,o+j,aah⟩)/\NF c g o row:=by
 cases h with
 |fp us hg hlt hu h1 h=>exact⟨_,_,rfl,λq a hq=>⟨_,hu q a hq,h1 q a hq,.fr<|h q a hq⟩⟩
theorem PE{t:TypeId}{x:Operand}{row:List AV}{j:Nat}(ho:o.op= .load t x)(hx:ρ x= .fp row j)(hp:FI P t row j r):Bd P o ρ r:=
 .mk (λf=>Instr.loadAt t<|f x) (λf=>by rw[execOp,ho]) λc a _ h=>by
  have:=h x (by rw[ho];simp[Op.operands]);rw[hx] at this;obtain⟨g,oo,he,hrow⟩:=(xI this).rowAt
  simp_all
  exact zH hrow hp
end
section
variable{P:Program}{o:Oper}{ρ:Operand->AV}{r:AV}
def Td(P:Program)(op:BinOp)(t:TypeId)(x y r:AV):Prop:=
 ∀(c:Cx)(xo yo:Operand)(u v:Value),c.rel x u->c.rel y v->∃q,(do eqGuard op t xo yo u v;binOp op t u v:Sem Value).run P c.w= .ok q c.w/\c.rel r q
theorem Td.of{op:BinOp}{t:TypeId}{x y:AV}{X Y q:Value}(hx:x= .v X)(hy:y= .v Y)(hq:plain q=aae)(h:∀(w:World)(xo yo:Operand),(do eqGuard op t xo yo X Y;binOp op t X Y:Sem Value).run P w= .ok q w):Td P op t x y (.v q):=by
 intro c xo yo u v hu hv;subst hx hy;obtain⟨rfl,_⟩:=iw hu;obtain⟨rfl,_⟩:=iw hv;exact⟨_,h _ _ _,eD hq⟩
theorem Hw(a b:BA):(a.toList==b.toList)=aai (a=b):=by
 rw[ByteArray.toList_eq,ByteArray.toList_eq,Bool.eq_iff_iff]
 constructor
 .obtain⟨⟨a⟩⟩:=a
  simp_all
 simp_all
theorem FL(w:World){t e:TypeId}(ht:P.underlying t=aag (.slice e))(A:Option Addr)(l n:Nat)(xo yo:Operand) :
  (do eqGuard .eql t xo yo (.slice A l n) (.slice aah 0 0);binOp .eql t (.slice A l n) (.slice aah 0 0):Sem Value).run P w= .ok (.bool A.isNone) w:=by
 have:=run_equal_slice_nil w t e A l n ht;simp[eqGuard,binOp,this]
theorem FM(w:World){t e:TypeId}(ht:P.underlying t=aag (.slice e))(A:Option Addr)(l n:Nat)(xo yo:Operand) :
  (do eqGuard .neq t xo yo (.slice A l n) (.slice aah 0 0);binOp .neq t (.slice A l n) (.slice aah 0 0):Sem Value).run P w= .ok (.bool<|!A.isNone) w:=by
 have:=run_equal_slice_nil w t e A l n ht;simp[eqGuard,binOp,this]
theorem Hy{t:TypeId}(h:wW P t=aae):P.underlying t=aag .bool:=by
 unfold wW at h
 grind
theorem Vh{op:BinOp}{t:TypeId}{x y:AV}{K:AV->Prop}(h:DU P op t x y K):∃r,Td P op t x y r/\K r:=by
  unfold DU at h
  split at h
  . rename_i k a k' b;have ck:∀{X:Prop},Ck (aai<|k=k') X->k=k'/\X:=λh=>⟨of_decide_eq_true (Ck.elim h).1,(Ck.elim h).2⟩
    cases op
    all_goals first
      | (obtain ⟨rfl,hw,h⟩:=ck h
         refine⟨_,.of rfl rfl rfl (λw xo yo=>?_),h⟩;simp[eqGuard,binOp,Op.intArith,hw];done)
      | (obtain ⟨rfl,hb,hw,h⟩:=ck h
         refine⟨_,.of rfl rfl rfl (λw xo yo=>?_),h⟩;simp[eqGuard,binOp,Op.intDiv,hb,hw];done)
      | (obtain ⟨rfl,hb,h⟩:=ck h
         refine⟨_,.of rfl rfl rfl (λw xo yo=>?_),h⟩;simp[eqGuard,binOp,Op.intDiv,hb];done)
      | (obtain ⟨rfl,h2⟩:=ck h
         refine⟨_,.of rfl rfl rfl λw xo yo=>?_,h2⟩
         first|(simp[eqGuard,binOp,Op.intBits];done)|(simp[eqGuard,binOp,Op.intCmp];done))
      | (obtain ⟨hb,h⟩:=h
         refine⟨_,.of rfl rfl rfl (λw xo yo=>?_),h⟩;simp[eqGuard,binOp,Op.shift,Int.not_lt.2 hb];done)
  . rename_i a b
    split at h
    . obtain⟨hl,h⟩:=h;refine⟨_,.of rfl rfl rfl λw xo yo=>?_,h⟩;have:=run_string_add_sum (P:=P) w a b hl;simp[eqGuard,binOp,this]
    . refine⟨_,.of rfl rfl rfl λw xo yo=>?_,h⟩;simp only[eqGuard,binOp,Op.stringOp,Hw];simp
    . refine⟨_,.of rfl rfl rfl λw xo yo=>?_,h⟩;simp only[eqGuard,binOp,Op.stringOp,Hw];simp
    exact h.elim
  . rename_i a b
    split at h
    . obtain⟨hk,h⟩:=Ck.elim h;have ht:=Hy hk;refine⟨_,.of rfl rfl rfl λw xo yo=>?_,h⟩;have:=run_eql_bool (P:=P) w t a b ht;simp[eqGuard,this]
    . obtain⟨hk,h⟩:=Ck.elim h;have ht:=Hy hk;refine⟨_,.of rfl rfl rfl λw xo yo=>?_,h⟩;have:=run_neq_bool (P:=P) w t a b ht;simp[eqGuard,this]
    exact h.elim
  . split at h
    . rename_i e ht;refine⟨_,λc xo yo u v hu hv=>?_,h⟩;obtain rfl:=iy hu;obtain rfl:=iy hv;exact⟨_,FL c.w ht aah 0 0 xo yo,eD rfl⟩
    . rename_i e ht;refine⟨_,λc xo yo u v hu hv=>?_,h⟩;obtain rfl:=iy hu;obtain rfl:=iy hv;exact⟨_,FM c.w ht aah 0 0 xo yo,eD rfl⟩
    exact h.elim
  . split at h
    . rename_i e ht;refine⟨_,λc xo yo u v hu hv=>?_,h.2⟩;obtain⟨A,cap,rfl,_,_,hA⟩:=wX hu;obtain rfl:=iy hv;obtain⟨ad,rfl⟩:=hA h.1;exact⟨_,FL c.w ht _ _ _ xo yo,eD rfl⟩
    . rename_i e ht;refine⟨_,λc xo yo u v hu hv=>?_,h.2⟩;obtain⟨A,cap,rfl,_,_,hA⟩:=wX hu;obtain rfl:=iy hv;obtain⟨ad,rfl⟩:=hA h.1;exact⟨_,FM c.w ht _ _ _ xo yo,eD rfl⟩
    exact h.elim
  . split at h
    . rename_i e ht;refine⟨_,λc xo yo u v hu hv=>?_,h.2⟩;obtain⟨A,cap,rfl,_,_,hA⟩:=ny hu;obtain rfl:=iy hv;obtain⟨ad,rfl⟩:=hA h.1;exact⟨_,FL c.w ht _ _ _ xo yo,eD rfl⟩
    . rename_i e ht;refine⟨_,λc xo yo u v hu hv=>?_,h.2⟩;obtain⟨A,cap,rfl,_,_,hA⟩:=ny hu;obtain rfl:=iy hv;obtain⟨ad,rfl⟩:=hA h.1;exact⟨_,FM c.w ht _ _ _ xo yo,eD rfl⟩
    exact h.elim
  simp_all
end
section
variable{P:Program}{o:Oper}{ρ:Operand->AV}{r:AV}
theorem JD{x:Operand}(ho:o.op= .move x\/o.op= .assign x):Bd P o ρ (ρ x):=by
 intro c a _ h;refine⟨_,?_,h x (by rcases ho with ho|ho <;> rw[ho] <;> simp[Op.operands])⟩;rcases ho with ho|ho <;> simp[execOp,ho]
theorem PF{q x y:Operand}{b:Bool}(ho:o.op= .pick q x y)(hq:ρ q= .v (.bool b)):Bd P o ρ (bif b then ρ x else ρ y):=by
 intro c a _ h;have h1:=h q (by rw[ho];simp[Op.operands]);rw[hq] at h1;obtain⟨h1,_⟩:=iw h1;refine⟨if b then a.eval x else a.eval y,by rw[execOp,ho];simp[h1,asBool],?_⟩
 cases b
 .exact h y (by rw[ho];simp[Op.operands])
 exact h x (by rw[ho];simp[Op.operands])
theorem Mv{x:Operand}(ho:o.op= .nilCheck x)(hx:∀(c:Cx)u,c.rel (ρ x) u->∃ad,u= .pointer (some ad)):Bd P o ρ (ρ x):=by
 intro c a _ h;have h1:=h x (by rw[ho];simp[Op.operands]);obtain⟨ad,hu⟩:=hx c _ h1;refine⟨_,?_,h1⟩;simp[execOp,ho,hu]
theorem Mw{op:BinOp}{t t2:TypeId}{x y:Operand}(ho:o.op= .binOp op t x y t2)(hb:Td P op t (ρ x) (ρ y) r):Bd P o ρ r:=
 .mk (λf=>do eqGuard op t x y (f x) (f y);binOp op t (f x)<|f y) (λf=>by rw[execOp,ho]) λc a _ h=>
  hb c x y _ _ (h x<|by rw[ho];simp[Op.operands]) (h y<|by rw[ho];simp[Op.operands])
theorem Te{t:TypeId}{x:Operand}{b:Bool}(ho:o.op= .unOp .not t x)(hx:ρ x= .v (.bool b)):Bd P o ρ (.v<|.bool !b):=
 .mk (λf=>Op.unary .not<|f x) (λf=>by rw[execOp,ho]) λc a _ h=>by
  have h1:=h x (by rw[ho];simp[Op.operands]);rw[hx] at h1;obtain⟨h1,_⟩:=iw h1;exact⟨_,by rw[h1];simp[Op.unary],eD rfl⟩
theorem Tf{t:TypeId}{x:Operand}{k:IntKind}{n:Int}(ho:o.op= .unOp .neg t x)(hx:ρ x= .v (.int k n))(hw:k.wrap (0-n)=0-n):Bd P o ρ (.v<|.int k<|0-n):=
 .mk (λf=>Op.unary .neg<|f x) (λf=>by rw[execOp,ho]) λc a _ h=>by
  have h1:=h x (by rw[ho];simp[Op.operands]);rw[hx] at h1;obtain⟨h1,_⟩:=iw h1;refine⟨_,?_,eD rfl⟩;rw[h1];simp only[Op.unary,Op.intArith,hw,Sem.run_pure]
theorem PG{s d:TypeId}{x:Operand}{ds:TypeDesc}{k k2:IntKind}{n:Int}(ho:o.op= .convert s d x)(hs:P.underlying s=aag ds)(hd:P.underlying d=aag (.int k))(hx:ρ x= .v (.int k2 n))(hw:k.wrap n=n) :
  Bd P o ρ (.v<|.int k n):=
 .mk (λf=>convert s d<|f x) (λf=>by rw[execOp,ho]) λc a _ h=>by
  have h1:=h x (by rw[ho];simp[Op.operands]);rw[hx] at h1;obtain⟨h1,_⟩:=iw h1;refine⟨_,?_,eD rfl⟩;rw[h1];simp[convert,ay hs,ay hd,Conv.intToInt,hw]
theorem NH{s d:TypeId}{x:Operand}{ds:TypeDesc}{b:BA}(ho:o.op= .convert s d x)(hs:P.underlying s=aag ds)(hd:P.underlying d=aag .string)(hx:ρ x= .v (.string b)) :
  Bd P o ρ (.v<|.string b):=
 .mk (λf=>convert s d<|f x) (λf=>by rw[execOp,ho]) λc a _ h=>by
  have h1:=h x (by rw[ho];simp[Op.operands]);rw[hx] at h1;obtain⟨h1,_⟩:=iw h1;simp[convert,Sem.run_bind,ay hs,ay hd,Result.andThen_ok]
  simp_all
theorem NI{t:TypeId}{x:Operand}{d:TypeDesc}(ho:o.op= .makeInterface t x)(ht:P.underlying t=aag d)(hd:∀ms,d ≠ .interface ms):Bd P o ρ (.ifc t<|ρ x):=
 .mk (λf=>Instr.makeInterface t<|f x) (λf=>by rw[execOp,ho]) λc a _ h=>by
  have h1:=h x (by rw[ho];simp[Op.operands]);refine⟨_,?_,.ifc h1⟩;simp only[Instr.makeInterface,Sem.run_bind,ay ht,Result.andThen_ok]
  simp_all
theorem PH{f:Fn}{pK:Array Operand}(ho:o.op= .makeFunc f #[] pK):Bd P o ρ (.fn f<|pK.toList.map ρ):=by
 intro c a _ h;refine⟨.func f #[] (pK.map a.eval),by simp[execOp,ho,Instr.makeFunc],.fn (by simp) λi q u hq hu=>?_⟩;simp only[aaC,aap] at hq;obtain⟨x,hx,rfl⟩:=hq;simp[aaR,aap] at hu;obtain⟨y,hy,rfl⟩:=hu;rw[aav] at hx;rw[hx] at hy;injection hy with hy;subst hy;exact h _ (by simp[Op.operands];grind)
theorem Bn{t:TypeId}(h:P.cellsOf t≠0):∃i,P.info? t=aag i:=by
 unfold Program.cellsOf at h
 cases hi:P.info? t with
 |none=>simp_all
 |some i=>simp_all
theorem FN{s:TypeId}{fs:Array Field}{f:Nat}{fl:Field}(w:World)(ad:Addr)(hs:P.underlying s=aag (.struct fs))(hf:fs[f]?=aag fl)(hc:P.cellsOf fl.type≠0) :
  (Instr.fieldAt s (.pointer<|aag ad) f).run P w= .ok (.pointer<|aag<|ad.add fl.offset) w:=by
 obtain⟨i,hi⟩:=Bn hc;simp[Instr.fieldAt,Sem.run_bind,ay hs,Result.andThen_ok,hf,Instr.sureAddr,Sem.run_pure,fieldPlace,run_sizeOf w hi,hc,if_false]
theorem add_add(g o p q:Nat):(⟨g,o+p,aah⟩:Addr).add q=⟨g,o+(p+q),aah⟩:=by rw[add0];simp_all
theorem KW{s:TypeId}{fs:Array Field}{f:Nat}{fl:Field}{x:Operand}{row:List AV}{j:Nat}(ho:o.op= .fieldAddr s x f)(hs:P.underlying s=aag (.struct fs))(hf:fs[f]?=aag fl)(hc:P.cellsOf fl.type≠0)(hx:ρ x= .fp row j) :
  Bd P o ρ (.fp row<|j+fl.offset):=
 .mk (λq=>Instr.fieldAt s (q x) f) (λq=>by rw[execOp,ho]) λc a _ h=>by
  have h1:=h x (by rw[ho];simp[Op.operands]);rw[hx] at h1;have h2:=xI h1;generalize a.eval x=u at h2
  cases h2 with
  |fp us hg hlt hu h1 h=>
   refine⟨_,FN c.w _ hs hf hc,?_⟩;rw[add_add];exact .fr<|.fp us hg hlt hu h1 h
theorem KX{s:TypeId}{fs:Array Field}{f:Nat}{fl:Field}{x:Operand}{b q z i j:Nat}(ho:o.op= .fieldAddr s x f)(hs:P.underlying s=aag (.struct fs))(hf:fs[f]?=aag fl)(hc:P.cellsOf fl.type≠0)(hx:ρ x= .hp b q z i j) :
  Bd P o ρ (.hp b q z i<|j+fl.offset):=
 .mk (λq=>Instr.fieldAt s (q x) f) (λq=>by rw[execOp,ho]) λc a _ h=>by
  have h1:=h x (by rw[ho];simp[Op.operands]);rw[hx] at h1;generalize a.eval x=u at h1
  cases h1 with
  |fr h=>cases h
  |hp hb h=>
   refine⟨_,FN c.w _ hs hf hc,.hp hb λy hy=>?_⟩;obtain⟨h1,rfl⟩:=h y hy;exact⟨h1,add_add _ _ _ _⟩
theorem NJ{t:TypeId}{fs:Array Field}{f:Nat}{fl:Field}{x:Operand}{cs:List AV}(ho:o.op= .field t x f)(hs:P.underlying t=aag (.struct fs))(hf:fs[f]?=aag fl)(hx:ρ x= .agg cs)(hp:FI P fl.type cs fl.offset r):Bd P o ρ r:=
 .mk (λq=>Instr.field t (q x) f) (λq=>by rw[execOp,ho]) λc a _ h=>by
  have h1:=h x (by rw[ho];simp[Op.operands]);rw[hx] at h1;obtain⟨vs,hu,hl,h2,h3⟩:=uf h1;obtain⟨v,hv,hr⟩:=Hv hl h2 h3 hp;exact⟨v,by simp[Instr.field,Sem.run_bind,ay hs,Result.andThen_ok,hf,hu,asAgg,Sem.run_pure,hv],hr⟩
theorem JE{x:Operand}{i:Nat}{xs:List AV}(ho:o.op= .extract x i)(hx:ρ x= .tup xs)(hi:i<xs.length):Bd P o ρ (xs.getD i .top):=
 .mk (λq=>Instr.extract (q x) i) (λq=>by rw[execOp,ho]) λc a _ h=>by
  have h1:=h x (by rw[ho];simp[Op.operands]);rw[hx] at h1;obtain⟨vs,hu,hl,h3⟩:=CE h1;have hiv:i<vs.size:=by omega
  refine⟨vs[i],by simp[Instr.extract,hu,aaB hiv],?_⟩;rw[List.getD,geq hi];exact h3 i _ _ (by grind) (by grind)
end
section
variable{P:Program}{o:Oper}{ρ:Operand->AV}{r:AV}
theorem Ah{t e:TypeId}(w:World)(ht:P.underlying t=aag (.slice e)){ad:Addr}{n cap:Nat}{k:IntKind}{q:Int}(h0:0<=q)(h1:q<n)(hi:∃i,P.info? e=aag i) :
  (Instr.indexAt t (.slice (aag ad) n cap)<|.int k q).run P w= .ok (.pointer<|aag<|ad.add<|q.toNat*P.cellsOf e) w:=by
 obtain⟨i,hi⟩:=hi;have : 0<=q/\q<n:=⟨h0,h1⟩;simp[Instr.indexAt,asIntOf,Sem.run_bind,Sem.run_pure,Result.andThen_ok,ay ht,this,and_self,if_true,run_sizeOf w hi]
theorem Ai{t e:TypeId}(w:World){n:Nat}(ht:P.underlying t=aag (.array n e)){ad:Addr}{k:IntKind}{q:Int}(h0:0<=q)(h1:q<n)(hi:∃i,P.info? e=aag i) :
  (Instr.indexAt t (.pointer<|aag ad)<|.int k q).run P w= .ok (.pointer<|aag<|ad.add<|q.toNat*P.cellsOf e) w:=by
 obtain⟨i,hi⟩:=hi;have : 0<=q/\q<n:=⟨h0,h1⟩;simp[Instr.indexAt,Instr.sureAddr,asIntOf,Sem.run_bind,Sem.run_pure,Result.andThen_ok,ay ht,this,and_self,if_true,run_sizeOf w hi]
theorem nX{e:TypeId}(h:(P.info? e).isSome=aae):∃i,P.info? e=aag i:=aaJ.1 h
def WW(P:Program)(t:TypeId)(x i r:AV):Prop:=∀(c:Cx)(u v:Value),c.rel x u->c.rel i v->∃q,(Instr.indexAt t u v).run P c.w= .ok q c.w/\c.rel r q
theorem Iu{t:TypeId}{x i:AV}{K:AV->Prop}(h:iK P t x i K):∃r,WW P t x i r/\K r:=by
 unfold iK at h
 split at h
 .rename_i e n row k q ht;obtain⟨⟨h0,h1⟩,hK⟩:=h;obtain⟨hk,hK⟩:=hK.elim
  simp_all
  obtain⟨h2,h3⟩:=hk;refine⟨_,λc u v hu hv=>?_,hK⟩;obtain⟨rfl,_⟩:=iw hv
  cases xH hu with
  |sl us hc hm ha hs hu2 h1' h=>
   obtain⟨rfl,hg,hlt⟩:=ha (by omega);have hq:q.toNat<n:=by omega
   refine⟨_,Ah c.w ht h0 h1<|nX h3,?_⟩;rw[add0];exact .fr<|.fp (us q.toNat) hg hlt (by grind) (by grind) (by grind)
 .rename_i e b ver s off len k q ht;obtain⟨⟨h0,h1⟩,hK⟩:=h;obtain⟨hk,hK⟩:=hK.elim
  simp_all
  obtain⟨h2,h3⟩:=hk;refine⟨_,λc u v hu hv=>?_,hK⟩;obtain⟨rfl,_⟩:=iw hv
  cases hu with
  |fr h=>cases h
  |@hs _ _ _ _ _ cap A hb hc hm h0' h=>
   obtain⟨ad,rfl⟩:=h0' (by omega);refine⟨_,Ah c.w ht h0 h1<|nX h3,.hp hb λy hy=>?_⟩;obtain⟨hs,_,hA,_⟩:=h y hy;have:=hA (by omega);injection this with this;subst this;refine⟨hs,?_⟩;rw[add0]
   grind
 .rename_i n e row j k q ht;obtain⟨⟨h0,h1⟩,hK⟩:=h;obtain⟨h3,hK⟩:=hK.elim;refine⟨_,λc u v hu hv=>?_,hK⟩;obtain⟨rfl,_⟩:=iw hv
  cases xI hu with
  |fp us hg hlt hu2 h1' h=>
   refine⟨_,Ai c.w ht h0 h1<|nX h3,?_⟩;rw[add_add];exact .fr<|.fp us hg hlt hu2 h1' h
 .rename_i n e b ver s i j k q ht;obtain⟨⟨h0,h1⟩,hK⟩:=h;obtain⟨h3,hK⟩:=hK.elim;refine⟨_,λc u v hu hv=>?_,hK⟩;obtain⟨rfl,_⟩:=iw hv
  cases hu with
  |fr h=>cases h
  |hp hb h=>
   refine⟨_,Ai c.w ht h0 h1<|nX h3,.hp hb λy hy=>?_⟩;obtain⟨hs,rfl⟩:=h y hy;exact⟨hs,add_add _ _ _ _⟩
 simp_all
theorem GY{t:TypeId}{x i:Operand}(ho:o.op= .indexAddr t x i)(h:WW P t (ρ x) (ρ i) r):Bd P o ρ r:=
 .mk (λf=>Instr.indexAt t (f x)<|f i) (λf=>by rw[execOp,ho]) λc a _ hx=>h c _ _ (hx x<|by rw[ho];simp[Op.operands]) (hx i<|by rw[ho];simp[Op.operands])
def Y9(P:Program)(t:TypeId)(x i r:AV):Prop:=∀(c:Cx)(u v:Value),c.rel x u->c.rel i v->∃q,(Instr.index t u v).run P c.w= .ok q c.w/\c.rel r q
theorem PI{t:TypeId}{x i:AV}{K:AV->Prop}(h:FC P t x i K):∃r,Y9 P t x i r/\K r:=by
 unfold FC at h
 split at h
 .rename_i n e cs k q ht;obtain⟨⟨h0,h1⟩,hK⟩:=h;obtain⟨h3,hK⟩:=hK.elim;obtain⟨r,hp,hK⟩:=Bm hK;refine⟨r,λc u v hu hv=>?_,hK⟩;obtain⟨rfl,_⟩:=iw hv;obtain⟨vs,rfl,hl,h4,h5⟩:=uf hu;obtain⟨i,hi⟩:=nX h3;obtain⟨y,hy,hr⟩:=Hv hl h4 h5 hp;have : 0<=q/\q<n:=⟨h0,h1⟩;exact⟨y,by simp[Instr.index,asIntOf,Sem.run_bind,Sem.run_pure,Result.andThen_ok,ay ht,this,and_self,if_true,run_sizeOf c.w hi,hy],hr⟩
 .rename_i s k q ht;obtain⟨⟨h0,h1⟩,hK⟩:=h;refine⟨_,λc u v hu hv=>?_,hK⟩;obtain⟨rfl,_⟩:=iw hv;obtain⟨rfl,_⟩:=iw hu;refine⟨_,?_,eD rfl⟩;have hq:q.toNat<s.size:=by omega
  have e:s[q.toNat]?=aag (s.data.getD q.toNat 0):=by
   rw[getElem?_pos s q.toNat hq]
   simp_all
   rfl
  simp[Instr.index,asIntOf,Sem.run_bind,Sem.run_pure,Result.andThen_ok,ay ht,h0,if_true,e]
 simp_all
theorem NL{t:TypeId}{x i:Operand}(ho:o.op= .index t x i)(h:Y9 P t (ρ x) (ρ i) r):Bd P o ρ r:=
 .mk (λf=>Instr.index t (f x)<|f i) (λf=>by rw[execOp,ho]) λc a _ hx=>h c _ _ (hx x<|by rw[ho];simp[Op.operands]) (hx i<|by rw[ho];simp[Op.operands])
end
section
variable{P:Program}{o:Oper}{ρ:Operand->AV}{r:AV}
def Za(P:Program)(t:TypeId)(x:AV)(lo hi mx:Option AV)(r:AV):Prop:=∀(c:Cx)(u:Value)(l h m:Option Value),c.rel x u ->
 (∀a,lo=aag a->∃v,l=aag v/\c.rel a v)->(lo=aah->l=aah)->(∀a,hi=aag a->∃v,h=aag v/\c.rel a v)->(hi=aah->h=aah)->(mx=aah->m=aah) ->
 ∃q,(Instr.sliceAt t u l h m).run P c.w= .ok q c.w/\c.rel r q
theorem vp{x:Option AV}{d:Int}{K:Int->Prop}(h:bound x d K):∃n,K n/\((x=aah/\n=d)\/∃k,x=aag (.v<|.int k n)):=by
 unfold bound at h
 grind
theorem JF(w:World){x:Option AV}{v:Option Value}{n:Int}{d:Nat}{c:Cx}(h:(x=aah/\n=d)\/∃k,x=aag (.v<|.int k n))(hv:∀a,x=aag a->∃u,v=aag u/\c.rel a u)(hn:x=aah->v=aah) :
  (v=aah/\n.toNat=d)\/∃k,v=aag (.int k n):=by
 rcases h with⟨rfl,rfl⟩|⟨k,rfl⟩
 .simp_all
 obtain⟨u,rfl,hu⟩:=hv _ rfl;obtain⟨rfl,_⟩:=iw hu
 simp_all
theorem zI(w:World){xl xh:Option AV}{vl vh:Option Value}{l h:Int}{len cap:Nat}{isS:Bool}{c:Cx}(hl:(xl=aah/\l=0)\/∃k,xl=aag (.v<|.int k l))(hh:(xh=aah/\h=len)\/∃k,xh=aag (.v<|.int k h))
  (hvl:∀a,xl=aag a->∃u,vl=aag u/\c.rel a u) (hnl:xl=aah->vl=aah) (hvh:∀a,xh=aag a->∃u,vh=aag u/\c.rel a u) (hnh:xh=aah->vh=aah) (h0:0<=l) (h1:l<=h) (h2:h<=cap) :
  (Instr.sliceBounds isS len cap vl vh aah).run P w= .ok (l.toNat,h.toNat,cap) w:=by
 have e1:=JF w hh hvh hnh;have e2:=JF w hl hvl hnl;have b1:0<=h/\h<=(cap):=⟨by omega,h2⟩;have b2:0<=l/\l<=(h.toNat):=⟨h0,by omega⟩;unfold Instr.sliceBounds;rcases e1 with⟨rfl,e1⟩|⟨k1,rfl⟩
 .rcases e2 with⟨rfl,e2⟩|⟨k2,rfl⟩
  .simp_all
  rw[e1] at b2;simp[Instr.sliceBound,asIntOf,b2,e1]
 rcases e2 with⟨rfl,e2⟩|⟨k2,rfl⟩
 .simp[Instr.sliceBound,asIntOf,b1,e2]
 simp only[Instr.sliceBound,asIntOf,Sem.run_bind,Sem.run_pure,Result.andThen_ok,b1,and_self,if_true,b2,aaS,aaK,if_false]
theorem PK{t:TypeId}{x:AV}{lo hi mx:Option AV}{K:AV->Prop}(h:Ag P t x lo hi mx K):∃r,Za P t x lo hi mx r/\K r:=by
 unfold Ag at h
 split at h
 .rename_i s ht;obtain⟨l,h,hl⟩:=vp h;obtain⟨hh,h,hhi⟩:=vp h;obtain⟨⟨h0,h1,h2⟩,hK⟩:=h;refine⟨_,λc u vl vh m hu a1 a2 a3 a4 a5=>?_,hK⟩;obtain⟨rfl,_⟩:=iw hu;obtain rfl:=a5 rfl;have er:=zI (P:=P) (isS:=false) (len:=s.size) (cap:=s.size) c.w hl hhi a1 a2 a3 a4 h0 h1 h2;refine⟨_,?_,eD rfl⟩;simp only[Instr.sliceAt,Instr.slice,Sem.run_bind,ay ht,Result.andThen_ok,aaS,aaK,if_false,er,Sem.run_pure]
 .rename_i e n row ht;obtain⟨l,h,hl⟩:=vp h;obtain⟨hh,h,hhi⟩:=vp h;obtain⟨⟨h0,h1,h2,h3,h4⟩,hK⟩:=h;refine⟨_,λc u vl vh m hu a1 a2 a3 a4 a5=>?_,hK⟩;obtain rfl:=a5 rfl;obtain⟨i,hi⟩:=nX h4
  cases xH hu with
  |@sl _ cap s g oo _ A us hc hm ha hs hu2 h1' hx=>
   have er:=zI (P:=P) (isS:=true) (len:=n) (cap:=cap) c.w hl hhi a1 a2 a3 a4 h0 h1 (by omega);refine⟨_,by simp only[Instr.sliceAt,Instr.slice,Sem.run_bind,ay ht,Result.andThen_ok,er,run_sizeOf c.w hi,Sem.run_pure];rfl,.fr ?_⟩;have hse:0<n->s=P.cellsOf _:=λhn=>(hs 0 hn).symm.trans<|h3 0 hn;refine .sl (g:=g) (o:=oo+l.toNat*s) (λi j=>us (i+l.toNat) j) (by omega) (by omega) (λhn=>?_) (λi hi=>hs _<|by omega) (λi j a hi hj=>?_) (λi j a hi hj=>h1' _ j a (by omega) hj) λi j a hi hj=>hx _ j a (by omega) hj
   .obtain⟨rfl,hg,hlt⟩:=ha (by omega);refine⟨?_,hg,hlt⟩;rw[if_neg (by omega)];simp only[aaD,add0,hse (by omega)]
   have:=hu2 (i+l.toNat) j a (by omega) hj;rw[aal] at this;rw[show oo+l.toNat*s+i*s+j=oo+(i*s+l.toNat*s)+j from by omega];exact this
 .rename_i e b ver s off len ht;obtain⟨l,h,hl⟩:=vp h;obtain⟨hh,h,hhi⟩:=vp h;obtain⟨⟨h0,h1,h2,h3,h4⟩,hK⟩:=h;refine⟨_,λc u vl vh m hu a1 a2 a3 a4 a5=>?_,hK⟩;obtain rfl:=a5 rfl;obtain⟨i,hi⟩:=nX h4
  cases hu with
  |fr h=>cases h
  |@hs _ _ _ _ _ cap A hb hc hm h0' hx=>
   have er:=zI (P:=P) (isS:=true) (len:=len) (cap:=cap) c.w hl hhi a1 a2 a3 a4 h0 h1 (by omega);refine⟨_,by simp only[Instr.sliceAt,Instr.slice,Sem.run_bind,ay ht,Result.andThen_ok,er,run_sizeOf c.w hi,Sem.run_pure];rfl,?_⟩;refine .hs hb (by omega) (by omega) (λhn=>?_) λy hy=>?_
   .obtain⟨ad,rfl⟩:=h0' (by omega);rw[if_neg (by omega)];exact⟨_,rfl⟩
   obtain⟨hs,hle,hA,hm'⟩:=hx y hy;refine⟨hs,by omega,λhn=>?_,?_⟩
   .rw[if_neg (by omega),hA (by omega)];simp only[aaD,add0,<- h3];rw[aal,Nat.add_assoc]
   have hlc:l.toNat<=cap:=by omega
   have : (off+l.toNat)*s+(cap-l.toNat)*s=off*s+cap*s:=by
    rw[<- aal,<- aal]
    congr 1
    omega
   omega
 .rename_i n e row j ht;obtain⟨l,h,hl⟩:=vp h;obtain⟨hh,h,hhi⟩:=vp h;obtain⟨⟨h0,h1,h2,h3,h4,h5⟩,hK⟩:=h;refine⟨_,λc u vl vh m hu a1 a2 a3 a4 a5=>?_,hK⟩;obtain rfl:=a5 rfl;obtain⟨i,hi⟩:=nX h4
  cases xI hu with
  |@fp _ _ g oo us hg hlt hu2 h1' hx=>
   have er:=zI (P:=P) (isS:=false) (len:=n) (cap:=n) c.w hl hhi a1 a2 a3 a4 h0 h1 h2;refine⟨_,by simp only[Instr.sliceAt,Sem.run_bind,ay ht,Result.andThen_ok,Instr.sureAddr,er,run_sizeOf c.w hi,Sem.run_pure];rfl,.fr ?_⟩;have hfit:∀i,i<hh.toNat-l.toNat->j+(i+l.toNat)*P.cellsOf e+P.cellsOf e<=row.length:=λi hi=>by
    have : (i+l.toNat+1)*P.cellsOf e<=n*P.cellsOf e:=aau _ (by omega);rw[aal] at this;omega
   refine .sl (g:=g) (o:=oo+j+l.toNat*P.cellsOf e) (s:=P.cellsOf e) (λi q=>us<|j+(i+l.toNat)*P.cellsOf e+q) (by omega) (by omega) (λhn=>?_) (λi hi=>?_) (λi q a hi hq=>?_) (λi q a hi hq=>?_) λi q a hi hq=>?_
   .refine⟨?_,hg,hlt⟩;rw[if_neg (by omega),add0]
   .have:=hfit i hi;simp only[List.length_take,List.length_drop];omega
   all_goals
    grind
 simp_all
theorem NM{t:TypeId}{x:Operand}{lo hi mx:Option Operand}(ho:o.op= .slice t x lo hi mx)(h:Za P t (ρ x) (lo.map ρ) (hi.map ρ) (mx.map ρ) r):Bd P o ρ r:=
 .mk (λf=>Instr.sliceAt t (f x) (lo.map f) (hi.map f)<|mx.map f) (λf=>by rw[execOp,ho]) λc a _ hx=>by
  refine h c _ _ _ _ (hx x<|by rw[ho];simp[Op.operands]) (λq hq=>?_) (λhn=>?_) (λq hq=>?_) (λhn=>?_) (λhn=>?_)
  .obtain⟨y,rfl,rfl⟩:=aap.1 hq;exact⟨_,rfl,hx y<|by rw[ho];simp[Op.operands]⟩
  .simp_all
  .obtain⟨y,rfl,rfl⟩:=aap.1 hq;exact⟨_,rfl,hx y<|by rw[ho];simp[Op.operands]⟩
  .simp_all
  simp_all
end
structure CsRel(c:Cx)(cs:List AV)(vs:Array Value):Prop where
 size:vs.size=cs.length
 one:∀(i:Nat)(u:Value),vs[i]?=aag u->u.oneCell'=aae
 rel:∀(i:Nat)(a:AV)(u:Value),cs[i]?=aag a->vs[i]?=aag u->c.rel a u
theorem CsRel.mk1{c:Cx}{a:AV}{u:Value}(h:c.rel a u)(h1:u.oneCell'=aae):CsRel c [a] #[u]:=by
 refine⟨rfl,λi v hv=>?_,λi b v hb hv=>?_⟩
 .grind
 grind
theorem Bp{c:Cx}{x:AV}{u:Value}{cs:List AV}(h:c.rel x u)(hc:x.cells=aag cs):CsRel c cs u.cells:=by
 cases x with
 |agg cs'=>
  simp[AV.cells,sie] at hc;subst hc;obtain⟨vs,rfl,hl,h1,h2⟩:=uf h;exact⟨hl,h1,h2⟩
 |tup xs=>cases hc
 |top=>cases hc
 |v x=>
  simp[AV.cells,sie] at hc;subst hc;obtain⟨rfl,hp⟩:=iw h;rw[KT hp];exact .mk1 h<|Jy hp
 |nil=>
  simp[AV.cells,sie] at hc;subst hc;obtain rfl:=iy h;exact .mk1 h rfl
 |sl n row=>
  simp[AV.cells,sie] at hc;subst hc;obtain⟨A,cap,rfl,_⟩:=wX h;exact .mk1 h rfl
 |fp row j=>
  simp[AV.cells,sie] at hc;subst hc;obtain⟨A,rfl⟩:=FE h;exact .mk1 h rfl
 |hs b q s i j=>
  simp[AV.cells,sie] at hc;subst hc;obtain⟨A,cap,rfl,_⟩:=ny h;exact .mk1 h rfl
 |hp b q s i j=>
  simp[AV.cells,sie] at hc;subst hc;obtain⟨A,rfl⟩:=FG h;exact .mk1 h rfl
 |mp b s=>
  simp[AV.cells,sie] at hc;subst hc;obtain⟨g,rfl,_⟩:=UD h;exact .mk1 h rfl
 |ifc t y=>
  simp[AV.cells,sie] at hc;subst hc;obtain⟨y,rfl,_⟩:=CF h;exact .mk1 h rfl
 |fn f pK=>
  simp[AV.cells,sie] at hc;subst hc;obtain⟨y,rfl,_⟩:=DV h;exact .mk1 h rfl
theorem wA(c:Cx){z:Value}(h:nW z.cells=true):CsRel c (eC z) z.cells:=by
 rw[Bi] at h;refine⟨by simp[eC],λi u hu=>?_,λi a u ha hu=>FH c _ i a u ha hu⟩
 grind
theorem Mx(off:Nat):∀(l:List Value)(k:Nat)(cs:Array Value),off+k+l.length<=cs.size ->
  ((l.zipIdx k).foldl (λcs (p:Value×Nat)=>cs.setIfInBounds (off+p.2) p.1) cs).size=cs.size /\
  ∀i,((l.zipIdx k).foldl (λcs (p:Value×Nat)=>cs.setIfInBounds (off+p.2) p.1) cs)[i]?=if off+k<=i/\i<off+k+l.length then l[i-(off+k)]? else cs[i]?
 |[],k,cs,_=>⟨rfl,λi=>by
  rw[if_neg (by simp)]
  rfl⟩
 |x::l,k,cs,h=>by
  simp_all
  have ih:=Mx off l (k+1) (cs.setIfInBounds (off+k) x) (by grind)
  grind
theorem zJ(row:List AV)(j:Nat)(cs:List AV)(h:j+cs.length<=row.length)(i:Nat):(splice row j cs)[i]?=if j<=i/\i<j+cs.length then cs[i-j]? else row[i]?:=by
 unfold splice
 by_cases h1:i<j
 .grind
 grind
theorem sS(row:List AV)(j:Nat)(cs:List AV)(h:j+cs.length<=row.length):(splice row j cs).length=row.length:=by
 simp[splice];omega
theorem CsRel.splice{c:Cx}{row cs:List AV}{ws vs:Array Value}(h:CsRel c row ws)(k:CsRel c cs vs)(j:Nat)(hj:j+cs.length<=row.length) :
  CsRel c (splice row j cs) ((vs.toList.zipIdx 0).foldl (λcs (p:Value×Nat)=>cs.setIfInBounds (j+p.2) p.1) ws):=by
 have hk:=k.size;have hh:=h.size;have hf:=Mx j vs.toList 0 ws (by grind);refine⟨by rw[hf.1,sS _ _ _ hj,hh],λi u hu=>?_,λi a u ha hu=>?_⟩
 .rw[hf.2] at hu
  split at hu
  .exact k.one _ u (by simpa using hu)
  exact h.one _ u hu
 rw[hf.2] at hu;rw[zJ _ _ _ hj] at ha
 split at hu
 .rw[if_pos (by grind)] at ha;rw[aav] at hu;exact k.rel _ a u ha (by omega)
 rw[if_neg (by grind)] at ha;exact h.rel _ a u ha hu
theorem Iv{c:Cx}(place:Nat->Option (Nat×Nat)):∀(parts:List<|Nat×AV)(vparts:List<|Nat×Value)(cells out:List AV)(vs:Array Value),parts.length=vparts.length ->
  (∀(i:Nat)(p:Nat×AV)(q:Nat×Value),parts[i]?=aag p->vparts[i]?=aag q->p.1=q.1/\c.rel p.2 q.2)->CsRel c cells vs->FD place cells parts=aag out ->
  ∃vs',Instr.fill place vs vparts=aag vs'/\CsRel c out vs'
 |[],[],cells,out,vs,_,_,h,ho=>by
  simp only[FD,sie] at ho;subst ho;exact⟨vs,rfl,h⟩
 |(i,x)::parts,(i',v)::vparts,cells,out,vs,hl,hp,h,ho=>by
  obtain⟨rfl,hx⟩:=hp 0 _ _ rfl rfl;simp only[FD] at ho
  split at ho
  .rename_i off size cs hpl hcs
   split at ho
   .rename_i hsz;have hc:=Bp hx hcs;obtain⟨vs',h1,h2⟩:=Iv place parts vparts _ out _ (by grind) (λi p q h1 h2=>hp (i+1) p q (by grind)<|by grind) (h.splice hc off<|by omega) ho;refine⟨vs',?_,h2⟩;simp only[Instr.fill];rw[show place i=aag (off,size) from hpl];have e1:v.cells.size=size:=by rw[hc.size,hsz.1]
    have e2 : ¬ ((aai (v.cells.size≠size)||aai (off+v.cells.size>vs.size))=aae):=by
     have:=h.size
     grind
    simp only;rw[if_neg e2];rw[<- h1];rw[<- Array.foldl_toList,Array.toList_zipIdx]
   cases ho
  simp_all
 |[],_::_,_,_,_,hl,_,_,_=>(by grind)
 |_::_,[],_,_,_,hl,_,_,_=>(by grind)
section
variable{P:Program}{o:Oper}{ρ:Operand->AV}{r:AV}
theorem NP{t:TypeId}{parts:Array (Nat×Operand)}{K:AV->Prop}(ho:o.op= .build t parts)(h:JA P t (parts.toList.map λp=>(p.1,ρ p.2)) K):∃r,Bd P o ρ r/\K r:=by
 have key:∀(c:Cx)(a:Act),(∀x∈o.op.operands,c.rel (ρ x)<|a.eval x)->∀(i:Nat)(p:Nat×AV)(q:Nat×Value),(parts.toList.map λp=>(p.1,ρ p.2))[i]?=aag p ->
   ((parts.map λ(i,x)=>(i,a.eval x)).toList)[i]?=aag q->p.1=q.1/\c.rel p.2 q.2:=by
  intro c a hx i p q hp hq;simp only[aaC,aap,aaL] at hp hq;obtain⟨y,hy,rfl⟩:=hp;obtain⟨y',hy',rfl⟩:=hq;rw[hy] at hy';injection hy' with hy';subst hy';refine⟨rfl,hx _ ?_⟩;rw[ho];simp only[Op.operands,List.mem_toArray,List.mem_map]
  grind
 have hlen:∀a:Act,(parts.toList.map λp=>(p.1,ρ p.2)).length=((parts.map λ(i,x)=>(i,a.eval x)).toList).length:=λa=>by simp
 have go:∀(place:Nat->Option (Nat×Nat))(z:Value)(cs:List AV),nW z.cells=aae->FD place (eC z) (parts.toList.map λp=>(p.1,ρ p.2))=aag cs ->
   (∀(a:Act)(vs:Array Value),Instr.fill place z.cells ((parts.map λ(i,x)=>(i,a.eval x)).toList)=aag vs->P.built t ((parts.map λ(i,x)=>(i,a.eval x)).toList)=aag vs)->Bd P o ρ (.agg cs):=by
  intro place z cs hz hf hb;refine .mk (λf=>Instr.build t<|parts.map λ(i,x)=>(i,f x)) (λf=>by rw[execOp,ho]) λc a _ hx=>?_;obtain⟨vs,h1,h2⟩:=Iv place _ _ _ _ _ (hlen a) (key c a hx) (wA c hz) hf;exact⟨.agg vs,run_build c.w t _ vs<|hb a vs h1,.agg h2.size h2.one h2.rel⟩
 unfold JA at h
 split at h
 .rename_i i fs hi hu
  split at h
  .rename_i z places hz hp
   split at h
   .rename_i cs hcs;refine⟨_,go _ z cs h.elim.1 hcs λa vs h1=>?_,h.elim.2⟩;unfold Program.built
    grind
   exact h.elim
  exact h.elim
 .split at h
  .rename_i z ie hz hie
   split at h
   .rename_i cs hcs;refine⟨_,go _ z cs h.elim.1 hcs λa vs h1=>?_,h.elim.2⟩;unfold Program.built
    grind
   exact h.elim
  exact h.elim
 simp_all
theorem Bq{t:TypeId}{x:Operand}{n:Nat}{cl:Call}(ho:o.op= .call cl)(h1:cl.callee= .builtin .len)(h2:cl.args.toList=[x])(h3:cl.argTypes.toList=[t])
  (h:∀(c:Cx)(u:Value),c.rel (ρ x) u->(Builtin.len_ #[t] o.type #[u]).run P c.w= .ok (.int .i64 n) c.w):Bd P o ρ (.v<|.int .i64 n):=by
 obtain⟨callee,args,ts⟩:=cl;obtain rfl:args=#[x]:=by grind
 obtain rfl:ts=#[t]:=by grind
 subst h1;intro c a _ hx;have:=h c _<|hx x (by rw[ho];simp[Op.operands,Call.operands]);refine⟨_,?_,eD rfl⟩;simp[execOp,ho,resolve,invoke,builtin,this]
theorem Tg{x y:Operand}{k k':IntKind}{p q:Int}{cl:Call}(ho:o.op= .call cl)(h1:cl.callee= .builtin .min)(h2:cl.args.toList=[x,y])(hx:ρ x= .v (.int k p))(hy:ρ y= .v (.int k' q)) :
  Bd P o ρ (.v<|.int k<|if q<p then q else p):=by
 obtain⟨callee,args,ts⟩:=cl;obtain rfl:args=#[x,y]:=by grind
 subst h1;intro c a _ h;have h1:=h x (by rw[ho];simp[Op.operands,Call.operands]);have h2:=h y (by rw[ho];simp[Op.operands,Call.operands]);rw[hx] at h1;rw[hy] at h2;refine⟨_,?_,eD rfl⟩;simp[execOp,ho,resolve,invoke,builtin,(iw h1).1,(iw h2).1,Builtin.min_,Builtin.min2]
theorem Ti{x y:Operand}{k k':IntKind}{p q:Int}{cl:Call}(ho:o.op= .call cl)(h1:cl.callee= .builtin .max)(h2:cl.args.toList=[x,y])(hx:ρ x= .v (.int k p))(hy:ρ y= .v (.int k' q)) :
  Bd P o ρ (.v<|.int k<|if q>p then q else p):=by
 obtain⟨callee,args,ts⟩:=cl;obtain rfl:args=#[x,y]:=by grind
 subst h1;intro c a _ h;have h1:=h x (by rw[ho];simp[Op.operands,Call.operands]);have h2:=h y (by rw[ho];simp[Op.operands,Call.operands]);rw[hx] at h1;rw[hy] at h2;refine⟨_,?_,eD rfl⟩;simp[execOp,ho,resolve,invoke,builtin,(iw h1).1,(iw h2).1,Builtin.max_,Builtin.max2]
theorem JG{K:AV->Prop}{cl:Call}(ho:o.op= .call cl)(h:wz P ρ cl.callee cl.args.toList cl.argTypes.toList K):∃r,Bd P o ρ r/\K r:=by
 unfold wz at h
 split at h
 .rename_i x t h1 h2 h3
  split at h
  .rename_i e n row ht hx;refine⟨_,Bq ho h1 h2 h3 λc u hu=>?_,h⟩;rw[hx] at hu;obtain⟨A,cap,rfl,_⟩:=wX hu;simp[Builtin.len_,ay ht]
   rfl
  .rename_i e b q s off n ht hx;refine⟨_,Bq ho h1 h2 h3 λc u hu=>?_,h⟩;rw[hx] at hu;obtain⟨A,cap,rfl,_⟩:=ny hu;simp[Builtin.len_,ay ht]
   rfl
  .rename_i e ht hx;refine⟨_,Bq ho h1 h2 h3 λc u hu=>?_,h⟩;rw[hx] at hu;obtain rfl:=iy hu;simp[Builtin.len_,ay ht]
   rfl
  .rename_i s ht hx;refine⟨_,Bq ho h1 h2 h3 λc u hu=>?_,h⟩;rw[hx] at hu;obtain⟨rfl,_⟩:=iw hu;simp[Builtin.len_,ay ht]
   rfl
  .rename_i n e ht;refine⟨_,Bq ho h1 h2 h3 λc u hu=>?_,h⟩;simp[Builtin.len_,ay ht]
   rfl
  grind
 .rename_i x y h1 h2
  split at h
  .rename_i k a k' b hx hy;exact⟨_,Tg ho h1 h2 hx hy,h⟩
  grind
 .rename_i x y h1 h2
  split at h
  .rename_i k a k' b hx hy;exact⟨_,Ti ho h1 h2 hx hy,h⟩
  grind
 simp_all
theorem Iw{K:AV->Prop}(h:Bc P ρ o.op K):∃r,Bd P o ρ r/\K r:=by
 unfold Bc at h
 split at h
 case h_1 x ho=>exact⟨_,JD<|.inl ho,AV.force_iff.1 h⟩
 case h_2 x ho=>exact⟨_,JD<|.inr ho,AV.force_iff.1 h⟩
 case h_3 c x y ho=>
  split at h
  .rename_i b hb;refine⟨_,PF ho hb,?_⟩;rcases h.elim with⟨rfl,k⟩|⟨rfl,k⟩
   .exact AV.force_iff.1 k
   exact AV.force_iff.1 k
  exact h.elim
 case h_4 x ho=>
  split at h
  .rename_i row j hx;refine⟨ρ x,Mv ho λc u hu=>?_,by rw[hx];exact h⟩;rw[hx] at hu;exact FE hu
  .rename_i b q s i j hx;refine⟨ρ x,Mv ho λc u hu=>?_,by rw[hx];exact h⟩;rw[hx] at hu;exact FG hu
  exact h.elim
 case h_5 t x ho=>
  split at h
  .rename_i row j hx;obtain⟨r,hp,hK⟩:=Bm h;exact⟨r,PE ho hx hp,hK⟩
  exact h.elim
 case h_6 op t x y t2 ho=>
  obtain⟨r,hb,hK⟩:=Vh h;exact⟨r,Mw ho hb,hK⟩
 case h_7 op t x ho=>
  unfold aun at h
  split at h
  .rename_i b hx;exact⟨_,Te ho hx,h⟩
  .rename_i k n hx;exact⟨_,Tf ho hx h.1,h.2⟩
  exact h.elim
 case h_8 s d x ho=>
  unfold NE at h
  split at h
  .rename_i ds k k2 n hs hd hx;exact⟨_,PG ho hs hd hx h.1,h.2⟩
  .rename_i ds b hs hd hx;exact⟨_,NH ho hs hd hx,h⟩
  exact h.elim
 case h_9 t x ho=>
  split at h
  .exact h.elim
  .exact h.elim
  rename_i hd hn
  cases hu:P.underlying t with
  |none=>exact absurd hu hn
  |some d=>exact⟨_,NI ho hu λms e=>hd ms (by rw[hu,e]),(AV.force_iff (K:=λx=>K<|.ifc t x)).1 h⟩
 case h_10 f first pK ho=>
  obtain⟨hk,k⟩:=h.elim;obtain rfl:first=#[]:=by grind
  exact⟨_,PH ho,k⟩
 case h_11 s x f ho=>
  split at h
  .rename_i fs hs
   split at h
   .rename_i fl row j hf hx;exact⟨_,KW ho hs hf (by simpa using h.elim.1) hx,h.elim.2⟩
   .rename_i fl b q z i j hf hx;exact⟨_,KX ho hs hf (by simpa using h.elim.1) hx,h.elim.2⟩
   exact h.elim
  exact h.elim
 case h_12 t x f ho=>
  split at h
  .rename_i fs hs
   split at h
   .rename_i fl cs hf hx;obtain⟨r,hp,hK⟩:=Bm h;exact⟨r,NJ ho hs hf hx hp,hK⟩
   exact h.elim
  exact h.elim
 case h_13 t x i ho=>
  obtain⟨r,hb,hK⟩:=Iu h;exact⟨r,GY ho hb,hK⟩
 case h_14 t x i ho=>
  obtain⟨r,hb,hK⟩:=PI h;exact⟨r,NL ho hb,hK⟩
 case h_15 t x lo hi mx ho=>
  obtain⟨r,hb,hK⟩:=PK h;exact⟨r,NM ho hb,hK⟩
 case h_16 x i ho=>
  split at h
  .rename_i xs hx;exact⟨_,JE ho hx<|of_decide_eq_true h.elim.1,AV.force_iff.1 h.elim.2⟩
  exact h.elim
 case h_17 t parts ho=>exact NP ho h
 case h_18 cl ho=>exact JG ho h
 simp_all
end
section
variable{P:Program}
def Cx.new(c:Cx)(k:ABlk)(cs:Array Value):Cx:={ w:=c.w.alloc (.cells cs k.ty),fz:=c.fz,H:=c.H++[aag k],φ:=λb=>if b=c.H.length then (c.w.heap.size,0) else c.φ b }
theorem KY{c:Cx}{b:Nat}{k:ABlk}(h:c.live b k):b<c.H.length:=(ges h).1
theorem Cx.new_live{c:Cx}{k:ABlk}{cs:Array Value}{b:Nat}{k':ABlk}(h:(c.new k cs).live b k'):(b=c.H.length/\k'=k)\/(b<c.H.length/\c.live b k'):=by
 unfold Cx.live Cx.new at h;rcases Nat.lt_trichotomy b c.H.length with hlt|rfl|hgt
 .rw[gal hlt] at h;exact .inr ⟨hlt,h⟩
 .grind
 grind
theorem Cx.new_live_new(c:Cx)(k:ABlk)(cs:Array Value):(c.new k cs).live c.H.length k:=by
 unfold Cx.live Cx.new;simp
theorem Cx.new_born{c:Cx}{k:ABlk}{cs:Array Value}{b ver:Nat}(h:c.born b ver):(c.new k cs).born b ver:=by
 unfold Cx.born at *;have hlt:b<c.H.length:=by grind
 simp[Cx.new,gal hlt];exact h
theorem kx{c:Cx}{b ver:Nat}(h:c.born b ver):b<c.H.length:=by
 unfold Cx.born at h
 grind
theorem Cx.hd_some{c:Cx}{b ver:Nat}{x:HI}(h:c.hd b ver=aag x):∃k,c.live b k/\k.ver=ver/\∃o,c.w.heap[(c.φ b).1]?=aag o/\hdo k (c.φ b) o=aag x:=by
 unfold Cx.hd at h
 split at h
 .rename_i k hk
  split at h
  .rename_i hv;obtain⟨o,hc,hx⟩:=Option.bind_eq_some_iff.1 h;exact⟨k,hk,hv,o,hc,hx⟩
  cases h
 grind
theorem Cx.hd_of{c:Cx}{b:Nat}{k:ABlk}{o:Obj}(hl:c.live b k)(hc:c.w.heap[(c.φ b).1]?=aag o):c.hd b k.ver=hdo k (c.φ b) o:=by
 unfold Cx.live at hl;unfold Cx.hd
 simp_all
theorem BRel.cells{c:Cx}{b:Nat}{k:ABlk}{cs:Array Value}{fr:Option (Nat×Nat)}(hB:BRel c b k cs fr)(hl:c.live b k)(h:∀x,c.hd b k.ver=aag x->x.s=k.s) :
  ∃f,fr=aag f/\c.w.heap[(c.φ b).1]?=aag (.cells cs k.ty f)/\c.hd b k.ver=aag ⟨(c.φ b).1,(c.φ b).2,k.s,k.rows.length,cs.size⟩:=by
 have h1:=Cx.hd_of hl hB.at_
 cases fr with
 |some f=>exact⟨f,rfl,hB.at_,h1⟩
 |none=>
  have h2:k.s+1=k.s:=h _ h1;omega
theorem Cx.new_ext{c:Cx}(hr:HRel c)(k:ABlk)(cs:Array Value):Ext c (c.new k cs) where
 os:=rfl
 tape:=rfl
 output:=rfl
 size:=by simp[Cx.new]
 keep:=λg hg _=>Below.heap_alloc _ _ _ hg
 fz:=λ_ h=>h
 Af:=λ_ h=>.inl h
 N:=by simp[Cx.new]
 born:=λ_ _ h=>Cx.new_born h
 hd:=λb ver x hb hx=>by
  obtain⟨k',hl,hv,o,hc,hx'⟩:=Cx.hd_some hx;have hlt:=kx hb;rcases Cx.new_live hl with⟨rfl,_⟩|⟨_,hl'⟩
  .omega
  have e:(c.new k cs).φ b=c.φ b:=if_neg (by omega);rw[e] at hc hx';have hh:c.w.heap[(c.φ b).1]?=aag o:=by
   rw[<- hc];exact(Below.heap_alloc _ _ _<|hr.live_lt hl').symm
  rw[<- hv];exact(Cx.hd_of hl' hh).trans hx'
 kO:=λb k' hl=>by
  rcases Cx.new_live hl with⟨rfl,rfl⟩|⟨hlt,hl'⟩
  .simp[Cx.new]
  right
  exact⟨b,k',hl',by rw[show(c.new k cs).φ b=c.φ b from if_neg (by omega)]⟩
theorem Cx.new_rel{c:Cx}(hr:HRel c)(k:ABlk)(cs:Array Value)(hs:0<k.s)(hf:k.rows.length*k.s<=cs.size)(hl:∀(i:Nat)(row:List AV),k.rows[i]?=aag row->row.length=k.s)
  (h:∀(i:Nat)(row:List AV)(j:Nat)(a:AV),k.rows[i]?=aag row->row[j]?=aag a->∃u,cs[i*k.s+j]?=aag u/\u.oneCell'=aae/\c.rel a u):HRel (c.new k cs) where
 gl:=hr.glx<|Cx.new_ext hr k cs
 lt:=λg hg=>by
  have:=hr.lt g hg;simp[Cx.new];omega
 blk:=λb k' hb=>by
  rcases Cx.new_live hb with⟨rfl,rfl⟩|⟨hlt,hl'⟩
  .refine⟨cs,aag (0,0),?_⟩;have e:(c.new k' cs).φ c.H.length=(c.w.heap.size,0):=if_pos rfl;refine⟨by rw[e];exact heap_alloc_new _ _,by rw[e];exact λhz=>aaM _<|hr.lt _ hz,hs,by grind,by simp_all,hl,λi row j a h1 h2=>?_⟩;obtain⟨u,h3,h4,h5⟩:=h i row j a h1 h2;exact⟨u,by simp_all,h4,h5.ext hr<|Cx.new_ext hr k' cs⟩
  obtain⟨cs',fr,hB⟩:=hr.blk b k' hl';have e:(c.new k cs).φ b=c.φ b:=if_neg (by omega);refine⟨cs',fr,⟨by rw[e];exact(Below.heap_alloc _ _ _<|hr.live_lt hl').trans hB.at_,by rw[e];exact hB.nf,hB.pos,hB.free,by rw[e];exact hB.fits,hB.len,λi row j a h1 h2=>?_⟩⟩;obtain⟨u,h3,h4,h5⟩:=hB.rel i row j a h1 h2;exact⟨u,by simp_all,h4,h5.ext hr<|Cx.new_ext hr k cs⟩
 inj:=λb b' k1 k2 h1 h2 hne=>by
  rcases Cx.new_live h1 with⟨rfl,rfl⟩|⟨hlt,hl'⟩
  .rcases Cx.new_live h2 with⟨rfl,rfl⟩|⟨hlt2,hl2⟩
   .omega
   have:=hr.live_lt hl2;rw[show(c.new k1 cs).φ c.H.length=(c.w.heap.size,0) from if_pos rfl,show(c.new k1 cs).φ b'=c.φ b' from if_neg (by omega)];omega
  rcases Cx.new_live h2 with⟨rfl,rfl⟩|⟨hlt2,hl2⟩
  .have:=hr.live_lt hl';rw[show(c.new k2 cs).φ c.H.length=(c.w.heap.size,0) from if_pos rfl,show(c.new k2 cs).φ b=c.φ b from if_neg (by omega)];omega
  rw[show(c.new k cs).φ b=c.φ b from if_neg (by omega),show(c.new k cs).φ b'=c.φ b' from if_neg (by omega)];exact hr.inj b b' k1 k2 hl' hl2 hne
theorem Cx.new_hd(c:Cx)(k:ABlk)(cs:Array Value):(c.new k cs).hd c.H.length k.ver=aag ⟨c.w.heap.size,0,k.s,k.rows.length,cs.size⟩:=by
 have:=Cx.hd_of (Cx.new_live_new c k cs) (by
  rw[show(c.new k cs).φ c.H.length=(c.w.heap.size,0) from if_pos rfl];exact heap_alloc_new _ _)
 rw[show(c.new k cs).φ c.H.length=(c.w.heap.size,0) from if_pos rfl] at this;exact this
theorem Cx.new_bornN(c:Cx)(k:ABlk)(cs:Array Value):(c.new k cs).born c.H.length k.ver:=by
 unfold Cx.born Cx.new;simp
theorem Cx.new_hp(c:Cx)(k:ABlk)(cs:Array Value)(i j:Nat):(c.new k cs).rel (.hp c.H.length k.ver k.s i j) (.pointer<|aag ⟨c.w.heap.size,i*k.s+j,aah⟩):=by
 refine .hp (Cx.new_bornN c k cs) λx hx=>?_;rw[Cx.new_hd] at hx
 grind
theorem Cx.new_hs(c:Cx)(k:ABlk)(cs:Array Value){n cap:Nat}(hn:n<=k.rows.length)(hc:n<=cap)(hm:cap<=9223372036854775807)(hs:cap*k.s<=cs.size):(c.new k cs).rel (.hs c.H.length k.ver k.s 0 n) (.slice (aag ⟨c.w.heap.size,0,aah⟩) n cap):=by
 refine .hs (Cx.new_bornN c k cs) hc hm (λ_=>⟨_,rfl⟩) λx hx=>?_;rw[Cx.new_hd] at hx
 grind
end
section
variable{P:Program}{o:Oper}{ρ:Operand->AV}
def PL(P:Program)(o:Oper)(ρ:Operand->AV)(H:AH)(k:ABlk)(r:AV):Prop:=∀(c:Cx)(a:Act),c.H=H->HRel c->(∀x∈o.op.operands,c.rel (ρ x)<|a.eval x)->∃cs v,(execOp a.eval o).run P c.w= .ok (.value v) (c.new k cs).w/\HRel (c.new k cs)/\(c.new k cs).rel r v
theorem Iy{r:AV}{H:AH}{k:ABlk}(hr:PL P o ρ H k r):ZP P o ρ H r (H++[aag k]):=by
 intro c a K Q hH hc hx hK;obtain⟨cs,v,h1,h2,h3⟩:=hr c a hH hc hx;unfold Oper.wp;rw[h1];exact hK v _ (by rw[<- hH];rfl) h2 (Cx.new_ext hc k cs) h3
theorem CsRel.get{c:Cx}{cs:List AV}{vs:Array Value}(h:CsRel c cs vs){j:Nat}{a:AV}(hj:cs[j]?=aag a):∃u,vs[j]?=aag u/\u.oneCell'=aae/\c.rel a u:=by
 have hlt:=(ges hj).1;have hz:=h.size;have hv:vs[j]?=aag vs[j]:=by grind
 exact⟨_,hv,h.one _ _ hv,h.rel j a _ hj hv⟩
theorem Hz{t:TypeId}{i:TypeInfo}{z:Value}{H:AH}(ho:o.op= .alloc t)(hi:P.info? t=aag i)(hz:i.zero=aag z)(h0:0<(eC z).length)(h1:nW z.cells=aae) :
  PL P o ρ H ⟨0,(eC z).length,t,[eC z]⟩ (.hp H.length 0 (eC z).length 0 0):=by
 intro c a hH hc hx;have hz':=wA c h1;have hsz:=hz'.size;refine⟨z.cells,.pointer<|aag ⟨c.w.heap.size,0,aah⟩,?_,Cx.new_rel hc _ _ h0 (by grind) (λi row h=>?_) λi row j a h1 h2=>?_,?_⟩
 .rw[execOp];have : (Instr.alloc t aae<|.tuple #[]).run P c.w= .ok (.pointer<|aag ⟨c.w.heap.size,0,aah⟩) (c.w.alloc<|.cells z.cells t):=by
   simp[Instr.alloc,zeroValue,typeInfo,hi,hz,newVar,newRow]
  simp_all
  rfl
 .grind
 .match i,h1 with
  |0,h1=>
   simp_all
   simpa using hz'.get h2
  |i+1,h1=>grind
 have:=Cx.new_hp c ⟨0,(eC z).length,t,[eC z]⟩ z.cells 0 0
 simp_all
theorem PM{t:TypeId}{i:TypeInfo}{z:Value}{H:AH}(ho:o.op= .alloc t)(hi:P.info? t=aag i)(hz:i.zero=aag z)(h0:0<(eC z).length)(h1:nW z.cells=aae) :
 ZP P o ρ H (.hp H.length 0 (eC z).length 0 0) (H++[aag ⟨0,(eC z).length,t,[eC z]⟩]):=Iy<|Hz ho hi hz h0 h1
theorem My{t:TypeId}{x:Operand}{cs:List AV}{H:AH}(ho:o.op= .box t x)(hc:(ρ x).cells=aag cs)(h0:0<cs.length) :
  PL P o ρ H ⟨0,cs.length,t,[cs]⟩ (.hp H.length 0 cs.length 0 0):=by
 intro c a hH hr hx;have hx1:=hx x (by rw[ho];simp[Op.operands]);have hz':=Bp hx1 hc;have hsz:=hz'.size;refine⟨(a.eval x).cells,.pointer<|aag ⟨c.w.heap.size,0,aah⟩,?_,Cx.new_rel hr _ _ h0 (by grind) (λi row h=>?_) λi row j a h1 h2=>?_,?_⟩
 .rw[execOp,ho];have : (Instr.box t<|a.eval x).run P c.w= .ok (.pointer<|aag ⟨_,0,_⟩) (c.w.alloc<|.cells (a.eval x).cells t):=rfl
  rfl
 .grind
 .match i,h1 with
  |0,h1=>
   simp_all
   simpa using hz'.get h2
  |i+1,h1=>grind
 have:=Cx.new_hp c ⟨0,cs.length,t,[cs]⟩ (a.eval x).cells 0 0
 simp_all
theorem Vi{t:TypeId}{x:Operand}{cs:List AV}{H:AH}(ho:o.op= .box t x)(hc:(ρ x).cells=aag cs)(h0:0<cs.length) :
 ZP P o ρ H (.hp H.length 0 cs.length 0 0) (H++[aag ⟨0,cs.length,t,[cs]⟩]):=Iy<|My ho hc h0
end
theorem FO:∀(l:List<|Option<|List AV)(rows:List<|List AV),ma l=aag rows->l.length=rows.length/\∀(i:Nat)(row:List AV),rows[i]?=aag row->l[i]?=aag (aag row)
 |[],rows,h=>by simp[ma] at h;simp_all
 |none::_,rows,h=>by simp[ma] at h
 |some c::r,rows,h=>by
  simp[ma] at h
  split at h
  .rename_i cs hcs;injection h with h;obtain⟨h1,h2⟩:=FO r cs hcs
   grind
  grind
theorem FP(size:Nat):∀(aps:List<|Nat×AV)(rows:List<|List AV)(k:Nat)(out0:List AV),aps.map (·.1)=List.range' k aps.length->aps.length=rows.length ->
  (∀(i:Nat)(p:Nat×AV)(row:List AV),aps[i]?=aag p->rows[i]?=aag row->p.2.cells=aag row/\row.length=size)->out0.length=(k+aps.length)*size ->
  ∃out,FD (λq=>aag (q*size,size)) out0 aps=aag out/\out.length=out0.length/\(∀q,q<k*size->out[q]?=out0[q]?) /\
   ∀(i:Nat)(row:List AV)(j:Nat),rows[i]?=aag row->j<size->out[(k+i)*size+j]?=row[j]?
 |[],rows,k,out0,_,hl,_,_=>⟨out0,rfl,rfl,λ_ _=>rfl,by grind⟩
 |(m,x)::aps,[],k,out0,_,hl,_,_=>by grind
 |(m,x)::aps,row0::rows,k,out0,hk,hl,hr,ho=>by
  simp only[List.map_cons,llc,List.range'_succ,List.cons.injEq] at hk;obtain⟨rfl,hk⟩:=hk;obtain⟨hx,hrl⟩:=hr 0 _ _ rfl rfl;simp only[llc] at ho hl;have hfit:m*size+size<=out0.length:=by grind
  obtain⟨out,h1,h2,h3,h4⟩:=FP size aps rows (m+1) (splice out0 (m*size) row0) hk (by omega) (λi p row h1 h2=>hr (i+1) p row (by simp_all)<|by simp_all)
   (by rw[sS _ _ _ (by omega),ho];grind)
  refine⟨out,?_,by rw[h2,sS _ _ _ (by omega)],λq hq=>?_,λi row j hi hj=>?_⟩
  .simp only[FD]
   simp_all
  .rw[h3 q (by grind),zJ _ _ _ (by omega),if_neg (by omega)]
  match i,hi with
  |0,hi=>
   simp only[List.getElem?_cons_zero,sie] at hi;rw[h3 _ (by grind),zJ _ _ _ (by omega)]
   simp_all
  |i+1,hi=>
   grind
section
variable{P:Program}{o:Oper}{ρ:Operand->AV}
theorem Ff(zero:Array Value)(n q:Nat)(hq:q<n)(hz:0<zero.size):((aam n).map (zero[· % zero.size]!))[q]?=zero[q % zero.size]?:=by
 have h1:q % zero.size<zero.size:=Nat.mod_lt _ hz
 simp_all
theorem nY{t e:TypeId}{n:Nat}{parts:Array (Nat×Operand)}{rows:List (List AV)}{H:AH}(ho:o.op= .buildSlice t n parts)(ht:P.underlying t=aag (.slice e))(hall:ma (parts.toList.map λp=>(ρ p.2).cells)=aag rows)
  (h0:0<P.cellsOf e) (hn:n*P.cellsOf e<=16777216) (hd:parts.toList.map (·.1)=aao n) (hz:(((P.info? e).bind (·.zero)).map λz=>z.cells.size)=aag (P.cellsOf e)) (hz1:(((P.info? e).bind (·.zero)).map λz=>nW z.cells)=aag aae)
  (hl:∀row∈rows,row.length=P.cellsOf e):PL P o ρ H ⟨0,P.cellsOf e,e,rows⟩ (.hs H.length 0 (P.cellsOf e) 0 n):=by
 obtain⟨hal,hag⟩:=FO _ _ hall;have hpn:parts.toList.length=n:=by
  have:=congrArg List.length hd;simpa using this
 have hrn:rows.length=n:=by rw[<- hal];simpa using hpn
 cases hi:P.info? e with
 |none=>simp_all
 |some i=>
  cases hzz:i.zero with
  |none=>simp_all
  |some z=>
   simp only[hi,aaN,hzz,aaD,sie] at hz hz1;intro c a hH hr hx;have hsize:(sizeOf e).run P c.w= .ok (P.cellsOf e) c.w:=run_sizeOf c.w hi;have hzero:(zeroValue e).run P c.w= .ok z c.w:=by simp[zeroValue,typeInfo,hi,hzz]
   have hone:∀(q:Nat)(u:Value),z.cells[q]?=aag u->u.oneCell'=aae:=λq u hu=>by
    rw[Bi,Array.all_eq_true] at hz1
    grind
   have hcs0:CsRel c (aaA (n*P.cellsOf e) .top) ((aam<|n*P.cellsOf e).map (z.cells[· % z.cells.size]!)):=by
    refine⟨by simp,λq u hu=>?_,λq a' u ha _=>?_⟩
    .have hq:q<n*P.cellsOf e:=by
      have:=(Array.getElem?_eq_some_iff.1 hu).1;simpa using this
     rw[Ff _ _ _ hq (by omega)] at hu
     grind
    have:=aaw ha;rw[List.mem_replicate] at this;rw[this.2];exact .top
   obtain⟨out,f1,f2,_,f4⟩:=FP (P.cellsOf e) (parts.toList.map λp=>(p.1,ρ p.2)) rows 0 (aaA (n*P.cellsOf e) .top) (by
     rw[List.map_map,llm,hpn,<- List.range_eq_range'];exact hd) (by simp_all) (λi p row h1 h2=>by
     grind) (by grind)
   obtain⟨vs,g1,g2⟩:=Iv (c:=c) _ _ ((parts.map λ(i,x)=>(i,a.eval x)).toList) _ _ _ (by simp) (λi p q hp hq=>by
     simp only[aaC,aap,aaL] at hp hq;obtain⟨y,hy,rfl⟩:=hp;obtain⟨y',hy',rfl⟩:=hq;rw[hy] at hy';injection hy' with hy';subst hy';refine⟨rfl,hx _ ?_⟩;rw[ho];simp only[Op.operands,List.mem_toArray,List.mem_map]
     grind) hcs0 f1
   have hvs:vs.size=n*P.cellsOf e:=by rw[g2.size,f2];simp
   have hcase:n*P.cellsOf e=0->n=0:=λh=>by
    rcases Nat.mul_eq_zero.1 h with h|h
    .exact h
    omega
   refine⟨vs,.slice (aag ⟨c.w.heap.size,0,aah⟩) n n,?_,Cx.new_rel hr _ _ h0 (by simp_all) (λi row h=>hl row<|aaw h) λi row j a' h1 h2=>?_,?_⟩
   .rw[execOp,ho];refine(?_:Sem.run P _ c.w=_);have : (Instr.buildSlice t n<|parts.map λ(i,x)=>(i,a.eval x)).run P c.w= .ok (.slice (aag ⟨c.w.heap.size,0,aah⟩) n n) (c.w.alloc<|.cells vs e):=by
     simp only[Instr.buildSlice,Sem.run_bind,ay ht,Result.andThen_ok,hsize];rw[if_neg (by omega)]
     by_cases h0':n*P.cellsOf e=0
     .rw[if_pos h0'];have hn0:=hcase h0';subst hn0;have hp0:parts=#[]:=by
       cases parts with
       |mk l=>simp_all
      subst hp0;have hv0:vs=#[]:=aaT (by omega);subst hv0;have h00:∀f:Nat->Value,Array.map f (aam 0)=#[]:=λf=>aaT (by simp);simp[Instr.fill,newRow,h00]
     rw[if_neg h0'];simp only[Sem.run_bind,hzero,Result.andThen_ok,Sem.run_pure,g1];simp[newRow]
    simp only[Sem.run_bind,this,Result.andThen_ok,Sem.run_pure]
    rfl
   .have hjr:=hl row<|aaw h1;have hj:j<P.cellsOf e:=by
     have:=(ges h2).1;omega
    have:=f4 i row j h1 hj;rw[aax,h2] at this;exact g2.get this
   subst hH;have:=Cx.new_hs c ⟨0,P.cellsOf e,e,rows⟩ vs (n:=n) (cap:=n) (by simp[hrn]) (aak _) (by
    have : n<=n*P.cellsOf e:=Nat.le_mul_of_pos_right n h0;omega) (by simp only;omega)
   omega
theorem GZ{t e:TypeId}{n:Nat}{parts:Array (Nat×Operand)}{rows:List (List AV)}{H:AH}(ho:o.op= .buildSlice t n parts)(ht:P.underlying t=aag (.slice e))(hall:ma (parts.toList.map λp=>(ρ p.2).cells)=aag rows)
 (h0:0<P.cellsOf e) (hn:n*P.cellsOf e<=16777216) (hd:parts.toList.map (·.1)=aao n) (hz:(((P.info? e).bind (·.zero)).map λz=>z.cells.size)=aag (P.cellsOf e)) (hz1:(((P.info? e).bind (·.zero)).map λz=>nW z.cells)=aag aae)
 (hl:∀row∈rows,row.length=P.cellsOf e):ZP P o ρ H (.hs H.length 0 (P.cellsOf e) 0 n) (H++[aag ⟨0,P.cellsOf e,e,rows⟩]):=Iy<|nY ho ht hall h0 hn hd hz hz1 hl
theorem Iz{n:Int}(h0:0<=n)(h1:n<=9223372036854775807):IntKind.i64.wrap n=n:=IntWalk.i64_in n ⟨by omega,h1⟩
theorem IA{t e:TypeId}{lo co:Operand}{l k:Int}{z:Value}{H:AH}(ho:o.op= .makeSlice t lo co)(ht:P.underlying t=aag (.slice e))(hlo:ρ lo= .v (.int .i64 l))(hco:ρ co= .v (.int .i64 k))(hz:(P.info? e).bind (·.zero)=aag z)
  (h0:0<=l) (h1:l<=k) (hb:k*(P.bytesOf e:Int)<=140737488355328) (hk:k<=140737488355328) (hs:0<P.cellsOf e) (hzs:(eC z).length=P.cellsOf e) (hz1:nW z.cells=aae) :
  ZP P o ρ H (.hs H.length 0 (P.cellsOf e) 0 l.toNat) (H++[aag ⟨0,P.cellsOf e,e,aaA k.toNat<|eC z⟩]):=by
 cases hi:P.info? e with
 |none=>simp_all
 |some i=>
  simp only[hi,aaN] at hz;have hby:P.bytesOf e=i.bytes:=by simp[Program.bytesOf,hi]
  have hzsz:z.cells.size=P.cellsOf e:=by simpa [eC] using hzs
  refine Iy λc a hH hr hx=>?_;have hl1:=(iw<|hlo ▸ hx lo (by rw[ho];simp[Op.operands])).1;have hk1:=(iw<|hco ▸ hx co (by rw[ho];simp[Op.operands])).1;have hzc:=wA c hz1;have hsize:=run_sizeOf c.w hi;have hzero:(zeroValue e).run P c.w= .ok z c.w:=by simp[zeroValue,typeInfo,hi,hz]
  refine⟨(aam<|k.toNat*P.cellsOf e).map (z.cells[· % z.cells.size]!),.slice (aag ⟨c.w.heap.size,0,aah⟩) l.toNat k.toNat,?_,Cx.new_rel hr _ _ hs (by simp) (λq row h=>?_) λq row j a' h1' h2=>?_,?_⟩
  .rw[execOp,ho];have hneg : ¬ ((((aai (k<0)||aai (i.bytes*k>2 ^ 48))||aai (l<0))||aai (l>k))=aae):=by grind
   have : (Instr.makeSlice t (a.eval lo)<|a.eval co).run P c.w= .ok (.slice (aag ⟨c.w.heap.size,0,aah⟩) l.toNat k.toNat) (c.w.alloc (.cells ((aam<|k.toNat*P.cellsOf e).map (z.cells[· % z.cells.size]!)) e)):=by
    rw[hl1,hk1];simp only[Instr.makeSlice,Sem.run_bind,ay ht,Result.andThen_ok,asInt,asIntOf,Sem.run_pure,run_typeInfo c.w hi,Iz (n:=l) h0 (by omega),Iz (n:=k) (by omega) (by omega)];rw[if_neg hneg]
    simp_all
    by_cases h00:k.toNat*P.cellsOf e=0
    .rw[if_pos h00,h00];have h00':∀f:Nat->Value,Array.map f (aam 0)=#[]:=by grind
     simp[newRow,h00']
    rw[if_neg h00];simp[hzero,newRow]
   simp_all
   rfl
  .grind
  .have hq:q<k.toNat:=by grind
   have:=aaw h1';rw[List.mem_replicate] at this;rw[this.2] at h2;have hj:j<P.cellsOf e:=by grind
   have hfit:q*P.cellsOf e+j<k.toNat*P.cellsOf e:=by
    have : (q+1)*P.cellsOf e<=k.toNat*P.cellsOf e:=aau _ (by omega);rw[aal] at this;omega
   simp only;rw[Ff _ _ _ hfit (by omega),hzsz,Nat.mul_comm,Nat.mul_add_mod,Nat.mod_eq_of_lt hj];exact hzc.get h2
  subst hH;have:=Cx.new_hs c ⟨0,P.cellsOf e,e,aaA k.toNat<|eC z⟩ ((aam<|k.toNat*P.cellsOf e).map (z.cells[· % z.cells.size]!)) (n:=l.toNat) (cap:=k.toNat) (by simp;omega) (by omega) (by omega) (by simp);omega
theorem PN{t:TypeId}{x:Operand}{b ver s i j:Nat}{k:ABlk}{r:AV}{H:AH}(ho:o.op= .load t x)(hx:ρ x= .hp b ver s i j)(hb:H[b]?=aag (aag k))(hv:k.ver=ver)(hs:k.s=s)(hi:i<k.rows.length)(hp:FI P t (k.rows.getD i []) j r):ZP P o ρ H r H:=by
 intro c a K Q hH hr hxs hK;have h1:=hx ▸ hxs x (by rw[ho];simp[Op.operands]);generalize hu:a.eval x=u at h1
 cases h1 with
 |fr h=>cases h
 |@hp _ _ _ _ _ ad hbn hh=>
  have hl:c.live b k:=by unfold Cx.live;grind
  obtain⟨cs,fr,hB⟩:=hr.blk b k hl;obtain⟨fr,rfl,hat,hd⟩:=hB.cells hl (by grind);have hrow:NF c (c.φ b).1 ((c.φ b).2+i*s) (k.rows.getD i []):=by
   intro q a' hq;have hri:k.rows[i]?=aag (k.rows.getD i []):=by grind
   obtain⟨u,h1,h2,h3⟩:=hB.rel i _ q a' hri hq;refine⟨u,?_,h2,h3⟩;rw[<- hs,cell_of_row c.w _ _ cs k.ty fr hat];exact h1
  obtain⟨v,hrun,hrel⟩:=zH hrow hp;unfold Oper.wp;have : (execOp a.eval o).run P c.w= .ok (.value v) c.w:=by
   rw[execOp]
   simp_all
  rw[this];exact hK v c hH hr (Ext.refl c) hrel
end
section
variable{P:Program}
theorem lS(g o:Nat)(t:TypeId)(fr:Nat×Nat):∀(vs:List Value)(i:Nat)(cur:Array Value)(w:World),w.heap[g]?=aag (.cells cur t fr)->(∀i,i<cur.size -> ¬ (fr.1<=i/\i<fr.2))->o+i+vs.length<=cur.size->(∀v∈vs,v.oneCell'=aae) ->
  (storeCells ⟨g,o,aah⟩ vs i).run P w= .ok () (w.setRow g (cur.toList.take (o+i)++vs++cur.toList.drop (o+i+vs.length)).toArray)
 |[],i,cur,w,hg,_,_,_=>by
  simp_all
  rw[setRow_self w g cur t fr hg]
  rfl
 |v::rest,i,cur,w,hg,hfz,hl,h1=>by
  have hi:o+i<cur.size:=by grind
  have hadd:(⟨g,o,aah⟩:Addr).add i=⟨g,o+i,aah⟩:=by unfold Addr.add;grind
  have hcell:w.cell? ⟨g,o+i,aah⟩=aag cur[o+i]:=by simp[World.cell?,hg,hi]
  have hfro:w.frozen? ⟨g,o+i,aah⟩=aaf:=by
   have:=hfz _ hi;obtain⟨lo,hi'⟩:=fr;simp only[World.frozen?,hg,Bool.and_eq_false_iff,decide_eq_false_iff_not];omega
  have hst:(store ((⟨g,o,aah⟩:Addr).add i) v).run P w= .ok () (w.setRow g<|cur.setIfInBounds (o+i) v):=by
   rw[hadd,run_store P w _ v _ (h1 v<|by simp),hcell];simp[hfro,setCell_eq_setRow w g (o+i) cur t fr v hg]
  have ih:=lS g o t fr rest (i+1) (cur.setIfInBounds (o+i) v) (w.setRow g<|cur.setIfInBounds (o+i) v) (setRow_heap w g cur _ t _ hg) (by grind) (by grind) (by grind);simp only[storeCells,Sem.run_bind,hst,Result.andThen_ok,ih,setRow_setRow]
  congr 3
  have e:=list_seg_step cur.toList (o+i) v rest (by omega);simpa [Nat.add_assoc] using e
def Cx.upd(c:Cx)(b:Nat)(k:ABlk)(p:Nat×Nat)(cs:Array Value):Cx:={ w:=c.w.setRow p.1 cs,fz:=c.fz,H:=c.H.set b (aag k),φ:=λq=>if q=b then p else c.φ q }
theorem Cx.upd_live{c:Cx}{b q:Nat}{k k':ABlk}{p:Nat×Nat}{cs:Array Value}(h:(c.upd b k p cs).live q k'):(q=b/\k'=k)\/(q≠b/\c.live q k'):=by
 unfold Cx.live Cx.upd at h
 by_cases e:q=b
 .grind
 rw[aay (Ne.symm e)] at h;exact .inr ⟨e,h⟩
theorem Cx.upd_live_self{c:Cx}{b:Nat}{k k0:ABlk}{p:Nat×Nat}{cs:Array Value}(h:c.live b k0):(c.upd b k p cs).live b k:=by
 have:=KY h;unfold Cx.live Cx.upd
 simp_all
theorem Cx.upd_φ{c:Cx}{b q:Nat}{k:ABlk}{p:Nat×Nat}{cs:Array Value}(hne:q≠b):(c.upd b k p cs).φ q=c.φ q:=if_neg hne
theorem Cx.upd_φ_self{c:Cx}{b:Nat}{k:ABlk}{p:Nat×Nat}{cs:Array Value}:(c.upd b k p cs).φ b=p:=if_pos rfl
theorem Cx.upd_ext{c:Cx}(hr:HRel c){b:Nat}{k k0:ABlk}{o:Nat}{cs cs0:Array Value}{fr:Nat×Nat}(hl:c.live b k0)(hB:BRel c b k0 cs0<|aag fr)(hsz:cs.size=cs0.size)
  (hv:(k.ver=k0.ver/\k.s=k0.s/\k.rows.length=k0.rows.length/\o=(c.φ b).2)\/k0.ver<k.ver):Ext c (c.upd b k ((c.φ b).1,o) cs) where
 os:=rfl
 tape:=rfl
 output:=rfl
 size:=by simp[Cx.upd]
 keep:=λg hg hn=>setRow_other _ _ _ _<|Ne.symm<|hn b k0 hl
 fz:=λ_ h=>h
 Af:=λ_ h=>.inl h
 N:=by simp[Cx.upd]
 born:=λq ver h=>by
  unfold Cx.born at *
  by_cases e:q=b
  .subst e;rw[hl] at h;have:=Cx.upd_live_self (k:=k) (p:=((c.φ q).1,o)) (cs:=cs) hl;unfold Cx.live at this
   grind
  simp[Cx.upd,aay (Ne.symm e)];exact h
 hd:=λq ver x hb hx=>by
  obtain⟨k',hl',rfl,o',hc,hx'⟩:=Cx.hd_some hx;rcases Cx.upd_live hl' with⟨rfl,rfl⟩|⟨hne,hl2⟩
  .rw[Cx.upd_φ_self] at hc hx';rcases hv with⟨h1,h2,h3,h4⟩|hv
   .have e:=setRow_heap c.w (c.φ q).1 cs0 cs k0.ty fr hB.at_;have hc2:(c.w.setRow (c.φ q).1 cs).heap[(c.φ q).1]?=aag o':=hc;rw[e] at hc2;obtain rfl:=osl hc2;rw[h1,Cx.hd_of hl hB.at_,<- hx'];simp[hdo,Vf,h2,h3,hsz,h4]
   unfold Cx.born at hb;unfold Cx.live at hl
   grind
  rw[Cx.upd_φ hne] at hc hx';have hne2:=hr.inj q b _ _ hl2 hl hne;have hc2:(c.w.setRow (c.φ b).1 cs).heap[(c.φ q).1]?=aag o':=hc;rw[setRow_other _ _ _ _ hne2] at hc2;exact(Cx.hd_of hl2 hc2).trans hx'
 kO:=λq k' hl'=>by
  right
  rcases Cx.upd_live hl' with⟨rfl,rfl⟩|⟨hne,hl2⟩
  .exact⟨q,k0,hl,by rw[Cx.upd_φ_self]⟩
  exact⟨q,k',hl2,by rw[Cx.upd_φ hne]⟩
theorem Cx.upd_rel{c:Cx}(hr:HRel c){b:Nat}{k k0:ABlk}{o:Nat}{cs cs0:Array Value}{fr:Nat×Nat}(hl:c.live b k0)(hB:BRel c b k0 cs0<|aag fr)(hsz:cs.size=cs0.size)(hty:k.ty=k0.ty)
  (he:Ext c<|c.upd b k ((c.φ b).1,o) cs) (hs:0<k.s) (hf:o+k.rows.length*k.s<=cs.size) (hlen:∀(i:Nat)(row:List AV),k.rows[i]?=aag row->row.length=k.s)
  (h:∀(i:Nat)(row:List AV)(j:Nat)(a:AV),k.rows[i]?=aag row->row[j]?=aag a->∃u,cs[o+i*k.s+j]?=aag u/\u.oneCell'=aae/\c.rel a u) (hse:k.s=k0.s:=by first|rfl|assumption|simp_all):HRel (c.upd b k ((c.φ b).1,o) cs) where
 gl:=hr.glx he
 lt:=λg hg=>by
  have:=hr.lt g hg;simpa [Cx.upd] using this
 blk:=λq k' hq=>by
  rcases Cx.upd_live hq with⟨rfl,rfl⟩|⟨hne,hl2⟩
  .refine⟨cs,_,⟨?_,by rw[Cx.upd_φ_self];exact hB.nf,hs,by rw[hsz,hse];exact hB.free,by rw[Cx.upd_φ_self];exact hf,hlen,λi row j a h1 h2=>?_⟩⟩
   .rw[Cx.upd_φ_self];show _=aag (Obj.cells cs k'.ty fr);rw[hty];exact setRow_heap c.w (c.φ q).1 cs0 cs k0.ty fr hB.at_
   obtain⟨u,h3,h4,h5⟩:=h i row j a h1 h2;rw[Cx.upd_φ_self];exact⟨u,h3,h4,h5.ext hr he⟩
  obtain⟨cs',fr',hB'⟩:=hr.blk q k' hl2;have hne2:=hr.inj q b _ _ hl2 hl hne;refine⟨_,_,⟨?_,by rw[Cx.upd_φ hne];exact hB'.nf,hB'.pos,hB'.free,by rw[Cx.upd_φ hne];exact hB'.fits,hB'.len,λi row j a h1 h2=>?_⟩⟩
  .rw[Cx.upd_φ hne];exact(setRow_other _ _ _ _ hne2).trans hB'.at_
  obtain⟨u,h3,h4,h5⟩:=hB'.rel i row j a h1 h2;rw[Cx.upd_φ hne];exact⟨u,h3,h4,h5.ext hr he⟩
 inj:=λq q' k1 k2 h1 h2 hne=>by
  have key:∀q k1,(c.upd b k ((c.φ b).1,o) cs).live q k1->∃k2,c.live q k2/\((c.upd b k ((c.φ b).1,o) cs).φ q).1=(c.φ q).1:=λq k1 h=>by
   rcases Cx.upd_live h with⟨rfl,rfl⟩|⟨hne,hl2⟩
   .exact⟨k0,hl,by rw[Cx.upd_φ_self]⟩
   exact⟨k1,hl2,by rw[Cx.upd_φ hne]⟩
  obtain⟨x1,l1,e1⟩:=key q k1 h1;obtain⟨x2,l2,e2⟩:=key q' k2 h2;rw[e1,e2];exact hr.inj q q' _ _ l1 l2 hne
end
theorem IB{α:Type}(row:List α)(j:Nat)(cs:List α)(h:j+cs.length<=row.length)(i:Nat):(row.take j++cs++row.drop (j+cs.length))[i]?=if j<=i/\i<j+cs.length then cs[i-j]? else row[i]?:=by
 by_cases h1:i<j
 .grind
 grind
theorem IC{α:Type}(row:List α)(j:Nat)(cs:List α)(h:j+cs.length<=row.length):(row.take j++cs++row.drop (j+cs.length)).length=row.length:=by grind
theorem PO{i i' j j' s:Nat}(hne:i≠i')(hj:j<s)(hj':j'<s):i*s+j≠i'*s+j':=by
 rcases Nat.lt_or_gt_of_ne hne with h|h
 .have : (i+1)*s<=i'*s:=aau _ (by omega)
  grind
 have : (i'+1)*s<=i*s:=aau _ (by omega)
 grind
theorem zK{i n j s:Nat}(hi:i<n)(hj:j<=s):i*s+j<=n*s:=by
 have : (i+1)*s<=n*s:=aau _ (by omega)
 grind
section
variable{P:Program}{o:Oper}{ρ:Operand->AV}
theorem PP{t:TypeId}{x y:Operand}{b ver s i j:Nat}{k:ABlk}{cs:List AV}{H:AH}(ho:o.op= .store t x y)(hx:ρ x= .hp b ver s i j)(hy:(ρ y).cells=aag cs)(hb:H[b]?=aag (aag k))(hv:k.ver=ver)(hs:k.s=s)(hi:i<k.rows.length)
  (hcs:cs.length=P.cellsOf t) (hj:j+cs.length<=s) (ht:(P.info? t).isSome=aae):ZP P o ρ H .top (H.set b<|aag { k with rows:=k.rows.set i (splice (k.rows.getD i []) j cs) }):=by
 intro c a K Q hH hr hxs hK;have h1:=hx ▸ hxs x (by rw[ho];simp[Op.operands]);have h2:=hxs y (by rw[ho];simp[Op.operands]);have hc:=Bp h2 hy;have hcz:=hc.size;obtain⟨ti,hti⟩:=nX ht;generalize hu:a.eval x=u at h1
 cases h1 with
 |fr h=>cases h
 |@hp _ _ _ _ _ ad hbn hh=>
  have hl:c.live b k:=by unfold Cx.live;rw[hH];exact hb
  obtain⟨cur,fr,hB⟩:=hr.blk b k hl;obtain⟨fr,rfl,hat,hd⟩:=hB.cells hl λx hx=>(hh x<|hv ▸ hx).1.trans hs.symm;rw[hv] at hd;obtain⟨_,rfl⟩:=hh _ hd;have hfit:=hB.fits;have hr1:i*k.s+k.s<=k.rows.length*k.s:=zK hi<|aak _;have hrow0:k.rows[i]?=aag (k.rows.getD i []):=by
   rw[List.getD,geq hi]
   rfl
  have hrl:=hB.len i _ hrow0;generalize k.rows.getD i []=row0 at *;have hle:(c.φ b).2+i*s+j+(a.eval y).cells.toList.length<=cur.toList.length:=by
   rw[aaE,aaE,hcz];rw[hs] at hr1 hfit;omega
  have hst:=lS (P:=P) (c.φ b).1 ((c.φ b).2+i*s+j) k.ty fr (a.eval y).cells.toList 0 cur c.w hat (hB.fre fr rfl) (by omega) (λv hv'=>by
   obtain⟨q,hq⟩:=List.getElem?_of_mem hv';exact hc.one q v (by simp_all))
  rw[Nat.add_zero] at hst;generalize hcs2:(cur.toList.take ((c.φ b).2+i*s+j)++(a.eval y).cells.toList++cur.toList.drop ((c.φ b).2+i*s+j+(a.eval y).cells.toList.length)).toArray=cs2 at hst;have hsz2:cs2.size=cur.size:=by
   rw[<- hcs2];have:=IC cur.toList _ _ hle;simpa using this
  have hget:∀q,cs2[q]?=if (c.φ b).2+i*s+j<=q/\q<(c.φ b).2+i*s+j+cs.length then (a.eval y).cells[q-((c.φ b).2+i*s+j)]? else cur[q]?:=λq=>by
   rw[<- hcs2,List.getElem?_toArray,IB _ _ _ hle,aaE,hcz,aav,aav]
  have hext:=Cx.upd_ext (k:={ k with rows:=k.rows.set i (splice row0 j cs) }) (o:=(c.φ b).2) (cs:=cs2) hr hl hB hsz2 (.inl ⟨rfl,rfl,by simp,rfl⟩);have hrel:=Cx.upd_rel (k:={ k with rows:=k.rows.set i (splice row0 j cs) }) (o:=(c.φ b).2) (cs:=cs2) hr hl hB hsz2 rfl hext hB.pos (by simp_all) (λi' row' h=>by
    simp only at h
    by_cases e:i'=i
    .subst e;rw[aaU hi] at h;injection h with h;rw[<- h,sS _ _ _ (by rw[hrl];omega)];omega
    .rw[aay (Ne.symm e)] at h;exact hB.len i' row' h) (λi' row' j' a' h h'=>by
    simp only at h ⊢
    by_cases e:i'=i
    .subst e;rw[aaU hi] at h;injection h with h;rw[<- h,zJ _ _ _ (by omega)] at h';rw[hget]
     split at h'
     .rename_i hj';rw[if_pos (by grind)];obtain⟨u,g1,g2,g3⟩:=hc.get h';exact⟨u,by rw[<- g1,hs];congr 1;omega,g2,g3⟩
     rename_i hj';rw[if_neg (by grind)];exact hB.rel i' row0 j' a' hrow0 h'
    rw[aay (Ne.symm e)] at h;have hj'1:j'<row'.length:=(ges h').1;rw[hB.len i' row' h] at hj'1;rw[hget,if_neg (λhq=>?_)]
    .exact hB.rel i' row' j' a' h h'
    have : i'*k.s+j'≠i*k.s+(i'*k.s+j'-i*s):=by
     refine PO e hj'1 ?_;rw[hs] at hq ⊢;omega
    grind)
  unfold Oper.wp;have hrun:(execOp a.eval o).run P c.w= .ok .skip (c.upd b { k with rows:=k.rows.set i (splice row0 j cs) } ((c.φ b).1,(c.φ b).2) cs2).w:=by
   rw[execOp,ho];simp only[hu];have hsize:(sizeOf t).run P c.w= .ok (P.cellsOf t) c.w:=run_sizeOf c.w hti;have hne : ¬ ((a.eval y).cells.size≠P.cellsOf t):=by
    rw[hcz,hcs];simp
   simp only[Instr.storeAt,Instr.sureAddr,storeVar,Sem.run_bind,Sem.run_pure,Result.andThen_ok,hsize];rw[if_neg hne];simp only[hst,Result.andThen_ok]
   rfl
  rw[hrun];exact hK undef _ (by rw[<- hH];rfl) hrel hext .top
end
def MB(c:Cx)(g o s:Nat)(rows:List<|List AV):Prop:=(∀(i:Nat)(row:List AV),rows[i]?=aag row->row.length=s) /\
 ∀(i:Nat)(row:List AV)(j:Nat)(a:AV),rows[i]?=aag row->row[j]?=aag a->∃u,c.w.cell? ⟨g,o+(i*s+j),aah⟩=aag u/\u.oneCell'=aae/\c.rel a u
def HA(c:Cx)(s:Nat)(rows:List<|List AV)(vs:List Value):Prop:=vs.length=rows.length*s/\(∀v∈vs,v.oneCell'=aae) /\
 ∀(i:Nat)(row:List AV)(j:Nat)(a:AV),rows[i]?=aag row->row[j]?=aag a->∃u,vs[i*s+j]?=aag u/\u.oneCell'=aae/\c.rel a u
theorem MB.list{c:Cx}{g o s:Nat}{rows:List (List AV)}(h:MB c g o s rows):∃vs,HA c s rows vs/\∀(q:Nat)(u:Value),vs[q]?=aag u->c.w.cell? ⟨g,o+q,aah⟩=aag u:=by
 obtain⟨hl,h⟩:=h;have key:∀q,q<rows.length*s->∃u,c.w.cell? ⟨g,o+q,aah⟩=aag u/\u.oneCell'=aae:=λq hq=>by
  have hs:0<s:=by grind
  have h1:q / s<rows.length:=(Nat.div_lt_iff_lt_mul hs).2 hq;have h2:q % s<s:=Nat.mod_lt _ hs;have h3:q=q / s*s+q % s:=by rw[Nat.mul_comm];exact(Nat.div_add_mod q s).symm
  have hr:=geq h1;have hj:q % s<rows[q / s].length:=by rw[hl _ _ hr];exact h2
  obtain⟨u,g1,g2,_⟩:=h _ _ _ _ hr<|geq hj;rw[<- h3] at g1;exact⟨u,g1,g2⟩
 have hget:∀q,q<rows.length*s->((aao<|rows.length*s).map λq=>(c.w.cell? ⟨g,o+q,aah⟩).getD undef)[q]?=c.w.cell? ⟨g,o+q,aah⟩:=by grind
 refine⟨(aao<|rows.length*s).map λq=>(c.w.cell? ⟨g,o+q,aah⟩).getD undef,⟨by simp,λv hv=>?_,λi row j a h1 h2=>?_⟩,λq u hq=>?_⟩
 .grind
 .obtain⟨u,g1,g2,g3⟩:=h i row j a h1 h2;have hi:i<rows.length:=(ges h1).1;have hj:j<s:=by grind
  have hf:=zK (s:=s) hi (j:=j+1) hj;exact⟨u,by rw[hget _ (by omega)];exact g1,g2,g3⟩
 grind
structure SrcIs(P:Program)(c:Cx)(size:Nat)(v:Value)(news:List (List AV))(vs:List Value):Prop where
 len:∀w,(Builtin.lenOf v).run P w= .ok news.length w
 cells:∀w,w.heap=c.w.heap->(Builtin.firstCells size news.length v).run P w= .ok vs.toArray w
 is:HA c size news vs
 rows:∀(i:Nat)(row:List AV),news[i]?=aag row->row.length=size
section
variable{P:Program}{o:Oper}{ρ:Operand->AV}
theorem G3{w w':World}(h:w'.heap=w.heap)(a:Addr):w'.cell? a=w.cell? a:=by
 unfold World.cell?;rw[h]
theorem Bs{c:Cx}{g oo size n cap:Nat}{A:Option Addr}{news:List (List AV)}(hn:news.length=n)(hA:0<n->A=aag ⟨g,oo,aah⟩)(hr:MB c g oo size news):∃vs,SrcIs P c size (.slice A n cap) news vs:=by
 obtain⟨vs,h1,h2⟩:=hr.list;refine⟨vs,⟨λw=>by simp[Builtin.lenOf,hn],λw hw=>?_,h1,hr.1⟩⟩;rcases Nat.eq_zero_or_pos n with h0|h0
 .have hv:vs=[]:=aaV (by rw[h1.1,hn,h0,Nat.zero_mul]);subst hv
  cases A with
  |none=>simp[Builtin.firstCells]
  |some ad=>
   have:=run_loadCells_list (P:=P) w ad [] (λj v h=>by grind)
   simp_all
   simp only[Builtin.firstCells,hn,h0,Nat.zero_mul,this]
 have hA':=hA h0;subst hA';have:=run_loadCells_list (P:=P) w ⟨g,oo,aah⟩ vs (λj v h=>by rw[add0,G3 hw];simp_all);rw[h1.1] at this;simp only[Builtin.firstCells,this]
theorem PQ{H:AH}{t:TypeId}{size:Nat}{x:AV}{K:List (List AV)->Prop}(h:WV H P t size x K):∃news,K news/\∀(c:Cx)(u:Value),c.H=H->HRel c->c.rel x u->∃vs,SrcIs P c size u news vs:=by
 unfold WV at h
 split at h
 .refine⟨[],h,λc u _ _ hu=>?_⟩;obtain rfl:=iy hu;exact Bs (g:=0) (oo:=0) rfl (λh=>absurd h<|by omega) ⟨λi row h=>by simp at h,λi row j a h=>by simp at h⟩
 .rename_i n row;refine⟨_,h.2,λc u _ _ hu=>?_⟩
  cases xH hu with
  |@sl _ cap s g oo _ A us hc hm ha hs hu2 h1' hx=>
   have hss:0<n->s=size:=λhn=>(hs 0 hn).symm.trans<|h.1 0 hn;have hget:∀(i:Nat)(r:List AV),((List.range n).map row)[i]?=some r->i<n/\r=row i:=λi r hi=>by
    have hlt:i<n:=by
     have:=(ges hi).1;simpa using this
    rw[List.getElem?_map,List.getElem?_range hlt,Option.map_some,sie] at hi;exact⟨hlt,hi.symm⟩
   refine Bs (g:=g) (oo:=oo) (by simp) (λhn=>(ha hn).1) ⟨λi r hi=>?_,λi r j a hi hj=>?_⟩
   .obtain⟨hlt,rfl⟩:=hget i r hi;exact h.1 i hlt
   obtain⟨hlt,rfl⟩:=hget i r hi;have:=hu2 i j a hlt hj;rw[hss (by omega),Nat.add_assoc] at this;exact⟨_,this,h1' i j a hlt hj,.fr<|hx i j a hlt hj⟩
 .rename_i b ver s off len
  split at h
  .rename_i k hk;obtain⟨⟨h1,h2,h3,h5⟩,h4⟩:=h;refine⟨_,h4,λc u hH hr hu=>?_⟩;generalize hu':u=u' at hu
   cases hu with
   |fr h=>cases h
   |@hs _ _ _ _ _ cap A hb hc hm h0' hx=>
    have hl:c.live b k:=by unfold Cx.live;rw[hH];exact hk
    obtain⟨cur,fr,hB⟩:=hr.blk b k hl;obtain⟨fr,rfl,hat,hd⟩:=hB.cells hl (λx hx'=>by have:=(hx x<|h1 ▸ hx').1;omega);rw[h1] at hd;obtain⟨_,hle,hA,_⟩:=hx _ hd;have hget:∀(i:Nat)(r:List AV),((k.rows.drop off).take len)[i]?=some r->k.rows[off+i]?=some r:=λi r hi=>by
     rw[List.getElem?_take] at hi
     split at hi
     .rw[List.getElem?_drop] at hi;exact hi
     cases hi
    refine Bs (g:=(c.φ b).1) (oo:=(c.φ b).2+off*s) (by simp at hle ⊢;omega) (λhn=>hA<|by omega) ⟨λi r hi=>?_,λi r j a hi hj=>?_⟩
    .rw[hB.len _ r (hget i r hi),h2,h3]
    obtain⟨u,g1,g2,g3⟩:=hB.rel _ r j a (hget i r hi) hj;refine⟨u,?_,g2,g3⟩;rw[cell_of_row c.w _ _ cur k.ty fr hat,<- g1,h2,<- h3,Nat.add_mul]
    congr 1
    omega
  exact h.elim
 .rename_i s;obtain⟨⟨_,rfl⟩,h⟩:=h;refine⟨_,h,λc u _ _ hu=>?_⟩;obtain⟨rfl,_⟩:=iw hu;have hget:∀(i:Nat)(r:List AV),(s.data.toList.map λb=>[AV.v (.int .u8 (b.toNat:Int))])[i]?=some r->∃b,s.data.toList[i]?=some b/\r=[.v (.int .u8 (b.toNat:Int))]:=λi r hi=>by
   rw[List.getElem?_map,Option.map_eq_some_iff] at hi;obtain⟨b,hb,rfl⟩:=hi;exact⟨b,hb,rfl⟩
  refine⟨s.data.toList.map λb=>.int .u8 (b.toNat:Int),⟨λw=>by simp[Builtin.lenOf],λw _=>?_,⟨by simp,λv hv=>?_,λi r j a hi hj=>?_⟩,λi r hi=>?_⟩⟩
  .have e:(List.map (λb=>[AV.v (.int .u8 (b.toNat:Int))]) s.data.toList).length=s.size:=by simp
   rw[e];have e2:s.extract 0 s.size=s:=ByteArray.extract_zero_size;simp only[Builtin.firstCells,e2,Sem.run_pure]
   congr 1
   exact Array.ext' (by simp)
  .rw[List.mem_map] at hv;obtain⟨b,_,rfl⟩:=hv
   rfl
  .obtain⟨b,hb,rfl⟩:=hget i r hi
   match j,hj with
   |0,hj=>
    simp only[List.getElem?_cons_zero,sie] at hj;subst hj;refine⟨.int .u8 (b.toNat:Int),?_,rfl,eD rfl⟩;rw[Nat.mul_one,Nat.add_zero,List.getElem?_map,hb]
    rfl
   |j+1,hj=>simp at hj
  obtain⟨b,hb,rfl⟩:=hget i r hi
  rfl
 simp_all
end
section
variable{P:Program}{o:Oper}{ρ:Operand->AV}
theorem Bt{w w':World}{t u ty e:TypeId}(ht:P.underlying t=aag (.slice e))(hu:(∃e2,P.underlying u=aag (.slice e2))\/P.underlying u=aag .string){i:TypeInfo}(hi:P.info? e=aag i){A:Option Addr}{n cap m:Nat}{x:Value}{news:Array Value}
  (hlen:(Builtin.lenOf x).run P w= .ok m w) (hfc:(Builtin.firstCells i.size m x).run P w= .ok news w) (hroom:n+m<=cap)
  (hn:A=aah->w'=w) (hsome:∀a,A=aag a->(storeCells (a.add<|n*i.size) news.toList).run P w= .ok () w') :
  (Builtin.append_ #[t,u] ty #[.slice A n cap,x]).run P w= .ok (.slice A (n+m) cap) w':=by
 rcases hu with⟨e2,hu⟩|hu
 .cases A with
  |none=>
   obtain rfl:=hn rfl;simp[Builtin.append_,run_underlying ht,run_underlying hu,sizeOf,typeInfo,hi,hlen,hroom,hfc]
  |some a=>
   have hst:=hsome a rfl;simp[Builtin.append_,run_underlying ht,run_underlying hu,sizeOf,typeInfo,hi,hlen,hroom,hfc,hst]
 cases A with
 |none=>
  obtain rfl:=hn rfl;simp[Builtin.append_,run_underlying ht,run_underlying hu,sizeOf,typeInfo,hi,hlen,hroom,hfc]
 |some a=>
  have hst:=hsome a rfl;simp[Builtin.append_,run_underlying ht,run_underlying hu,sizeOf,typeInfo,hi,hlen,hroom,hfc,hst]
theorem vN{w:World}{t u ty e:TypeId}(ht:P.underlying t=aag (.slice e))(hu:(∃e2,P.underlying u=aag (.slice e2))\/P.underlying u=aag .string){i:TypeInfo}(hi:P.info? e=aag i){z:Value}(hz:i.zero=aag z){A:Option Addr}{n cap m:Nat}{x:Value}{olds news:Array Value}
  (hlen:(Builtin.lenOf x).run P w= .ok m w) (hfo:(Builtin.firstCells i.size n<|.slice A n cap).run P w.drew= .ok olds w.drew) (hfc:(Builtin.firstCells i.size m x).run P w.drew= .ok news w.drew) (hg:cap<n+m)
  (h63:n+m<=35184372088832) (hfit:(n+m)*i.bytes<=35184372088832) :
  ∃nc,n+m<=nc/\nc<=9223372036854775807/\(Builtin.append_ #[t,u] ty #[.slice A n cap,x]).run P w= .ok (.slice (aag ⟨w.heap.size,0,aah⟩) (n+m) nc) (w.drew.alloc<|.cells (olds++news++Builtin.zeroCells z.cells (nc-(n+m))) e):=by
 have hge:=grownCap_ge w (n+m) cap e;have hcm:=grownCap_le_maxLen w (n+m) cap e (by simp only[maxLen];omega);simp only[maxLen] at hcm;refine⟨grownCap w (n+m) cap e,hge,by omega,?_⟩;have hn : ¬ (n+m<=cap):=by omega
 have h63' : ¬ (9223372036854775807<((n:Int)+(m:Int))):=by omega
 have hfit':=growslice_fits (bytes:=i.bytes) hg (by omega);have h48' : ¬ (281474976710656<Builtin.nextslicecap (n+m) cap*i.bytes):=by omega
 rcases hu with⟨e2,hu⟩|hu
 .simp[Builtin.append_,run_underlying ht,run_underlying hu,sizeOf,typeInfo,zeroValue,hi,hz,hlen,hn,h63',h48',Question.forced,hfo,hfc,newRow,grownCap]
 simp[Builtin.append_,run_underlying ht,run_underlying hu,sizeOf,typeInfo,zeroValue,hi,hz,hlen,hn,h63',h48',Question.forced,hfo,hfc,newRow,grownCap]
theorem nZ(zs:Array Value)(n:Nat):(Builtin.zeroCells zs n).size=n*zs.size:=by simp[Builtin.zeroCells]
end
def Cx.drew(c:Cx):Cx:={ c with w:=c.w.drew }
theorem Cx.drew_ext(c:Cx):Ext c c.drew:=⟨rfl,rfl,rfl,aak _,λ_ _ _=>rfl,λ_ h=>h,λ_ h=>.inl h,aak _,λ_ _ h=>h,λ_ _ _ _ h=>h,λb k h=>.inr ⟨b,k,h,rfl⟩⟩
theorem Cx.drew_rel{c:Cx}(h:HRel c):HRel c.drew where
 gl:=h.glx c.drew_ext
 lt:=h.lt
 blk:=λb k hl=>by
  obtain⟨cs,fr,hB⟩:=h.blk b k hl;exact⟨cs,fr,⟨hB.at_,hB.nf,hB.pos,hB.free,hB.fits,hB.len,λi row j a h1 h2=>by
   obtain⟨u,g1,g2,g3⟩:=hB.rel i row j a h1 h2;exact⟨u,g1,g2,g3.ext h c.drew_ext⟩⟩⟩
 inj:=h.inj
def Cx.mov(c:Cx)(b:Nat)(k:ABlk)(cs:Array Value):Cx:={ w:=c.w.alloc (.cells cs k.ty),fz:=c.fz,H:=c.H.set b (aag k),φ:=λq=>if q=b then (c.w.heap.size,0) else c.φ q }
theorem Cx.mov_live{c:Cx}{b q:Nat}{k k':ABlk}{cs:Array Value}(h:(c.mov b k cs).live q k'):(q=b/\k'=k)\/(q≠b/\c.live q k'):=Cx.upd_live (p:=(0,0)) (cs:=#[]) h
theorem Cx.mov_live_self{c:Cx}{b:Nat}{k k0:ABlk}{cs:Array Value}(h:c.live b k0):(c.mov b k cs).live b k:=Cx.upd_live_self (p:=(0,0)) (cs:=#[]) h
theorem Cx.mov_φ{c:Cx}{b q:Nat}{k:ABlk}{cs:Array Value}(hne:q≠b):(c.mov b k cs).φ q=c.φ q:=if_neg hne
theorem Cx.mov_φ_self{c:Cx}{b:Nat}{k:ABlk}{cs:Array Value}:(c.mov b k cs).φ b=(c.w.heap.size,0):=if_pos rfl
theorem Cx.mov_ext{c:Cx}(hr:HRel c){b:Nat}{k k0:ABlk}{cs:Array Value}(hl:c.live b k0)(hv:k0.ver<k.ver):Ext c (c.mov b k cs) where
 os:=rfl
 tape:=rfl
 output:=rfl
 size:=by simp[Cx.mov]
 keep:=λg hg _=>Below.heap_alloc _ _ _ hg
 fz:=λ_ h=>h
 Af:=λ_ h=>.inl h
 N:=by simp[Cx.mov]
 born:=λq ver h=>by
  unfold Cx.born at *
  by_cases e:q=b
  .subst e;rw[hl] at h;have:=Cx.mov_live_self (k:=k) (cs:=cs) hl;unfold Cx.live at this
   grind
  simp[Cx.mov,aay (Ne.symm e)];exact h
 hd:=λq ver x hb hx=>by
  obtain⟨k',hl',rfl,o,hc,hx'⟩:=Cx.hd_some hx;rcases Cx.mov_live hl' with⟨rfl,rfl⟩|⟨hne,hl2⟩
  .unfold Cx.born at hb;unfold Cx.live at hl
   grind
  rw[Cx.mov_φ hne] at hc hx';have hc2:c.w.heap[(c.φ q).1]?=aag o:=by
   rw[<- hc];exact(Below.heap_alloc _ _ _<|hr.live_lt hl2).symm
  exact(Cx.hd_of hl2 hc2).trans hx'
 kO:=λq k' hl'=>by
  rcases Cx.mov_live hl' with⟨rfl,rfl⟩|⟨hne,hl2⟩
  .rw[Cx.mov_φ_self];omega
  right
  exact⟨q,k',hl2,by rw[Cx.mov_φ hne]⟩
theorem Cx.mov_rel{c:Cx}(hr:HRel c){b:Nat}{k k0:ABlk}{cs:Array Value}(hl:c.live b k0)(hv:k0.ver<k.ver)(hs:0<k.s)(hf:k.rows.length*k.s<=cs.size)(hlen:∀(i:Nat)(row:List AV),k.rows[i]?=aag row->row.length=k.s)
  (h:∀(i:Nat)(row:List AV)(j:Nat)(a:AV),k.rows[i]?=aag row->row[j]?=aag a->∃u,cs[i*k.s+j]?=aag u/\u.oneCell'=aae/\c.rel a u):HRel (c.mov b k cs) where
 gl:=hr.glx<|Cx.mov_ext hr hl hv
 lt:=λg hg=>by
  have:=hr.lt g hg;simp[Cx.mov];omega
 blk:=λq k' hq=>by
  have he:=Cx.mov_ext (cs:=cs) hr hl hv;rcases Cx.mov_live hq with⟨rfl,rfl⟩|⟨hne,hl2⟩
  .refine⟨cs,aag (0,0),⟨by rw[Cx.mov_φ_self];exact heap_alloc_new _ _,by rw[Cx.mov_φ_self];exact λhz=>aaM _<|hr.lt _ hz,hs,by grind,by rw[Cx.mov_φ_self];omega,hlen,λi row j a h1 h2=>?_⟩⟩;obtain⟨u,h3,h4,h5⟩:=h i row j a h1 h2;exact⟨u,by rw[Cx.mov_φ_self];simp_all,h4,h5.ext hr he⟩
  obtain⟨cs',fr,hB⟩:=hr.blk q k' hl2;refine⟨_,fr,⟨by rw[Cx.mov_φ hne];exact(Below.heap_alloc _ _ _<|hr.live_lt hl2).trans hB.at_,by rw[Cx.mov_φ hne];exact hB.nf,hB.pos,hB.free,by rw[Cx.mov_φ hne];exact hB.fits,hB.len,λi row j a h1 h2=>?_⟩⟩;obtain⟨u,h3,h4,h5⟩:=hB.rel i row j a h1 h2;exact⟨u,by rw[Cx.mov_φ hne];exact h3,h4,h5.ext hr he⟩
 inj:=λq q' k1 k2 h1 h2 hne=>by
  rcases Cx.mov_live h1 with⟨rfl,rfl⟩|⟨hn1,l1⟩
  .rcases Cx.mov_live h2 with⟨rfl,rfl⟩|⟨hn2,l2⟩
   .omega
   have:=hr.live_lt l2;rw[Cx.mov_φ_self,Cx.mov_φ hn2];omega
  rcases Cx.mov_live h2 with⟨rfl,rfl⟩|⟨hn2,l2⟩
  .have:=hr.live_lt l1;rw[Cx.mov_φ_self,Cx.mov_φ hn1];omega
  rw[Cx.mov_φ hn1,Cx.mov_φ hn2];exact hr.inj q q' _ _ l1 l2 hne
theorem WX{c:Cx}{b:Nat}{k:ABlk}{cs:Array Value}{t:TypeId}{fr:Nat×Nat}{A:Option Addr}{n cap:Nat}(hl:c.live b k)(hc:c.w.heap[(c.φ b).1]?=aag (.cells cs t fr))(hn:n<=k.rows.length)(hcap:n<=cap)(hm:cap<=9223372036854775807)
  (hA:0<cap->A=aag ⟨(c.φ b).1,(c.φ b).2,aah⟩) (hfit:(c.φ b).2+cap*k.s<=cs.size):c.rel (.hs b k.ver k.s 0 n) (.slice A n cap):=by
 have hb:c.born b k.ver:=by
  unfold Cx.born;unfold Cx.live at hl
  grind
 refine .hs hb hcap hm (λh=>⟨_,hA h⟩) λx hx=>?_;replace hx:aag (⟨_,_,_,_,_⟩)=aag x:=(Cx.hd_of hl hc).symm.trans hx
 grind
section
variable{P:Program}{o:Oper}{ρ:Operand->AV}
theorem HA.get{c:Cx}{s:Nat}{rows:List (List AV)}{vs:List Value}(h:HA c s rows vs){i:Nat}{row:List AV}{j:Nat}{a:AV}(h1:rows[i]?=aag row)(h2:row[j]?=aag a):∃u,vs[i*s+j]?=aag u/\u.oneCell'=aae/\c.rel a u:=h.2.2 i row j a h1 h2
theorem ug{a:Act}{w:World}{cl:Call}{x y:Operand}{t u:TypeId}(ho:o.op= .call cl)(h1:cl.callee= .builtin .append)(h2:cl.args.toList=[x,y])(h3:cl.argTypes.toList=[t,u]){v:Value}{w':World}
  (h:(Builtin.append_ #[t,u] o.type #[a.eval x,a.eval y]).run P w= .ok v w'):(execOp a.eval o).run P w= .ok (.value v) w':=by
 obtain⟨callee,args,ts⟩:=cl;obtain rfl:args=#[x,y]:=by grind
 obtain rfl:ts=#[t,u]:=by grind
 subst h1;simp[execOp,ho,resolve,invoke,builtin,h]
theorem wY{cl:Call}{x y:Operand}(ho:o.op= .call cl)(h2:cl.args.toList=[x,y]):x∈o.op.operands/\y∈o.op.operands:=by
 have : cl.args=#[x,y]:=by grind
 rw[ho];simp[Op.operands,Call.operands,this]
theorem Az{cl:Call}{x y:Operand}{t u e:TypeId}{b ver s off len:Nat}{k:ABlk}{news:List (List AV)}{H:AH}(ho:o.op= .call cl)(h1:cl.callee= .builtin .append)(h2:cl.args.toList=[x,y])(h3:cl.argTypes.toList=[t,u])
  (ht:P.underlying t=aag (.slice e)) (hu:(∃e2,P.underlying u=aag (.slice e2))\/P.underlying u=aag .string) (hx:ρ x= .hs b ver s off len) (hb:H[b]?=aag (aag k)) (hv:k.ver=ver) (hs:k.s=s) (hse:s=P.cellsOf e) (hlen:off+len<=k.rows.length)
  (hty:k.ty=e) (hz:(((P.info? e).bind (·.zero)).map λz=>z.cells.size)=aag (P.cellsOf e)) (hb1:(len+news.length)*P.bytesOf e<=35184372088832) (hb2:len+news.length<=35184372088832)
  (hsrc:∀(c:Cx)(v:Value),c.H=H->HRel c->c.rel (ρ y) v->∃vs,SrcIs P c (P.cellsOf e) v news vs) :
  ZP P o ρ H (.hs b (ver+1) s 0<|len+news.length) (H.set b<|aag ⟨ver+1,s,k.ty,(k.rows.drop off).take len++news⟩):=by
 intro c a K Q hH hr hxs hK;obtain⟨ox,oy⟩:=wY ho h2;have hx1:=hx ▸ hxs x ox;obtain⟨vs,hvs⟩:=hsrc c _ hH hr<|hxs y oy;obtain⟨hvl,hv1,_⟩:=hvs.is
 cases hi:P.info? e with
 |none=>simp_all
 |some i=>
  rw[hi] at hz;simp only[aaN] at hz;obtain⟨z,hz,hzs⟩:=aap.1 hz;have hby:P.bytesOf e=i.bytes:=by simp[Program.bytesOf,hi]
  have hce:P.cellsOf e=i.size:=by simp[Program.cellsOf,hi]
  have hl:c.live b k:=by unfold Cx.live;rw[hH];exact hb
  obtain⟨cur,fr,hB⟩:=hr.blk b k hl;have hpos:0<s:=hs ▸ hB.pos;have hfits:=hB.fits;rw[hs] at hfits;generalize hux:a.eval x=ux at hx1
  cases hx1 with
  |fr h=>cases h
  |@hs _ _ _ _ _ cap A hbn hcl hcm h0' hh=>
   obtain⟨fr,rfl,hat,hd⟩:=hB.cells hl λx hx=>(hh x<|hv ▸ hx).1.trans hs.symm;rw[hv] at hd;obtain⟨_,_,hA,hcf⟩:=hh _ hd;simp only at hA hcf;have holdr:∀(q:Nat)(r:List AV),((k.rows.drop off).take len)[q]?=aag r->q<len/\k.rows[off+q]?=aag r:=λq r hq=>by
    grind
   have hol:((k.rows.drop off).take len).length=len:=by simp;omega
   have hrl:∀(q:Nat)(row:List AV),((k.rows.drop off).take len++news)[q]?=aag row->row.length=s:=λq row hq=>by
    rcases aaq q len with hlt|hge
    .rw[gal (by omega)] at hq;rw[hB.len _ row (holdr q row hq).2,hs]
    rw[gar (by omega)] at hq;rw[hvs.rows _ row hq,hse]
   unfold Oper.wp
   by_cases hroom:len+news.length<=cap
   .-- there is room
    have hst:∃cs2:Array Value,cs2.size=cur.size/\(A=aah->c.w.setRow (c.φ b).1 cs2=c.w)/\(∀ad,A=aag ad->(storeCells (ad.add<|len*i.size) vs.toArray.toList).run P c.w= .ok () (c.w.setRow (c.φ b).1 cs2)) /\
      ∀q,cs2[q]?=if (c.φ b).2+off*s+len*s<=q/\q<(c.φ b).2+off*s+len*s+vs.length then vs[q-((c.φ b).2+off*s+len*s)]? else cur[q]?:=by
     rcases Nat.eq_zero_or_pos cap with h0|h0
     .have hv0:vs=[]:=aaV (by simp_all);subst hv0;have hsf:=setRow_self c.w _ cur k.ty fr hat;refine⟨cur,rfl,λ_=>hsf,λad _=>?_,λq=>by grind⟩;rw[hsf]
      rfl
     obtain rfl:=hA h0;have hle:(c.φ b).2+off*s+len*s+vs.length<=cur.toList.length:=by
      have h5:(len+news.length)*s<=cap*s:=aau _ hroom;rw[aal] at h5;have hct:cur.toList.length=cur.size:=aaE;rw[hvl,hct,<- hse];omega
     have hst:=lS (P:=P) (c.φ b).1 ((c.φ b).2+off*s+len*s) k.ty fr vs 0 cur c.w hat (hB.fre fr rfl) (by simpa using hle) hv1;rw[Nat.add_zero] at hst;have hg2:=λq=>IB cur.toList _ _ hle q;have hs2:=IC cur.toList _ _ hle;generalize cur.toList.take ((c.φ b).2+off*s+len*s)++vs++cur.toList.drop ((c.φ b).2+off*s+len*s+vs.length)=ls at *;refine⟨ls.toArray,by simpa using hs2,λh=>(by cases h),λad had=>?_,λq=>?_⟩
     .injection had with had;subst had;simp only[add0,<- hce,<- hse];exact hst
     simp_all
    obtain⟨cs2,hsz2,hrn,hrunst,hget⟩:=hst;have hrun:=Bt (ty:=o.type) ht hu hi (A:=A) (n:=len) (cap:=cap) (m:=news.length) (x:=a.eval y) (news:=vs.toArray) (hvs.len c.w) (by rw[<- hce];exact hvs.cells c.w rfl) hroom hrn hrunst;rw[ug ho h1 h2 h3 (by rw[hux];exact hrun)];have hext:=Cx.upd_ext (k:=⟨ver+1,s,k.ty,(k.rows.drop off).take len++news⟩) (o:=(c.φ b).2+off*s) (cs:=cs2) hr hl hB hsz2<|.inr (by simp_all);have htot:off*s+(len+news.length)*s<=off*s+cap*s:=Nat.add_le_add_left (aau _ hroom) _;have hnl:((k.rows.drop off).take len++news).length=len+news.length:=by simp_all
    have hfit2:(c.φ b).2+off*s+((k.rows.drop off).take len++news).length*s<=cs2.size:=by
     rw[hnl,hsz2];omega
    have hrel:=Cx.upd_rel (k:=⟨ver+1,s,k.ty,(k.rows.drop off).take len++news⟩) (o:=(c.φ b).2+off*s) (cs:=cs2) hr hl hB hsz2 rfl hext hpos hfit2 hrl (λq row j a' hq hj=>by
      simp only at hq ⊢;have hj1:j<s:=by
       have:=(ges hj).1;rw[hrl q row hq] at this;exact this
      rcases aaq q len with hlt|hge
      .rw[gal (by omega)] at hq;obtain⟨u',g1,g2,g3⟩:=hB.rel _ row j a' (holdr q row hq).2 hj;have:=zK (s:=s) hlt (j:=j+1) hj1;refine⟨u',?_,g2,g3⟩;rw[hget,if_neg (by omega),<- g1,hs,aal]
       grind
      rw[gar (by omega),hol] at hq;obtain⟨u',g1,g2,g3⟩:=hvs.is.get hq hj;have hq2:q-len<news.length:=(ges hq).1;have:=zK (s:=s) hq2 (j:=j+1) hj1;have e:q*s=(q-len)*s+len*s:=by
       rw[<- aal]
       congr 1
       omega
      rw[<- hse] at g1 hvl;refine⟨u',?_,g2,g3⟩;rw[hget,if_pos (by omega),<- g1]
      congr 1
      omega)
    refine hK _ _ (by rw[<- hH];rfl) hrel hext ?_;have hlv:=Cx.upd_live_self (k:=⟨ver+1,s,k.ty,(k.rows.drop off).take len++news⟩) (p:=((c.φ b).1,(c.φ b).2+off*s)) (cs:=cs2) hl;exact WX (k:=⟨ver+1,s,k.ty,(k.rows.drop off).take len++news⟩) hlv (cs:=cs2) (t:=k.ty) (fr:=fr) (by
      rw[Cx.upd_φ_self];exact setRow_heap c.w (c.φ b).1 cur cs2 k.ty fr hat) (by simp_all) hroom hcm (λh=>by rw[Cx.upd_φ_self];grind) (by rw[Cx.upd_φ_self,hsz2];omega)
   -- it moves
   have hroom':cap<len+news.length:=by omega
   have hold:MB c (c.φ b).1 ((c.φ b).2+off*s) s ((k.rows.drop off).take len):=by
    refine⟨λq r hq=>by rw[hB.len _ r (holdr q r hq).2,hs],λq r j a' hq hj=>?_⟩;obtain⟨u',g1,g2,g3⟩:=hB.rel _ r j a' (holdr q r hq).2 hj;refine⟨u',?_,g2,g3⟩;rw[cell_of_row c.w _ _ cur k.ty fr hat,<- g1,hs,aal]
    congr 1
    omega
   obtain⟨ovs,ho1⟩:=Bs (P:=P) (cap:=cap) (A:=A) hol (λh=>hA<|by omega) hold;obtain⟨hovl,hov1,_⟩:=ho1.is;have hfo:=ho1.cells c.w.drew rfl;rw[hol,hse,hce] at hfo;have hfn:=hvs.cells c.w.drew rfl;rw[hce] at hfn;obtain⟨nc,hnc1,hnc2,hrun⟩:=vN (ty:=o.type) ht hu hi hz (hvs.len c.w) hfo hfn hroom' hb2 (by rw[<- hby];exact hb1);rw[ug ho h1 h2 h3 (by rw[hux];exact hrun)];generalize hcs3:ovs.toArray++vs.toArray++Builtin.zeroCells z.cells (nc-(len+news.length))=cs3;have hovs:ovs.length=len*s:=by rw[hovl,hol]
   have hvss:vs.length=news.length*s:=by rw[hvl,hse]
   have hdr:=Cx.drew_rel hr;have hld:c.drew.live b k:=hl;have hlt:k.ver<ver+1:=by rw[hv];exact Nat.lt_succ_self _
   have hnl:((k.rows.drop off).take len++news).length=len+news.length:=by rw[lla,hol]
   have hget3:∀q u',(ovs++vs)[q]?=aag u'->cs3[q]?=aag u':=λq u' hq=>by
    have hq2:=(ges hq).1;rw[<- hcs3,aaF (by simpa using hq2)];simpa using hq
   have hsz3:len*s+news.length*s<=cs3.size:=by
    rw[<- hcs3];simp only[aaG,aaH];omega
   have hext:=Cx.mov_ext (k:=⟨ver+1,s,k.ty,(k.rows.drop off).take len++news⟩) (cs:=cs3) hdr hld hlt;have hrel:=Cx.mov_rel (k:=⟨ver+1,s,k.ty,(k.rows.drop off).take len++news⟩) (cs:=cs3) hdr hld hlt hpos (by simp only;rw[hnl,aal];exact hsz3) hrl (λq row j a' hq hj=>by
     simp only at hq ⊢;rcases aaq q len with hlt|hge
     .rw[gal (by omega)] at hq;obtain⟨u',g1,g2,g3⟩:=ho1.is.get hq hj;have g4:=(ges g1).1;exact⟨u',hget3 _ _ (by rw[gal g4];exact g1),g2,g3.ext hr c.drew_ext⟩
     rw[gar (by omega),hol] at hq;obtain⟨u',g1,g2,g3⟩:=hvs.is.get hq hj;have e:q*s=(q-len)*s+len*s:=by
      rw[<- aal]
      congr 1
      omega
     rw[<- hse] at g1;refine⟨u',hget3 _ _ ?_,g2,g3.ext hr c.drew_ext⟩;rw[gar (by omega),<- g1]
     congr 1
     omega)
   have hty2:(c.drew.mov b ⟨ver+1,s,k.ty,(k.rows.drop off).take len++news⟩ cs3).w=c.w.drew.alloc (.cells cs3 e):=by
    show c.w.drew.alloc (.cells cs3 k.ty)=_;rw[hty]
   rw[<- hty2];refine hK _ _ (by rw[<- hH];rfl) hrel (c.drew_ext.trans hext) ?_;have hlv:=Cx.mov_live_self (k:=⟨ver+1,s,k.ty,(k.rows.drop off).take len++news⟩) (cs:=cs3) hld;refine WX (k:=⟨ver+1,s,k.ty,(k.rows.drop off).take len++news⟩) hlv (cs:=cs3) (t:=k.ty) (fr:=(0,0)) (by
     rw[Cx.mov_φ_self];exact heap_alloc_new _ _) (by simp only;omega) hnc1 hnc2 (λ_=>by rw[Cx.mov_φ_self];rfl) ?_
   rw[Cx.mov_φ_self,<- hcs3];simp only[aaG,aaH,nZ,hovs,hvss,hzs,<- hse];rw[<- aal,<- aal,aax]
   simp_all
theorem KZ{cl:Call}{x y:Operand}{t u e:TypeId}{news:List (List AV)}{H:AH}(ho:o.op= .call cl)(h1:cl.callee= .builtin .append)(h2:cl.args.toList=[x,y])(h3:cl.argTypes.toList=[t,u])
  (ht:P.underlying t=aag (.slice e)) (hu:(∃e2,P.underlying u=aag (.slice e2))\/P.underlying u=aag .string) (hx:ρ x= .nil) (hpos:0<P.cellsOf e)
  (hz:(((P.info? e).bind (·.zero)).map λz=>z.cells.size)=aag (P.cellsOf e)) (hb1:news.length*P.bytesOf e<=35184372088832) (hb2:news.length<=35184372088832) (hn:news.length≠0)
  (hsrc:∀(c:Cx)(v:Value),c.H=H->HRel c->c.rel (ρ y) v->∃vs,SrcIs P c (P.cellsOf e) v news vs) :
  ZP P o ρ H (.hs H.length 0 (P.cellsOf e) 0 news.length) (H++[aag ⟨0,P.cellsOf e,e,news⟩]):=by
 intro c a K Q hH hr hxs hK;obtain⟨ox,oy⟩:=wY ho h2;have hx1:=iy<|hx ▸ hxs x ox;obtain⟨vs,hvs⟩:=hsrc c _ hH hr<|hxs y oy;obtain⟨hvl,hv1,_⟩:=hvs.is
 cases hi:P.info? e with
 |none=>simp_all
 |some i=>
  rw[hi] at hz;obtain⟨z,hz,hzs⟩:=aap.1 hz;have hby:P.bytesOf e=i.bytes:=by simp[Program.bytesOf,hi]
  have hce:P.cellsOf e=i.size:=by simp[Program.cellsOf,hi]
  have hfn:=hvs.cells c.w.drew rfl;rw[hce] at hfn;have hfo:(Builtin.firstCells i.size 0<|.slice aah 0 0).run P c.w.drew= .ok #[] c.w.drew:=rfl;obtain⟨nc,hnc1,hnc2,hrun⟩:=vN ht hu hi hz (hvs.len c.w) hfo hfn (by omega) (by omega) (by simp_all);unfold Oper.wp;rw[ug ho h1 h2 h3 (by rw[hx1];exact hrun)];generalize hcs3 : #[]++vs.toArray++Builtin.zeroCells z.cells (nc-(0+news.length))=cs3;have hdr:=Cx.drew_rel hr;have hsz3:nc*P.cellsOf e<=cs3.size:=by
   rw[<- hcs3];simp only[aaG,aaH,nZ,hzs,hvl,List.length_nil,aax];rw[<- aal]
   grind
  have hget3:∀q u',vs[q]?=aag u'->cs3[q]?=aag u':=λq u' hq=>by
   have hq2:=(ges hq).1;rw[<- hcs3,aaF (by simpa using hq2)]
   simp_all
  have hrel:=Cx.new_rel (k:=⟨0,P.cellsOf e,e,news⟩) (cs:=cs3) hdr hpos (by
    grind) (λq row hq=>hvs.rows q row hq) (λq row j a' hq hj=>by
    obtain⟨u',g1,g2,g3⟩:=hvs.is.get hq hj;exact⟨u',hget3 _ _ g1,g2,g3.ext hr c.drew_ext⟩)
  have hh:=Cx.new_hs c.drew ⟨0,P.cellsOf e,e,news⟩ cs3 (n:=news.length) (aak _) (by omega) hnc2 hsz3;rw[aax];have:=hK _ (c.drew.new ⟨0,P.cellsOf e,e,news⟩ cs3) (by rw[<- hH];rfl) hrel (c.drew_ext.trans<|Cx.new_ext hdr _ _) (by rw[<- hH];exact hh);exact this
theorem DW{cl:Call}{x y:Operand}{t u e:TypeId}{news:List (List AV)}{H:AH}(ho:o.op= .call cl)(h1:cl.callee= .builtin .append)(h2:cl.args.toList=[x,y])(h3:cl.argTypes.toList=[t,u])
  (ht:P.underlying t=aag (.slice e)) (hu:(∃e2,P.underlying u=aag (.slice e2))\/P.underlying u=aag .string) (hx:ρ x= .nil)
  (hz:(((P.info? e).bind (·.zero)).map λz=>z.cells.size)=aag (P.cellsOf e)) (hn:news.length=0)
  (hsrc:∀(c:Cx)(v:Value),c.H=H->HRel c->c.rel (ρ y) v->∃vs,SrcIs P c (P.cellsOf e) v news vs):ZP P o ρ H .nil H:=by
 intro c a K Q hH hr hxs hK;obtain⟨ox,oy⟩:=wY ho h2;have hx1:=iy<|hx ▸ hxs x ox;obtain⟨vs,hvs⟩:=hsrc c _ hH hr<|hxs y oy
 cases hi:P.info? e with
 |none=>simp_all
 |some i=>
  have hce:P.cellsOf e=i.size:=by simp[Program.cellsOf,hi]
  have hrun:=Bt (ty:=o.type) ht hu hi (A:=none) (n:=0) (cap:=0) (hvs.len c.w) (by rw[<- hce];exact hvs.cells c.w rfl) (by omega) (λ_=>rfl) (λad h=>by grind);unfold Oper.wp;rw[ug ho h1 h2 h3 (by rw[hx1];exact hrun),hn];exact hK _ c hH hr (Ext.refl c)<|.fr .nil
theorem PR{cl:Call}{H:AH}{K:AV->AH->Prop}(ho:o.op= .call cl)(h:PD P ρ cl.callee cl.args.toList cl.argTypes.toList H K):∃r H',ZP P o ρ H r H'/\K r H':=by
 unfold PD at h
 split at h
 .rename_i x y t u h1 h2 h3
  split at h
  .rename_i e ht hu;obtain⟨news,h,hsrc⟩:=PQ h;have hu2:(∃e2,P.underlying u=aag (.slice e2))\/P.underlying u=aag .string:=by
    unfold Mt at hu
    grind
   split at h
   .rename_i b ver s off len hx
    split at h
    .rename_i k hk;obtain⟨⟨g1,g2,g4,g7,g8⟩,hK⟩:=h;obtain⟨hk2,hK⟩:=Ck.elim hK;simp only[bae,beq_iff_eq] at hk2;obtain⟨⟨g3,g5⟩,g6⟩:=hk2;exact⟨_,_,Az ho h1 h2 h3 ht hu2 hx hk g1 g2 g3 g4 g5 g6 g7 g8 hsrc,hK⟩
    grind
   .rename_i hx;obtain⟨⟨g3,g4⟩,hK⟩:=h;obtain⟨hk2,hK⟩:=Ck.elim hK;simp only[bae,beq_iff_eq,dte] at hk2;obtain⟨g1,g2⟩:=hk2;rcases hK.elim with⟨hb,hK⟩|⟨hb,hK⟩
    .exact⟨_,_,DW ho h1 h2 h3 ht hu2 hx g2 (by grind) hsrc,hK⟩
    exact⟨_,_,KZ ho h1 h2 h3 ht hu2 hx g1 g2 g3 g4 (by grind) hsrc,hK⟩
   grind
  simp_all
 obtain⟨r,hv,hK⟩:=JG ho h;exact⟨r,H,hv.op H,hK⟩
theorem PT{H:AH}{K:AV->AH->Prop}(h:KN P ρ o.op H K):∃r H',ZP P o ρ H r H'/\K r H':=by
 unfold KN at h
 split at h
 case h_1 t ho=>
  split at h
  .rename_i i hi
   split at h
   .rename_i z hz;obtain⟨hk,h⟩:=Ck.elim h
    simp_all
    exact⟨_,_,PM ho hi hz hk.1 hk.2,h⟩
   grind
  simp_all
 case h_2 t x ho=>
  split at h
  .rename_i cs hc;obtain⟨hk,h⟩:=Ck.elim h;exact⟨_,_,Vi ho hc<|of_decide_eq_true hk,h⟩
  simp_all
 case h_3 t n parts ho=>
  split at h
  .rename_i e ht
   split at h
   .rename_i rows hrows;obtain⟨hk,hK⟩:=Ck.elim h;simp only[bae,beq_iff_eq,dte,aan] at hk;obtain⟨⟨⟨⟨⟨g1,g2⟩,g3⟩,g4⟩,g5⟩,g6⟩:=hk;exact⟨_,_,GZ ho ht hrows g1 g2 g3 g4 g5 g6,hK⟩
   grind
  simp_all
 case h_4 t l c ho=>
  split at h
  .rename_i e l' c' ht hl hc
   split at h
   .rename_i z hz;obtain⟨⟨g1,g2,g3,g4⟩,hK⟩:=h;obtain⟨hk,hK⟩:=Ck.elim hK
    simp_all
    obtain⟨⟨g5,g6⟩,g7⟩:=hk;exact⟨_,_,IA ho ht hl hc hz g1 g2 g3 g4 g5 g6 g7,hK⟩
   grind
  simp_all
 case h_5 t x ho=>
  split at h
  .rename_i b ver s i j hx
   split at h
   .rename_i k hk;obtain⟨⟨g1,g2,g3⟩,hK⟩:=h;obtain⟨r,hp,hK⟩:=Bm hK;exact⟨_,_,PN ho hx hk g1 g2 g3 hp,hK⟩
   simp_all
  obtain⟨r,hv,hK⟩:=Iw (by rw[ho];exact h);exact⟨r,H,hv.op H,hK⟩
 case h_6 t x y ho=>
  split at h
  .rename_i b ver s i j cs hx hy
   split at h
   .rename_i k hk;obtain⟨⟨g1,g2,g3,g5⟩,hK⟩:=h;obtain⟨hk2,hK⟩:=Ck.elim hK;simp[bae,beq_iff_eq] at hk2;obtain⟨g4,g6⟩:=hk2;exact⟨_,_,PP ho hx hy hk g1 g2 g3 g4 g5 g6,wy.1 hK⟩
   grind
  simp_all
 case h_7 cl ho=>exact PR ho h
 case h_8=>
  obtain⟨r,hv,hK⟩:=Iw h;exact⟨r,H,hv.op H,hK⟩
end
def lT(P:Program)(f:FuncId):Bool:=match P.funcs[f]? with
 |some fn=>!(fn.name == "runtime.NumGoroutine") && fn.body.isSome
 |none=>aaf
def JH(c:Cx)(aac:List AV)(vs:Array Value):Prop:=vs.size=aac.length/\∀(i:Nat)(a:AV)(v:Value),aac[i]?=aag a->vs[i]?=aag v->c.rel a v
def eZ(P:Program)(f:FuncId)(aac:List AV)(H:AH)(r:AV)(H':AH):Prop:=
 lT P f=aae/\∀(c:Cx)(vs:Array Value),c.H=H->HRel c->JH c aac vs->Calls P f vs c.w λe w'=>∃v c',e= .returned v/\c'.w=w'/\c'.H=H'/\HRel c'/\Ext c c'/\c'.rel r v
def HB(P:Program)(f:FuncId)(aac:List AV)(H:AH)(K:AV->AH->Prop):Prop:=∃r H',eZ P f aac H r H'/\K r H'
def NQ(P:Program)(f:FuncId)(aac:List AV)(K:AV->Prop):Prop:=∃r,(∀H,eZ P f aac H r H)/\K r
def aop(P:Program)(ρ:Operand->AV)(op:Op)(H:AH)(K:AV->AH->Prop):Prop:=match op with
 | .call c=>(match c.callee with
  | .value f=>(match ρ f with
   | .fn (.func g) pK=>HB P g (c.args.toList.map ρ++pK) H K
   |_=>False)
  |_=>KN P ρ (.call c) H K)
 |op=>KN P ρ op H K
def WL(P:Program)(ρ:Operand->AV)(op:Op)(K:AV->Prop):Prop:=match op with
 | .call c=>(match c.callee with
  | .value f=>(match ρ f with
   | .fn (.func g) pK=>NQ P g (c.args.toList.map ρ++pK) K
   |_=>False)
  |_=>Bc P ρ (.call c) K)
 |op=>Bc P ρ op K
section
variable{P:Program}{o:Oper}{ρ:Operand->AV}
theorem yO{f:FuncId}(h:lT P f=aae)(vs:Array Value)(w:World):(callFunc f vs).run P w= .ok (.enter f vs) w:=by
 unfold lT at h
 split at h
 .rename_i fn hf
  simp_all
  obtain⟨h1,h2⟩:=h;have h3:fn.body≠aah:=by grind
  have h1':=by simpa using h1
  simp[callFunc,program,hf,h1',h3,Sem.run]
 grind
theorem MC{cl:Call}{f:Operand}{g:FuncId}{pK:List AV}{H H':AH}{r:AV}(ho:o.op= .call cl)(hc:cl.callee= .value f)(hf:ρ f= .fn (.func g) pK)(h:eZ P g (cl.args.toList.map ρ++pK) H r H'):ZP P o ρ H r H':=by
 intro c a K Q hH hr hxs hK;have hf1:=hf ▸ hxs f (by rw[ho];simp[Op.operands,Call.operands,hc]);obtain⟨vs,he,hl,hrel⟩:=DV hf1;have hargs:JH c (cl.args.toList.map ρ++pK) (cl.args.map a.eval++vs):=by
  refine⟨by grind,λi q v hq hv=>?_⟩;rcases aaq i cl.args.size with hlt|hge
  .rw[gal (by grind),aaC,aav,aaB hlt] at hq;rw[aaF (by grind),aaR,aaB hlt] at hv;simp[aaD,sie] at hq hv;subst hq hv;refine hxs _ ?_;rw[ho];simp[Op.operands,Call.operands]
  grind
 have hrun:(execOp a.eval o).run P c.w= .ok (.enter g<|cl.args.map a.eval++vs) c.w:=by
  rw[execOp,ho];simp[resolve,hc,he,Deferred.ofValue,Sem.run_bind,Sem.run_pure,Result.andThen_ok,invoke];have:=yO h.1 (cl.args.map a.eval++vs) c.w
  grind
 unfold Oper.wp;rw[hrun];refine(h.2 c _ hH hr hargs).mono λe w' ⟨v,c',he,hw,hH',hr',hx,hv⟩=>?_
 grind
theorem WY{H:AH}{K:AV->AH->Prop}(h:aop P ρ o.op H K):∃r H',ZP P o ρ H r H'/\K r H':=by
 unfold aop at h
 split at h
 .rename_i cl ho
  split at h
  .rename_i f hc
   split at h
   .rename_i g pK hf;obtain⟨r,H',h1,h2⟩:=h;exact⟨r,H',MC ho hc hf h1,h2⟩
   simp_all
  exact PT (by grind)
 exact PT h
theorem Vj{K:AV->Prop}(h:WL P ρ o.op K):∃r,(∀H,ZP P o ρ H r H)/\K r:=by
 unfold WL at h
 split at h
 .rename_i cl ho
  split at h
  .rename_i f hc
   split at h
   .rename_i g pK hf;obtain⟨r,h1,h2⟩:=h;exact⟨r,λH=>MC ho hc hf<|h1 H,h2⟩
   simp_all
  obtain⟨r,h1,h2⟩:=Iw (by rw[ho];exact h);exact⟨r,λH=>h1.op H,h2⟩
 obtain⟨r,h1,h2⟩:=Iw h;exact⟨r,λH=>h1.op H,h2⟩
theorem ZP.congr{ρ':Operand->AV}{H H':AH}{r:AV}(h:ZP P o ρ H r H')(he:∀x∈o.op.operands,ρ x=ρ' x):ZP P o ρ' H r H':=
 λc a K Q hH hr hxs hK=>h c a K Q hH hr (λx hx=>by grind) hK
def NR(P:Program)(k:Nat)(o:Oper)(ρ:Operand->AV)(H:AH)(r:AV)(H':AH):Prop:=
 (k=0/\H'=H/\∀G,ZP P o ρ G r G)\/(k=1/\H'=H/\ZP P o ρ H r H)\/(k=2/\ZP P o ρ H r H')
theorem NR.op{k:Nat}{H H':AH}{r:AV}(h:NR P k o ρ H r H'):ZP P o ρ H r H':=by
 rcases h with⟨_,rfl,h⟩|⟨_,rfl,h⟩|⟨_,h⟩
 .exact h _
 .exact h
 omega
theorem NR.congr{ρ':Operand->AV}{k:Nat}{H H':AH}{r:AV}(h:NR P k o ρ H r H')(he:∀x∈o.op.operands,ρ x=ρ' x):NR P k o ρ' H r H':=by
 rcases h with⟨h1,h2,h⟩|⟨h1,h2,h⟩|⟨h1,h⟩
 .exact .inl ⟨h1,h2,λG=>(h G).congr he⟩
 .exact .inr<|.inl ⟨h1,h2,h.congr he⟩
 exact .inr<|.inr ⟨h1,h.congr he⟩
def WZ(a b:Nat):Bool:=a==0||b==0||(a<=1&&b<=1)
theorem Tj{e:Env}{d:Option Tmp}{r:AV}{x:Operand}(h:∀t,d=aag t->x ≠ .tmp t):rho (ww e d r) x=rho e x:=by
 cases d with
 |none=>rfl
 |some d=>
  cases x with
  |tmp t=>
   have : t≠d:=by grind
   simp[rho,Bh,this]
  |_=>rfl
theorem wB{ops:Array Oper}{e:Env}{oi oj:Oper}{r:AV}(h:∀d,oi.dst=aag d->d∉oj.looksAt ops):∀x∈oj.op.operands,rho (ww e oi.dst r) x=rho e x:=by
 intro x hx;refine Tj λt ht hxt=>h t ht ?_;exact List.mem_append_left _<|List.mem_filterMap.2 ⟨.tmp t,by grind,rfl⟩
theorem Bu{e:Env}{x y:Option Tmp}{r q:AV}(h:∀d,x=aag d->y≠aag d):ww (ww e x r) y q=ww (ww e y q) x r:=by
 cases x with
 |none=>rfl
 |some d=>
  cases y with
  |none=>rfl
  |some d'=>
   simp[Bh]
   grind
end
theorem HB.intro{P:Program}{f:FuncId}{aac:List AV}{H H':AH}{r:AV}{K:AV->AH->Prop}(h:eZ P f aac H r H')(k:K r H'):HB P f aac H K:=⟨r,H',h,k⟩
theorem NQ.intro{P:Program}{f:FuncId}{aac:List AV}{r:AV}{K:AV->Prop}(h:∀H,eZ P f aac H r H)(k:K r):NQ P f aac K:=⟨r,h,k⟩
attribute [irreducible] HB NQ
def fe(all:List Oper)(e:Env)(j:Nat):AV:=match (all[j]?).bind (·.dst) with
 |some d=>e d
 |none=>.top
def HL(P:Program)(cls:Nat->Nat):Nat->List Oper->(Env->AH->Prop)->Env->AH->Prop
 |_,[],K,e,H=>K e H
 |k,o::rest,K,e,H=>match cls k with
  |0=>WL P (rho e) o.op λr=>HL P cls (k+1) rest K (ww e o.dst r) H
  |1=>aop P (rho e) o.op H λr H'=>H'=H/\HL P cls (k+1) rest K (ww e o.dst r) H
  |2=>aop P (rho e) o.op H λr H'=>HL P cls (k+1) rest K (ww e o.dst r) H'
  |_=>False
def Vk(ops:Array Oper)(cls:Nat->Nat):Bool:=
 Region.lexB .any ops&&ops.all (λo=>o.guard.isNone) &&
 (aao ops.size).all λi=>(aao ops.size).all λj=>aai (j<=i)||WZ (cls i) (cls j)||match ops[j]? with
  |some oj=>oj.after.any λed=>Region.binds .any ed&&ed.on==i
  |none=>aae
def JI(P:Program)(ops:Array Oper)(K:Env->AH->Prop)(e:Env)(H:AH):Prop:=P.follows .mixedOrders=aae/\∃cls,Vk ops cls=aae/\HL P cls 0 ops.toList K e H
section
variable{P:Program}
def Vl:Exit->Prop
 | .normal| .exit _| .ret=>True
 |_=>False
def WM(nt:Nat)(c:Cx)(Q:Exit->Env->AH->Prop):Exit->Act->World->Prop:=λx a w=>Vl x/\∃c' e,c'.w=w/\Ext c c'/\SRel c' nt e a/\Q x e c'.H
def NS(nt:Nat)(ops:List Oper):Bool:=ops.all λo=>match o.dst with
 |some d=>aai (d<nt)
 |none=>aae
theorem rC{nt:Nat}{ops:List Oper}(h:NS nt ops=aae){o:Oper}(ho:o∈ops):∀t,o.dst=aag t->t<nt:=λt ht=>by
 have:=aan.1 h o ho
 simp_all
end
theorem JI.intro{P:Program}{ops:Array Oper}{K:Env->AH->Prop}{e:Env}{H:AH}(h:P.follows .mixedOrders=aae/\∃cls,Vk ops cls=aae/\HL P cls 0 ops.toList K e H):JI P ops K e H:=h
attribute [irreducible] JI
inductive Fz(m:Nat)(H:AH):AV->AV->Prop
 |v {x:Value}:Fz m H (.v x) (.v x)
 |nil:Fz m H .nil .nil
 |nil0 {row:Nat->List AV}:Fz m H .nil (.sl 0 row)
 |eqv {a r r':AV} (h:Fz m H a r) (he:∀(w:World)(fz:Nat->Prop)(v:Value),FRel w fz r v->FRel w fz r' v):Fz m H a r'
 |sl {n:Nat} {row row':Nat->List AV} (h:∀i,i<n->row i=row' i):Fz m H (.sl n row) (.sl n row')
 |fp {row:List AV} {j:Nat}:Fz m H (.fp row j) (.fp row j)
 |agg {cs ds:List AV} (hl:cs.length=ds.length) (h:∀(i:Nat)(c d:AV),cs[i]?=aag c->ds[i]?=aag d->Fz m H c d):Fz m H (.agg cs) (.agg ds)
 |tup {cs ds:List AV} (hl:cs.length=ds.length) (h:∀(i:Nat)(c d:AV),cs[i]?=aag c->ds[i]?=aag d->Fz m H c d):Fz m H (.tup cs) (.tup ds)
 |ifc {t:TypeId} {x y:AV} (h:Fz m H x y):Fz m H (.ifc t x) (.ifc t y)
 |fn {f:Fn} {cs ds:List AV} (hl:cs.length=ds.length) (h:∀(i:Nat)(c d:AV),cs[i]?=aag c->ds[i]?=aag d->Fz m H c d):Fz m H (.fn f cs) (.fn f ds)
 |hs {b ver s off len:Nat} {k:ABlk} {row':Nat->List AV} (hm:m<=b) (hk:H[b]?=aag (aag k)) (hv:k.ver=ver) (hks:k.s=s) (hn:off+len<=k.rows.length)
   (hl:∀(i:Nat)(r:List AV),i<len->k.rows[off+i]?=aag r->r.length=(row' i).length)
   (h:∀(i:Nat)(r:List AV)(j:Nat)(c d:AV),i<len->k.rows[off+i]?=aag r->r[j]?=aag c->(row' i)[j]?=aag d->Fz m H c d):Fz m H (.hs b ver s off len) (.sl len row')
 |hp {b ver s i j:Nat} {k:ABlk} {r row':List AV} (hm:m<=b) (hk:H[b]?=aag (aag k)) (hv:k.ver=ver) (hks:k.s=s) (hi:k.rows[i]?=aag r) (hl:r.length=row'.length)
   (h:∀(j:Nat)(c d:AV),r[j]?=aag c->row'[j]?=aag d->Fz m H c d):Fz m H (.hp b ver s i j) (.fp row' j)
def Cx.all(c:Cx)(m g:Nat):Prop:=c.fz g\/∃b k,m<=b/\c.live b k/\(c.φ b).1=g
theorem Cx.all_lt{c:Cx}{m:Nat}(hr:HRel c){g:Nat}(h:c.all m g):g<c.w.heap.size:=by
 rcases h with h|⟨b,k,_,h1,rfl⟩
 .exact hr.lt g h
 exact hr.live_lt h1
theorem cZ{α:Type}{l m:List α}(h:l.length=m.length){i:Nat}{a:α}(hi:l[i]?=aag a):∃b,m[i]?=aag b:=by grind
theorem Fz.sound{m:Nat}{c:Cx}(hr:HRel c){a r:AV}(h:Fz m c.H a r):∀v,c.rel a v->FRel c.w (c.all m) r v:=by
 induction h with
 |v=>
  intro u hu;obtain⟨rfl,hp⟩:=iw hu;exact .v hp
 |nil=>
  intro u hu;obtain rfl:=iy hu;exact .nil
 |eqv _ he ih=>simp_all
 |nil0=>
  intro u hu;obtain rfl:=iy hu;exact .sl (s:=0) (g:=0) (o:=0) (λ_ _=>undef) (aak _) (by omega) (λh=>absurd h<|by omega) (λi hi=>absurd hi<|by omega) (λi j c hi=>absurd hi<|by omega) (λi j c hi=>absurd hi<|by omega) λi j c hi=>absurd hi (by omega)
 |@sl n row row' he=>
  intro u hu;have hf:=(xH hu).mono (w':=c.w) (fz':=c.all m) (aak _) λg hg _=>⟨rfl,.inl hg⟩
  cases hf with
  |@sl _ cap s g o _ a us hc hm ha hs hu2 h1 h=>
   refine .sl (s:=s) (g:=g) (o:=o) us hc hm ha (λi hi=>?_) (λi j a hi hj=>?_) (λi j a hi hj=>?_) λi j a hi hj=>?_
   .rw[<- he i hi];exact hs i hi
   .rw[<- he i hi] at hj;exact hu2 i j a hi hj
   .rw[<- he i hi] at hj;exact h1 i j a hi hj
   simp_all
 |fp=>
  intro u hu;exact(xI hu).mono (aak _) λg hg _=>⟨rfl,.inl hg⟩
 |agg hl _ ih=>
  intro u hu;obtain⟨vs,rfl,h1,h2,h3⟩:=uf hu;refine .agg (h1.trans hl) h2 λi d u hd hu=>?_
  grind
 |tup hl _ ih=>
  intro u hu;obtain⟨vs,rfl,h1,h3⟩:=CE hu;refine .tup (h1.trans hl) λi d u hd hu=>?_
  grind
 |ifc _ ih=>
  intro u hu;obtain⟨y,rfl,h⟩:=CF hu;exact .ifc<|ih y h
 |fn hl _ ih=>
  intro u hu;obtain⟨vs,rfl,h1,h3⟩:=DV hu;refine .fn (h1.trans hl) λi d u hd hu=>?_
  grind
 |@hs b ver s off len k row' hmb hk hv hks hn hl _ ih=>
  intro u hu;have hlv:c.live b k:=hk;obtain⟨cs,fr,hB⟩:=hr.blk b k hlv
  cases hu with
  |fr h=>cases h
  |@hs _ _ _ _ _ cap A hb hc hm h0 hh=>
   obtain⟨fr,rfl,hat,hd⟩:=hB.cells hlv λx hx=>(hh x<|hv ▸ hx).1.trans hks.symm;rw[hv] at hd;obtain⟨hs',_,hA,_⟩:=hh _ hd;have hrow:∀i,i<len->∃r,k.rows[off+i]?=aag r:=λi hi=>⟨_,geq<|by omega⟩;refine .sl (g:=(c.φ b).1) (o:=(c.φ b).2+off*s) (s:=s) (λi j=>(cs[(c.φ b).2+(off+i)*s+j]?).getD undef) hc hm (λhn=>⟨hA (by omega),.inr ⟨b,k,hmb,hlv,rfl⟩,hr.live_lt hlv⟩) (λi hi=>?_) (λi j d hi hj=>?_) (λi j d hi hj=>?_) λi j d hi hj=>?_
   .obtain⟨r,hr'⟩:=hrow i hi;rw[<- hl i r hi hr',hB.len _ r hr'];exact hs'
   all_goals
    obtain⟨r,hr'⟩:=hrow i hi;obtain⟨q,hq⟩:=cZ (hl i r hi hr').symm hj;obtain⟨u,g1,g2,g3⟩:=hB.rel _ r j q hr' hq;have hs2:k.s=s:=hs';rw[hs2] at g1
   .rw[cell_of_row c.w _ _ cs k.ty fr hat]
    grind
   .rw[g1];exact g2
   grind
 |@hp b ver s i j k r row' hmb hk hv hks hi hl _ ih=>
  intro u hu;have hlv:c.live b k:=hk;obtain⟨cs,fr,hB⟩:=hr.blk b k hlv
  cases hu with
  |fr h=>cases h
  |hp hb hh=>
   obtain⟨fr,rfl,hat,hd⟩:=hB.cells hlv λx hx=>(hh x<|hv ▸ hx).1.trans hks.symm;rw[hv] at hd;obtain⟨hs',rfl⟩:=hh _ hd;have hs2:k.s=s:=hs';refine .fp (g:=(c.φ b).1) (o:=(c.φ b).2+i*s) (λj=>(cs[(c.φ b).2+i*s+j]?).getD undef) (.inr ⟨b,k,hmb,hlv,rfl⟩) (hr.live_lt hlv) (λq d hq=>?_) (λq d hq=>?_) λq d hq=>?_
   all_goals
    obtain⟨x,hx⟩:=cZ hl.symm hq;obtain⟨u,g1,g2,g3⟩:=hB.rel _ r q x hi hx;rw[hs2] at g1
   .rw[cell_of_row c.w _ _ cs k.ty fr hat,g1]
    rfl
   .rw[g1];exact g2
   grind
inductive Stl(m:Nat)(H:AH):AV->AV->Prop
 |fz {a a':AV} (h:Fz m H a a'):Stl m H a a'
 |top {a:AV}:Stl m H a .top
 |agg {cs ds:List AV} (hl:cs.length=ds.length) (h:∀(i:Nat)(c d:AV),cs[i]?=aag c->ds[i]?=aag d->Stl m H c d):Stl m H (.agg cs) (.agg ds)
 |tup {cs ds:List AV} (hl:cs.length=ds.length) (h:∀(i:Nat)(c d:AV),cs[i]?=aag c->ds[i]?=aag d->Stl m H c d):Stl m H (.tup cs) (.tup ds)
 |ifc {t:TypeId} {x y:AV} (h:Stl m H x y):Stl m H (.ifc t x) (.ifc t y)
 |fn {f:Fn} {cs ds:List AV} (hl:cs.length=ds.length) (h:∀(i:Nat)(c d:AV),cs[i]?=aag c->ds[i]?=aag d->Stl m H c d):Stl m H (.fn f cs) (.fn f ds)
 |hs {b ver s off len:Nat} (hb:b<m):Stl m H (.hs b ver s off len) (.hs b ver s off len)
 |hp {b ver s i j:Nat} (hb:b<m):Stl m H (.hp b ver s i j) (.hp b ver s i j)
 |mp {b s:Nat} (hb:b<m):Stl m H (.mp b s) (.mp b s)
def Cx.settle(c:Cx)(m:Nat)(H0:AH):Cx:={ w:=c.w,fz:=c.all m,H:=H0,φ:=c.φ }
structure Stay(m:Nat)(H H0:AH):Prop where
 len:H0.length=m
 le:m<=H.length
 none_:∀(b:Nat),b<m->H[b]?=aag aah->H0[b]?=aag aah
 some_:∀(b:Nat)(k:ABlk),b<m->H[b]?=aag (aag k)->∃k0,H0[b]?=aag (aag k0)/\k0.ver=k.ver/\k0.s=k.s/\k0.ty=k.ty/\k0.rows.length=k.rows.length /\
  ∀(i:Nat)(r r0:List AV),k.rows[i]?=aag r->k0.rows[i]?=aag r0->r.length=r0.length/\∀(j:Nat)(a a0:AV),r[j]?=aag a->r0[j]?=aag a0->Stl m H a a0
section
variable{m:Nat}{c:Cx}{H0:AH}
theorem Stay.back(h:Stay m c.H H0){b:Nat}{k0:ABlk}(hl:(c.settle m H0).live b k0):b<m/\∃k,c.live b k/\k0.ver=k.ver/\k0.s=k.s/\k0.ty=k.ty/\k0.rows.length=k.rows.length /\
  ∀(i:Nat)(r r0:List AV),k.rows[i]?=aag r->k0.rows[i]?=aag r0->r.length=r0.length/\∀(j:Nat)(a a0:AV),r[j]?=aag a->r0[j]?=aag a0->Stl m c.H a a0:=by
 have hl':H0[b]?=aag (aag k0):=hl;have hb:b<m:=by rw[<- h.len];grind
 have hlt:=aat hb h.le;have hg:=geq hlt;refine⟨hb,?_⟩
 cases hx:c.H[b] with
 |none=>
  rw[hx] at hg;rw[h.none_ b hb hg] at hl'
  grind
 |some k=>
  rw[hx] at hg;obtain⟨k1,h1,h2⟩:=h.some_ b k hb hg;rw[h1] at hl';injection hl' with hl';injection hl' with hl';subst hl';exact⟨k,hg,h2⟩
theorem Bv(h:Stay m c.H H0){b ver:Nat}(hb:b<m):(c.settle m H0).hd b ver=c.hd b ver:=by
 have hlt:=aat hb h.le;have hg:=geq hlt
 cases hx:c.H[b] with
 |none=>
  rw[hx] at hg;have h1:=h.none_ b hb hg;simp[Cx.hd,Cx.settle,h1,hg]
 |some k=>
  rw[hx] at hg;obtain⟨k1,h1,h2,h3,h4,h5,_⟩:=h.some_ b k hb hg;have e:hdo k1 (c.φ b)=hdo k (c.φ b):=funext λo=>Jz h3 h5 _ o;simp[Cx.hd,Cx.settle,h1,hg,h2,e]
theorem wZ(h:Stay m c.H H0){b ver:Nat}(hb:b<m)(hn:c.born b ver):(c.settle m H0).born b ver:=by
 have hlt:=aat hb h.le;have hg:=geq hlt
 cases hx:c.H[b] with
 |none=>
  rw[hx] at hg;simp[Cx.born,hg] at hn
 |some k=>
  rw[hx] at hg;obtain⟨k1,h1,h2,_⟩:=h.some_ b k hb hg;simp[Cx.born,hg] at hn;simp[Cx.born,Cx.settle,h1,h2];exact hn
theorem Stl.sound(hr:HRel c)(h:Stay m c.H H0){a a':AV}(hs:Stl m c.H a a'):∀v,c.rel a v->(c.settle m H0).rel a' v:=by
 induction hs with
 |fz hz=>exact λv hv=>.fr (Fz.sound hr hz v hv)
 |top=>exact λv _=>.top
 |agg hl _ ih=>
  intro u hu;obtain⟨vs,rfl,h1,h2,h3⟩:=uf hu;refine .agg (h1.trans hl) h2 λi d u hd hu=>?_;obtain⟨q,hq⟩:=cZ hl.symm hd;exact ih i q d hq hd u<|h3 i q u hq hu
 |tup hl _ ih=>
  intro u hu;obtain⟨vs,rfl,h1,h3⟩:=CE hu;refine .tup (h1.trans hl) λi d u hd hu=>?_;obtain⟨q,hq⟩:=cZ hl.symm hd;exact ih i q d hq hd u<|h3 i q u hq hu
 |ifc _ ih=>
  intro u hu;obtain⟨y,rfl,h⟩:=CF hu;exact .ifc<|ih y h
 |fn hl _ ih=>
  intro u hu;obtain⟨vs,rfl,h1,h3⟩:=DV hu;refine .fn (h1.trans hl) λi d u hd hu=>?_;obtain⟨q,hq⟩:=cZ hl.symm hd;exact ih i q d hq hd u<|h3 i q u hq hu
 |hs hb=>
  intro u hu
  cases hu with
  |fr hf=>cases hf
  |hs hbn hc hm h0 hh=>exact .hs (wZ h hb hbn) hc hm h0 (λx hx=>hh x<|by rw[<- Bv h hb];exact hx)
 |hp hb=>
  intro u hu
  cases hu with
  |fr hf=>cases hf
  |hp hbn hh=>exact .hp (wZ h hb hbn) (λx hx=>hh x<|by rw[<- Bv h hb];exact hx)
 |mp hb=>
  intro u hu
  cases hu with
  |fr hf=>cases hf
  |mp hbn hh=>exact .mp (wZ h hb hbn) (λx hx=>hh x<|by rw[<- Bv h hb];exact hx)
theorem K3(hr:HRel c)(h:Stay m c.H H0):HRel (c.settle m H0) where
 gl:=hr.gl.mono (aak _) λ_ hg _=>⟨rfl,.inl hg⟩
 lt:=λg hg=>Cx.all_lt hr hg
 blk:=λb k0 hl=>by
  obtain⟨hb,k,h1,h2,h3,h4,h5,h6⟩:=h.back hl;obtain⟨cs,fr,hB⟩:=hr.blk b k h1;refine⟨cs,fr,⟨?_,?_,?_,by rw[h3];exact hB.free,?_,λi r0 h8=>?_,λi r0 j a0 h8 h9=>?_⟩⟩
  .rw[Hu h3 h4 h5];exact hB.at_
  .rintro (hg|⟨b',k',hm,hl',he⟩)
   .exact hB.nf hg
   exact hr.inj b' b k' k hl' h1 (by omega) he
  .rw[h3];exact hB.pos
  .rw[h3,h5];exact hB.fits
  .obtain⟨r,hr1⟩:=cZ h5 h8;rw[h3,<- hB.len i r hr1]
   grind
  obtain⟨r,hr1⟩:=cZ h5 h8;obtain⟨h10,h11⟩:=h6 i r r0 hr1 h8;obtain⟨a,ha⟩:=cZ h10.symm h9;obtain⟨u,g1,g2,g3⟩:=hB.rel i r j a hr1 ha;exact⟨u,by rw[h3];exact g1,g2,(h11 j a a0 ha h9).sound hr h u g3⟩
 inj:=λb b' k k' hl hl' hne=>by
  obtain⟨_,k1,h1,_⟩:=h.back hl;obtain⟨_,k2,h2,_⟩:=h.back hl';exact hr.inj b b' k1 k2 h1 h2 hne
theorem NT{c0:Cx}(hx:Ext c0 c)(h:Stay m c.H H0)(hm:c0.H.length<=m):Ext c0 (c.settle m H0) where
 os:=hx.os
 tape:=hx.tape
 output:=hx.output
 size:=hx.size
 keep:=hx.keep
 fz:=λg hg=>.inl<|hx.fz g hg
 Af:=λg hg=>by
  rcases hg with hg|⟨b,k,_,hl,rfl⟩
  .exact hx.Af g hg
  exact .inr<|hx.kO b k hl
 N:=by
  show _<=H0.length;rw[h.len];exact hm
 born:=λb ver hb=>by
  refine wZ h ?_<|hx.born b ver hb;exact aat (kx hb) hm
 hd:=λb ver x hb hx'=>by
  refine hx.hd b ver x hb ?_;rw[<- Bv h]
  .omega
  exact aat (kx hb) hm
 kO:=λb k0 hl=>by
  obtain⟨_,k,h1,_⟩:=h.back hl;exact hx.kO b k h1
theorem JJ{nt:Nat}{e e0:Env}{a:Act}(hs:SRel c nt e a)(h:Stay m c.H H0)(he:∀t,Stl m c.H (e t)<|e0 t):SRel (c.settle m H0) nt e0 a:=
 ⟨hs.size,hs.defers,λt=>(he t).sound hs.heap h _<|hs.rel t,K3 hs.heap h⟩
def bK(base:Nat)(e:Env)(H:AH)(e0:Env)(H0:AH):Prop:=(H0=H/\GX e e0)\/∃m,base<=m/\Stay m H H0/\∀t,Stl m H (e t)<|e0 t
theorem bK.state{nt base:Nat}{c0:Cx}{e e0:Env}{a:Act}(hx:Ext c0 c)(hs:SRel c nt e a)(hb:c0.H.length<=base)(h:bK base e c.H e0 H0):∃c',c'.w=c.w/\Ext c0 c'/\SRel c' nt e0 a/\c'.H=H0:=by
 rcases h with⟨rfl,hw⟩|⟨m,hm,hst,he⟩
 .exact⟨c,rfl,hx,hs.weak hw,rfl⟩
 exact⟨c.settle m H0,rfl,NT hx hst<|aaz hb hm,JJ hs hst he,rfl⟩
end
def NU:Nat->Nat->AV->Bool
 |0,_,_=>aaf
 |n+1,m,x=>match x with
  | .v _| .nil| .sl _ _| .fp _ _| .top=>aae
  | .agg cs=>cs.all (NU n m)
  | .tup cs=>cs.all (NU n m)
  | .ifc _ x=>NU n m x
  | .fn _ cs=>cs.all (NU n m)
  | .hs b _ _ _ _=>Nat.blt b m
  | .hp b _ _ _ _=>Nat.blt b m
  | .mp b _=>Nat.blt b m
theorem gY{α:Type}{l:List α}{i:Nat}{c d:α}(h:l[i]?=aag c)(h':l[i]?=aag d):c=d/\c∈l:=by grind
theorem Stl.low{m:Nat}{H:AH}:∀(n:Nat)(a:AV),NU n m a=aae->Stl m H a a
 |0,_,h=>by cases h
 |n+1,a,h=>by
  cases a with
  |v x=>exact .fz .v
  |nil=>exact .fz .nil
  |sl k row=>exact .fz (.sl λ_ _=>rfl)
  |fp row j=>exact .fz .fp
  |top=>exact .top
  |agg cs=>
   simp[NU,aan] at h;exact .agg rfl (λi c d hc hd=>by obtain⟨rfl,hm⟩:=gY hc hd;exact Stl.low n _<|h _ hm)
  |tup cs=>
   simp[NU,aan] at h;exact .tup rfl (λi c d hc hd=>by obtain⟨rfl,hm⟩:=gY hc hd;exact Stl.low n _<|h _ hm)
  |fn f cs=>
   simp[NU,aan] at h;exact .fn rfl (λi c d hc hd=>by obtain⟨rfl,hm⟩:=gY hc hd;exact Stl.low n _<|h _ hm)
  |ifc t x=>
   exact .ifc<|Stl.low n x h
  |hs b q s o l=>exact .hs (nlb h)
  |hp b q s i j=>exact .hp (nlb h)
  |mp b s=>exact .mp (nlb h)
inductive StayB(m:Nat)(H:AH):Option ABlk->Option ABlk->Prop
 |dead:StayB m H aah aah
 |same {ver s:Nat} {ty:TypeId} {rows xG:List (List AV)} (hl:rows.length=xG.length) (h:∀(i:Nat)(r r0:List AV),rows[i]?=aag r->xG[i]?=aag r0->r.length=r0.length/\∀(j:Nat)(a a0:AV),r[j]?=aag a->r0[j]?=aag a0->Stl m H a a0) :
   StayB m H (aag ⟨ver,s,ty,rows⟩) (aag ⟨ver,s,ty,xG⟩)
theorem StayB.keep{m:Nat}{H:AH}{ver s:Nat}{ty:TypeId}{rows:List (List AV)}(h:∀r∈rows,∀a∈r,NU 9 m a=aae):StayB m H (aag ⟨ver,s,ty,rows⟩) (aag ⟨ver,s,ty,rows⟩):=
 .same rfl λi r r0 hr hr0=>by
  obtain⟨rfl,hm⟩:=gY hr hr0;exact⟨rfl,λj a a0 ha ha0=>by
   obtain⟨rfl,hm2⟩:=gY ha ha0;exact Stl.low 9 _ (h _ hm _ hm2)⟩
inductive StayL(m:Nat)(H:AH):AH->AH->Prop
 |nil {l:AH}:StayL m H l []
 |cons {x y:Option ABlk} {l k:AH} (h:StayB m H x y) (t:StayL m H l k):StayL m H (x::l) (y::k)
theorem StayL.spec{m:Nat}{H l k:AH}(h:StayL m H l k):k.length<=l.length/\∀b,b<k.length->∃x y,l[b]?=aag x/\k[b]?=aag y/\StayB m H x y:=by
 induction h with
 |nil=>simp_all
 |@cons x y l k h t ih=>
  grind
theorem Stay.of{H H0:AH}(h:StayL H0.length H H H0):Stay H0.length H H0:=by
 obtain⟨h1,h2⟩:=h.spec;refine⟨rfl,h1,λb hb hn=>?_,λb k hb hk=>?_⟩
 .obtain⟨x,y,h3,h4,h5⟩:=h2 b hb;rw[hn] at h3;injection h3 with h3;subst h3
  cases h5
  exact h4
 obtain⟨x,y,h3,h4,h5⟩:=h2 b hb;rw[hk] at h3;injection h3 with h3;subst h3
 cases h5 with
 |same hl h=>grind
def JK(f:(Exit->Env->AH->Prop)->Env->AH->Prop)(Q:Exit->Env->AH->Prop)(e:Env)(G:AH):Prop:=
 ∃I:Nat->Env->AH->Prop,(∃n e0,GX e e0/\I n e0 G)/\∀n e H,I n e H->f (λx e' H'=>match x with
  | .normal=>∃n' e0 H0,n'<n/\bK G.length e' H' e0 H0/\I n' e0 H0
  |x=>Q x e' H') e H
def codeOk(nt:Nat):Code->Bool
 | .seq a b=>codeOk nt a&&codeOk nt b
 | .cond _ a b=>codeOk nt a&&codeOk nt b
 | .block _ a=>codeOk nt a
 | .loop a=>codeOk nt a
 | .region _ ops _=>NS nt ops.toList
 |_=>aae
section
variable{P:Program}
theorem NV{c:Code}{Q:Exit->Act->World->Prop}(I:Nat->Act->World->Prop){n:Nat}{a:Act}{w:World}(h0:I n a w)(round:∀n a w,I n a w->c.wp P (Exit.then (λa' w'=>∃n',n'<n/\I n' a' w') Q) a w):(Code.loop c).wp P Q a w:=by
 intro b k cs;have key:∀n a w,I n a w->∃e a' w',Q e a' w'/\Arrives P (lone (b.at a (.code c :: .inLoop c::k)) cs w) b k cs e a' w':=by
  intro n
  induction n using Nat.strongRecOn with
  |_ n ih=>
   intro a w hI;obtain⟨e,a₁,w₁,hq,harr⟩:=round n a w hI b (.inLoop c::k) cs
   cases e with
   |normal=>
    obtain⟨n',hlt,hI₁⟩:=hq;obtain⟨e₂,a₂,w₂,hq₂,harr₂⟩:=ih n' hlt a₁ w₁ hI₁;exact⟨_,_,_,hq₂,.of_steps (Steps.trans harr<|.one step_inLoop) harr₂⟩
   |exit id=>exact⟨_,_,_,hq,.pass rfl (by grind) harr⟩
   |goto l=>exact⟨_,_,_,hq,.pass rfl (by grind) harr⟩
   |ret=>exact⟨_,_,_,hq,.pass rfl (by grind) harr⟩
   |panic ch=>exact⟨_,_,_,hq,.pass rfl (by grind) harr⟩
   |outgrown=>exact⟨_,_,_,hq,.pass rfl (by grind) harr⟩
 obtain⟨e,a',w',hq,harr⟩:=key n a w h0;exact⟨e,a',w',hq,.of_steps (.one step_loop) harr⟩
def UE(aac:List AV):Env:=λt=>aac.getD t .top
def JL(tmps:Array Value)(r:ResultVar):Sem Value:=match r with
 | .tmp t=>pure (tmps.getD t undef)
 | .cell a t=>do loadVar t (<- asAddr (tmps.getD a undef))
def cN(P:Program)(f:FuncId)(aac:List AV)(H:AH)(R:AV->AH->Prop):Prop:=
 lT P f=aae/\∀(c:Cx)(vs:Array Value),c.H=H->HRel c->JH c aac vs->Calls P f vs c.w λe w'=>∃v c' r,e= .returned v/\c'.w=w'/\R r c'.H/\HRel c'/\Ext c c'/\c'.rel r v
theorem cN.acall{f:FuncId}{aac:List AV}{H H':AH}{r:AV}(h:cN P f aac H λr' G=>r'=r/\G=H'):eZ P f aac H r H':=by
 refine⟨h.1,λc vs hH hr hall=>(h.2 c vs hH hr hall).mono λe w' ⟨v,c',r',he,hw,hR,h1,h2,h3⟩=>?_⟩
 grind
end
theorem JK.intro{f:(Exit->Env->AH->Prop)->Env->AH->Prop}{Q:Exit->Env->AH->Prop}{e:Env}{G:AH}(h:∃I:Nat->Env->AH->Prop,(∃n e0,GX e e0/\I n e0 G)/\∀n e H,I n e H->f (λx e' H'=>match x with
 | .normal=>∃n' e0 H0,n'<n/\bK G.length e' H' e0 H0/\I n' e0 H0
 |x=>Q x e' H') e H):JK f Q e G:=h
attribute [irreducible] JK
theorem Br.no{b:Bool}{X Y:Prop}(h:b=aaf)(y:Y):Br b X Y:=.intro (λk=>Br.absT k h) λ_=>y
section
variable{P:Program}
theorem HB.mk{f:FuncId}{aac:List AV}{H H':AH}{r:AV}{K:AV->AH->Prop}(h:eZ P f aac H r H')(k:K r H'):HB P f aac H K:=.intro h k
theorem NQ.mk{f:FuncId}{aac:List AV}{r:AV}{K:AV->Prop}(h:∀H,eZ P f aac H r H)(k:K r):NQ P f aac K:=.intro h k
theorem JI.mk{ops:Array Oper}{K:Env->AH->Prop}{e:Env}{H:AH}(cls:Nat->Nat)(hm:P.follows .mixedOrders=aae)(hc:Vk ops cls=aae)(h:HL P cls 0 ops.toList K e H):JI P ops K e H:=.intro ⟨hm,_,hc,h⟩
def ak:List (Nat×AV)->Env
 |[]=>λ_=>.top
 |p::l=>λt=>bif aas t p.1 then p.2 else ak l t
theorem CG(d:Nat)(a:AV)(l:List<|Nat×AV)(t:Nat):(t=d/\ak ((d,a)::l) t=a)\/ak ((d,a)::l) t=ak l t:=by
 show(t=d/\(bif aas t d then a else ak l t)=a)\/(bif aas t d then a else ak l t)=ak l t
 cases hb:aas t d
 .grind
 simp_all
theorem ZQ{e:Env}:GX e (ak []):=λ_=>.inl rfl
theorem ZR{e:Env}{t:Nat}{a:AV}{l:List (Nat×AV)}(h:e t=a)(w:GX e<|ak l):GX e (ak ((t,a)::l)):=by
 intro q;rcases CG t a l q with⟨rfl,h1⟩|h1
 .simp_all
 rw[h1];exact w q
def UF{S:Type}(inv:S->Prop)(slots:S->List (Nat×AV))(heap:S->AH)(μ:S->Nat)(n:Nat)(e:Env)(H:AH):Prop:=∃s,inv s/\μ s=n/\e=ak (slots s)/\H=heap s
theorem JK.mk{f:(Exit->Env->AH->Prop)->Env->AH->Prop}{Q:Exit->Env->AH->Prop}{e:Env}{H:AH}{S:Type}(inv:S->Prop)(slots:S->List (Nat×AV))(heap:S->AH)(μ:S->Nat)(s0:S)(h0:inv s0)(hH:H=heap s0)(hw:GX e<|ak<|slots s0)
  (round:∀s,inv s->f (λx e' H'=>match x with
   | .normal=>∃n' e0 H0,n'<μ s/\bK H.length e' H' e0 H0/\UF inv slots heap μ n' e0 H0
   |x=>Q x e' H') (ak (slots s)) (heap s)):JK f Q e H:=by
 refine .intro ⟨UF inv slots heap μ,⟨_,_,hw,s0,h0,rfl,rfl,hH⟩,?_⟩;rintro n e' H' ⟨s,hs,rfl,rfl,rfl⟩
 simp_all
theorem aO{m:Nat}{H:AH}{e:Env}:∀t,Stl m H (e t) (ak [] t):=λ_=>.top
theorem ai{m:Nat}{H:AH}{e:Env}{t:Nat}{a:AV}{l:List (Nat×AV)}(h:Stl m H (e t) a)(w:∀q,Stl m H (e q)<|ak l q):∀q,Stl m H (e q) (ak ((t,a)::l) q):=by
 intro q;rcases CG t a l q with⟨rfl,h1⟩|h1
 .grind
 simp_all
end
def aF(P:Program)(f:FuncId)(aac:List AV)(r:AV):Prop:=
 lT P f=aae/\∀(w:World)(fz:Nat->Prop)(vs:Array Value),(∀g,fz g->g<w.heap.size)->Gl w fz->vs.size=aac.length->(∀(i:Nat)(a:AV)(v:Value),aac[i]?=aag a->vs[i]?=aag v->FRel w fz a v) ->
  Calls P f vs w λe w'=>∃v fz',e= .returned v/\Below w.heap.size w w'/\FRel w' fz' r v/\(∀g,fz g->fz' g)/\(∀g,fz' g->fz g\/w.heap.size<=g)/\∀g,fz' g->g<w'.heap.size
section
variable{P:Program}{f:FuncId}{aac:List AV}
theorem aF.of{r:AV}(h:cN P f aac [] λr0 G=>Fz 0 G r0 r):aF P f aac r:=by
 refine⟨h.1,λw fz vs hlt hgl hl hrel=>?_⟩;have hr:HRel { w:=w,fz:=fz,H:=[],φ:=λ_=>(0,0) }:=⟨hlt,λb k hl=>by simp[Cx.live] at hl,λb b' k k' hl=>by simp[Cx.live] at hl,hgl⟩;refine(h.2 { w:=w,fz:=fz,H:=[],φ:=λ_=>(0,0) } vs rfl hr ⟨hl,λi a v ha hv=>.fr<|hrel i a v ha hv⟩).mono λe w' ⟨v,c',r0,he,hw,hz,hr',hx,hv⟩=>?_;subst he hw;refine⟨v,_,rfl,⟨hx.os,hx.tape,hx.output,hx.size,λg hg=>hx.keep g hg λb k hl=>by simp[Cx.live] at hl⟩,Fz.sound hr' hz v hv,λg hg=>.inl<|hx.fz g hg,λg hg=>?_,λg hg=>Cx.all_lt hr' hg⟩;rcases hg with hg|⟨b,k,_,h1,rfl⟩
 .rcases hx.Af g hg with h1|h1|⟨b,k,h1,_⟩
  .simp_all
  .simp_all
  simp[Cx.live] at h1
 rcases hx.kO b k h1 with h2|⟨b0,k0,h2,_⟩
 .simp_all
 simp[Cx.live] at h2
def isF:Nat->AV->Bool
 |0,_=>aaf
 |n+1,x=>match x with
  | .v _| .nil| .sl _ _| .fp _ _=>aae
  | .agg cs=>cs.all (isF n)
  | .tup cs=>cs.all (isF n)
  | .ifc _ x=>isF n x
  | .fn _ cs=>cs.all (isF n)
  |_=>aaf
theorem AA{c:Cx}:∀(n:Nat)(x:AV)(v:Value),isF n x=aae->c.rel x v->FRel c.w c.fz x v
 |0,_,_,h,_=>by cases h
 |n+1,x,v,h,hr=>by
  cases x with
  |v a=>obtain⟨rfl,hp⟩:=iw hr;exact .v hp
  |nil=>obtain rfl:=iy hr;exact .nil
  |sl m row=>exact xH hr
  |fp row j=>exact xI hr
  |agg cs=>
   simp[isF,aan] at h;obtain⟨vs,rfl,h1,h2,h3⟩:=uf hr;exact .agg h1 h2 λi q u hq hu=>AA n q u (by grind)<|h3 i q u hq hu
  |tup cs=>
   simp[isF,aan] at h;obtain⟨vs,rfl,h1,h3⟩:=CE hr;exact .tup h1 λi q u hq hu=>AA n q u (by grind)<|h3 i q u hq hu
  |ifc t y=>
   obtain⟨u,rfl,h1⟩:=CF hr;exact .ifc<|AA n y u h h1
  |fn g cs=>
   simp[isF,aan] at h;obtain⟨vs,rfl,h1,h3⟩:=DV hr;exact .fn h1 λi q u hq hu=>AA n q u (by grind)<|h3 i q u hq hu
  |hs b q s o l=>cases h
  |hp b q s i j=>cases h
  |mp b s=>cases h
  |top=>cases h
theorem Bw{c:Cx}(hr:HRel c){w':World}(hb:Below c.w.heap.size c.w w'){fz':Nat->Prop}(h1:∀g,fz' g->c.all 0 g\/c.w.heap.size<=g)(h2:∀g,fz' g->g<w'.heap.size)(h3:∀b k,c.live b k -> ¬ fz' (c.φ b).1) :
  HRel { w:=w',fz:=λg=>c.fz g\/fz' g,H:=c.H,φ:=c.φ }/\Ext c { w:=w',fz:=λg=>c.fz g\/fz' g,H:=c.H,φ:=c.φ }:=by
 have hx:Ext c { w:=w',fz:=λg=>c.fz g\/fz' g,H:=c.H,φ:=c.φ }:=by
  refine⟨hb.os,hb.tape,hb.output,hb.size,λg hg _=>hb.block g hg,by grind,λg hg=>?_,aak _,λ_ _ h=>h,λb ver x hbn hx=>?_,λb k hl=>.inr ⟨b,k,hl,rfl⟩⟩
  .rcases hg with hg|hg
   .simp_all
   rcases h1 g hg with (h|⟨b,k,_,h,rfl⟩)|h
   .grind
   .grind
   omega
  obtain⟨k,hl,rfl,o,hc,hx'⟩:=Cx.hd_some hx;have hl':c.live b k:=hl;have hc':c.w.heap[(c.φ b).1]?=aag o:=by
   rw[<- hb.block _ (hr.live_lt hl')];exact hc
  exact(Cx.hd_of hl' hc').trans hx'
 refine⟨⟨λg hg=>?_,λb k hl=>?_,hr.inj,hr.glx hx⟩,hx⟩
 .rcases hg with hg|hg
  .exact aat (hr.lt g hg) hb.size
  simp_all
 have hl':c.live b k:=hl;obtain⟨cs,fr,hB⟩:=hr.blk b k hl';refine⟨cs,fr,⟨(hb.block _<|hr.live_lt hl').trans hB.at_,?_,hB.pos,hB.free,hB.fits,hB.len,λi row j a h4 h5=>?_⟩⟩
 .rintro (h|h)
  .exact hB.nf h
  grind
 obtain⟨u,g1,g2,g3⟩:=hB.rel i row j a h4 h5;exact⟨u,g1,g2,g3.ext hr hx⟩
theorem aF.acall{r:AV}(h:aF P f aac r)(hF:aac.all (isF 9)=aae)(H:AH):eZ P f aac H r H:=by
 refine⟨h.1,λc vs hH hr hall=>?_⟩;obtain⟨hl,hrel⟩:=hall;refine(h.2 c.w c.fz vs hr.lt hr.gl hl (λi a v ha hv=>AA 9 a v (by grind) (hrel i a v ha hv))).mono λe w' ⟨v,fz',he,hb,hv,h1,h2,h3⟩=>?_;obtain⟨g1,g2⟩:=Bw hr hb (λg hg=>(h2 g hg).imp .inl id) h3 (λb k hlv hz=>by
  rcases h2 _ hz with h4|h4
  .exact hr.not_fz hlv h4
  have:=hr.live_lt hlv;omega)
 exact⟨v,{ w:=w',fz:=λg=>c.fz g\/fz' g,H:=c.H,φ:=c.φ },he,rfl,hH,g1,g2,.fr<|hv.mono (aak _) λg hg _=>⟨rfl,.inr hg⟩⟩
def dry:Nat->AV->Bool
 |0,_=>aaf
 |n+1,x=>match x with
  | .v _| .nil=>aae
  | .agg cs=>cs.all (dry n)
  | .tup cs=>cs.all (dry n)
  |_=>aaf
theorem ID{w w':World}{fz fz':Nat->Prop}:∀(n:Nat)(x:AV)(v:Value),dry n x=aae->FRel w fz x v->FRel w' fz' x v
 |0,_,_,h,_=>by cases h
 |n+1,x,v,h,hr=>by
  cases hr with
  |v hp=>exact .v hp
  |nil=>exact .nil
  |agg h1 h2 h3=>
   simp[dry,aan] at h;exact .agg h1 h2 λi q u hq hu=>ID n q u (by grind)<|h3 i q u hq hu
  |tup h1 h3=>
   simp[dry,aan] at h;exact .tup h1 λi q u hq hu=>ID n q u (by grind)<|h3 i q u hq hu
  |_=>cases h
theorem aF.tmp{r:AV}{as':List AV}(h:aF P f as' r){H:AH}(hl0:aac.length=as'.length)(hz:∀(i:Nat)(a a':AV),aac[i]?=aag a->as'[i]?=aag a'->Fz 0 H a a')(hd:dry 9 r=aae):eZ P f aac H r H:=by
 refine⟨h.1,λc vs hH hr hall=>?_⟩;obtain⟨hl,hrel⟩:=hall;refine(h.2 c.w (c.all 0) vs (λg hg=>Cx.all_lt hr hg) (hr.gl.mono (aak _) λ_ hg _=>⟨rfl,.inl hg⟩) (hl.trans hl0) λi a v ha hv=>?_).mono λe w' ⟨v,_,he,hb,hv,h1,h2,h3⟩=>?_
 .obtain⟨q,hq⟩:=cZ hl0.symm ha;exact Fz.sound hr (by grind) v<|hrel i q v hq hv
 obtain⟨g1,g2⟩:=Bw hr hb (fz':=λ_=>False) (λg hg=>hg.elim) (λg hg=>hg.elim) (by grind);exact⟨v,{ w:=w',fz:=λg=>c.fz g\/False,H:=c.H,φ:=c.φ },he,rfl,hH,g1,g2,.fr<|ID 9 r v hd hv⟩
end
inductive Ren(S:Nat->Nat->Prop):AV->AV->Prop
 |v {x:Value}:Ren S (.v x) (.v x)
 |nil:Ren S .nil .nil
 |sl {n:Nat} {row:Nat->List AV}:Ren S (.sl n row) (.sl n row)
 |fp {row:List AV} {j:Nat}:Ren S (.fp row j) (.fp row j)
 |top {a:AV}:Ren S a .top
 |agg {cs ds:List AV} (hl:cs.length=ds.length) (h:∀(i:Nat)(c d:AV),cs[i]?=aag c->ds[i]?=aag d->Ren S c d):Ren S (.agg cs) (.agg ds)
 |tup {cs ds:List AV} (hl:cs.length=ds.length) (h:∀(i:Nat)(c d:AV),cs[i]?=aag c->ds[i]?=aag d->Ren S c d):Ren S (.tup cs) (.tup ds)
 |ifc {t:TypeId} {x y:AV} (h:Ren S x y):Ren S (.ifc t x) (.ifc t y)
 |fn {f:Fn} {cs ds:List AV} (hl:cs.length=ds.length) (h:∀(i:Nat)(c d:AV),cs[i]?=aag c->ds[i]?=aag d->Ren S c d):Ren S (.fn f cs) (.fn f ds)
 |hs {b b' ver s off len:Nat} (hb:S b b'):Ren S (.hs b ver s off len) (.hs b' ver s off len)
 |hp {b b' ver s i j:Nat} (hb:S b b'):Ren S (.hp b ver s i j) (.hp b' ver s i j)
 |mp {b b' s:Nat} (hb:S b b'):Ren S (.mp b s) (.mp b' s)
theorem Ren.rel{S:Nat->Nat->Prop}{c1 c2:Cx}(hs:c1.w.heap.size<=c2.w.heap.size)(hf:∀g,c1.fz g->g<c1.w.heap.size->c2.w.heap[g]?=c1.w.heap[g]? /\ c2.fz g)
  (hb:∀b b' ver,S b b'->c1.born b ver->c2.born b' ver) (hh:∀b b' ver x,S b b'->c1.born b ver->c2.hd b' ver=aag x->c1.hd b ver=aag x) {a a':AV} (h:Ren S a a'):∀v,c1.rel a v->c2.rel a' v:=by
 induction h with
 |v=>exact λv hv=>by obtain⟨rfl,hp⟩:=iw hv;exact .fr<|.v hp
 |nil=>exact λv hv=>by obtain rfl:=iy hv;exact .fr .nil
 |sl=>exact λv hv=>.fr ((xH hv).mono hs hf)
 |fp=>exact λv hv=>.fr ((xI hv).mono hs hf)
 |top=>exact λv _=>.top
 |agg hl _ ih=>
  intro u hu;obtain⟨vs,rfl,h1,h2,h3⟩:=uf hu;refine .agg (h1.trans hl) h2 λi d u hd hu=>?_;obtain⟨q,hq⟩:=cZ hl.symm hd;exact ih i q d hq hd u<|h3 i q u hq hu
 |tup hl _ ih=>
  intro u hu;obtain⟨vs,rfl,h1,h3⟩:=CE hu;refine .tup (h1.trans hl) λi d u hd hu=>?_;obtain⟨q,hq⟩:=cZ hl.symm hd;exact ih i q d hq hd u<|h3 i q u hq hu
 |ifc _ ih=>
  intro u hu;obtain⟨y,rfl,h⟩:=CF hu;exact .ifc<|ih y h
 |fn hl _ ih=>
  intro u hu;obtain⟨vs,rfl,h1,h3⟩:=DV hu;refine .fn (h1.trans hl) λi d u hd hu=>?_;obtain⟨q,hq⟩:=cZ hl.symm hd;exact ih i q d hq hd u<|h3 i q u hq hu
 |hs hS=>
  intro u hu
  cases hu with
  |fr hf=>cases hf
  |hs hbn hc hm h0 hx=>exact .hs (hb _ _ _ hS hbn) hc hm h0 (by grind)
 |hp hS=>
  intro u hu
  cases hu with
  |fr hf=>cases hf
  |hp hbn hx=>exact .hp (hb _ _ _ hS hbn) (by grind)
 |mp hS=>
  intro u hu
  cases hu with
  |fr hf=>cases hf
  |mp hbn hx=>exact .mp (hb _ _ _ hS hbn) (by grind)
structure RenK(S:Nat->Nat->Prop)(k k':ABlk):Prop where
 ver:k'.ver=k.ver
 s:k'.s=k.s
 ty:k'.ty=k.ty
 len:k.rows.length=k'.rows.length
 rows:∀(i:Nat)(r r':List AV),k.rows[i]?=aag r->k'.rows[i]?=aag r'->r.length=r'.length/\∀(j:Nat)(a a':AV),r[j]?=aag a->r'[j]?=aag a'->Ren S a a'
theorem RenK.blk{S:Nat->Nat->Prop}{c1 c2:Cx}{b b':Nat}{k k':ABlk}{cs:Array Value}{fr:Option (Nat×Nat)}(h:RenK S k k')(hB:BRel c1 b k cs fr)(hφ:c2.φ b'=c1.φ b)(hat:c2.w.heap[(c1.φ b).1]?=c1.w.heap[(c1.φ b).1]?)(hnf : ¬ c2.fz (c1.φ b).1)
  (hrel:∀a a',Ren S a a'->∀v,c1.rel a v->c2.rel a' v):BRel c2 b' k' cs fr where
 at_:=by rw[hφ,hat,Hu h.s h.ty h.len.symm];exact hB.at_
 nf:=by grind
 pos:=by rw[h.s];exact hB.pos
 free:=by rw[h.s];exact hB.free
 fits:=by rw[hφ,h.s,<- h.len];exact hB.fits
 len:=λi r' hr'=>by
  obtain⟨r,hr⟩:=cZ h.len.symm hr';rw[h.s,<- hB.len i r hr];exact(h.rows i r r' hr hr').1.symm
 rel:=λi r' j a' hr' ha'=>by
  obtain⟨r,hr⟩:=cZ h.len.symm hr';obtain⟨h1,h2⟩:=h.rows i r r' hr hr';obtain⟨a,ha⟩:=cZ h1.symm ha';obtain⟨u,g1,g2,g3⟩:=hB.rel i r j a hr ha;exact⟨u,by rw[hφ,h.s];exact g1,g2,by grind⟩
def sg(ids:List Nat)(N i b:Nat):Prop:=ids[i]?=aag b\/(ids.length<=i/\b=N+(i-ids.length))
theorem W5{ids:List Nat}{N i b b':Nat}(h:sg ids N i b)(h':sg ids N i b'):b=b':=by
 rcases h with h|⟨h1,h2⟩ <;> rcases h' with k|⟨k1,k2⟩
 .simp_all
 .simp_all
 .simp_all
 omega
theorem PU{ids:List Nat}{N i j b:Nat}(hn:ids.Nodup)(hlt:∀x∈ids,x<N)(h:sg ids N i b)(h':sg ids N j b):i=j:=by
 rcases h with h|⟨h1,h2⟩ <;> rcases h' with k|⟨k1,k2⟩
 .have hp:=List.pairwise_iff_getElem.1 hn
  grind
 .have:=hlt b<|aaw h;omega
 .have:=hlt b<|aaw k;omega
 omega
structure Frd(ids:List Nat)(H G0 H':AH):Prop where
 le:ids.length<=G0.length
 len:H'.length=H.length+(G0.length-ids.length)
 dead:∀i b,i<G0.length->sg ids H.length i b->G0[i]?=aag aah->H'[b]?=aag aah
 some_:∀i b k0,sg ids H.length i b->G0[i]?=aag (aag k0)->∃k,H'[b]?=aag (aag k)/\RenK (sg ids H.length) k0 k
 rest:∀b,b<H.length->b∉ids->H'[b]?=H[b]?
theorem yP{c1 c2:Cx}{b b' ver:Nat}(h:c1.born b ver)(_hd:c1.H[b]?=aag aah->c2.H[b']?=aag aah)(hs:∀k,c1.H[b]?=aag (aag k)->∃k',c2.H[b']?=aag (aag k')/\k'.ver=k.ver):c2.born b' ver:=by
 unfold Cx.born at h
 split at h
 .unfold Cx.born
  grind
 simp_all
theorem AB{c1 c2:Cx}{b b' ver:Nat}{x:HI}(h:c2.hd b' ver=aag x)(hφ:c2.φ b'=c1.φ b)(hat:c2.w.heap[(c1.φ b).1]?=c1.w.heap[(c1.φ b).1]?)(hs:∀k',c2.H[b']?=aag (aag k')->∃k,c1.H[b]?=aag (aag k)/\k.ver=k'.ver/\k.s=k'.s/\k.rows.length=k'.rows.length):c1.hd b ver=aag x:=by
 obtain⟨k',hl,hv,o,hc,hx⟩:=Cx.hd_some h;obtain⟨k,h1,h2,h3,h4⟩:=hs k' hl;rw[hφ] at hc hx;rw[hat] at hc;have:=Cx.hd_of h1 hc;rw[h2,hv] at this;rw[this,Jz h3 h4];exact hx
theorem FQ{c:Cx}{b ver:Nat}(h:c.H[b]?=aag aah)(hb:c.born b ver):False:=by
 unfold Cx.born at hb
 simp_all
theorem Vm{c:Cx}{b ver:Nat}{x:HI}(h:c.H[b]?=aag aah)(hb:c.hd b ver=aag x):False:=by
 unfold Cx.hd at hb
 simp_all
section
variable{P:Program}
open Classical in
theorem cN.frameN{f:FuncId}{as0 aac:List AV}{H0 H:AH}{R R':AV->AH->Prop}(h:cN P f as0 H0 R)(ids:List Nat)(hn:ids.Nodup)(hl:ids.length=H0.length)
  (hin:∀(i b:Nat),ids[i]?=aag b->(H[b]?=aag aah/\H0[i]?=aag aah)\/∃k k0,H[b]?=aag (aag k)/\H0[i]?=aag (aag k0)/\RenK (λb i=>ids[i]?=aag b) k k0)
  (hla:aac.length=as0.length) (has:∀(i:Nat)(a a0:AV),aac[i]?=aag a->as0[i]?=aag a0->Ren (λb i=>ids[i]?=aag b) a a0)
  (hF:∀r0 G0,R r0 G0->∃r H',Frd ids H G0 H'/\Ren (sg ids H.length) r0 r/\R' r H'):cN P f aac H R':=by
 refine⟨h.1,λc vs hH hr hall=>?_⟩;subst hH;have hidlt:∀x∈ids,x<c.H.length:=λx hx=>by
  obtain⟨i,hi⟩:=aaI.1 hx
  grind
 let c0:Cx:={ w:=c.w,fz:=c.fz,H:=H0,φ:=λi=>c.φ (ids.getD i 0) };have φ0:∀{i b},ids[i]?=aag b->c0.φ i=c.φ b:=λ{i b}hi=>by
  grind
 have rel0:∀a a0,Ren (λb i=>ids[i]?=aag b) a a0->∀v,c.rel a v->c0.rel a0 v:=λa a0 hra=>by
  refine Ren.rel (c1:=c) (c2:=c0) (aak _) (λg hg _=>⟨rfl,hg⟩) (λb i ver hS hb=>?_) (λb i ver x hS hb hx=>?_) hra
  .rcases hin i b hS with⟨h1,_⟩|⟨k,k0,h1,h2,h3⟩
   .exact(FQ h1 hb).elim
   refine yP hb (λhd=>by simp_all) λk1 hk1=>⟨k0,h2,?_⟩;rw[h1] at hk1;injection hk1 with hk1;injection hk1 with hk1;rw[<- hk1];exact h3.ver
  rcases hin i b hS with⟨_,h1⟩|⟨k,k0,h1,h2,h3⟩
  .exact(Vm (c:=c0) h1 hx).elim
  refine AB hx (φ0 hS) rfl λk1 hk1=>⟨k,h1,?_⟩;have hk2:H0[i]?=aag (aag k1):=hk1;rw[h2] at hk2;injection hk2 with hk2;injection hk2 with hk2;subst hk2;exact⟨h3.ver.symm,h3.s.symm,h3.len⟩
 have live0:∀{i k0},c0.live i k0->∃b k,ids[i]?=aag b/\c.live b k/\RenK (λb i=>ids[i]?=aag b) k k0:=λ{i k0}hlv=>by
  have hlv':H0[i]?=aag (aag k0):=hlv;obtain⟨hi,_⟩:=ges hlv';have hb:=geq (l:=ids) (i:=i) (by omega);rcases hin i _ hb with⟨_,h2⟩|⟨k,k1,h1,h2,h3⟩
  .simp_all
  rw[hlv'] at h2;injection h2 with h2;injection h2 with h2;subst h2;exact⟨_,k,hb,h1,h3⟩
 have hr0:HRel c0:=by
  refine⟨hr.lt,λi k0 hlv=>?_,λi j k k' hi hj hne=>?_,hr.gl⟩
  .obtain⟨b,k,h1,h2,h3⟩:=live0 hlv;obtain⟨cs,fr,hB⟩:=hr.blk b k h2;exact⟨cs,fr,h3.blk hB (φ0 h1) rfl hB.nf rel0⟩
  obtain⟨b,q,h1,h2,_⟩:=live0 hi;obtain⟨b',q',h1',h2',_⟩:=live0 hj;rw[φ0 h1,φ0 h1'];refine hr.inj b b' q q' h2 h2' λhe=>hne ?_;subst he;exact PU hn hidlt (.inl h1)<|.inl h1'
 obtain⟨hal,hrel⟩:=hall;refine(h.2 c0 vs rfl hr0 ⟨hal.trans hla,λi a0 v ha0 hv=>?_⟩).mono λe w' ⟨v,c1,r0,he,hw,hR,hr1,hx1,hv⟩=>?_
 .obtain⟨a,ha⟩:=cZ hla.symm ha0
  grind
 subst hw;obtain⟨r,H',hout,hres,hR'⟩:=hF r0 c1.H hR;let φ':Nat->Nat×Nat:=λb=>if hb:∃i,i<c1.H.length/\sg ids c.H.length i b then c1.φ (Classical.choose hb) else c.φ b;have φ1:∀{i b},i<c1.H.length->sg ids c.H.length i b->φ' b=c1.φ i:=λ{i b}hi hs=>by
  have hb:∃i,i<c1.H.length/\sg ids c.H.length i b:=⟨i,hi,hs⟩;show(if hb:∃i,i<c1.H.length/\sg ids c.H.length i b then c1.φ (Classical.choose hb) else c.φ b)=_;rw[dif_pos hb,PU hn hidlt (Classical.choose_spec hb).2 hs]
 have φ2:∀{b},b<c.H.length->b∉ids->φ' b=c.φ b:=λ{b}hb hni=>by
  show(if hb:∃i,i<c1.H.length/\sg ids c.H.length i b then c1.φ (Classical.choose hb) else c.φ b)=_;rw[dif_neg];rintro⟨i,_,hs|⟨_,hs⟩⟩
  .grind
  omega
 let c2:Cx:={ w:=c1.w,fz:=c1.fz,H:=H',φ:=φ' };have back:∀{b k},H'[b]?=aag (aag k)->(∃i k1,sg ids c.H.length i b/\c1.H[i]?=aag (aag k1)/\RenK (sg ids c.H.length) k1 k)\/(b<c.H.length/\b∉ids/\c.H[b]?=aag (aag k)):=λ{b k}hk=>by
  have hbl:=(ges hk).1;rw[hout.len] at hbl;have hle:=hout.le
  by_cases hb:∃i,i<c1.H.length/\sg ids c.H.length i b
  .obtain⟨i,hi,hs⟩:=hb
   left
   have hg:=geq hi
   cases hc:c1.H[i] with
   |none=>
    rw[hc] at hg;rw[hout.dead i b hi hs hg] at hk
    cases hk
   |some k1=>
    rw[hc] at hg;obtain⟨k2,h1,h2⟩:=hout.some_ i b k1 hs hg
    grind
  right
  have hni:b∉ids:=λhm=>by
   obtain⟨i,hi⟩:=aaI.1 hm;have:=(ges hi).1;exact hb ⟨i,by omega,.inl hi⟩
  have hlt:b<c.H.length:=by
   rcases aaq b c.H.length with h1|h1
   .exact h1
   exact absurd ⟨ids.length+(b-c.H.length),by omega,.inr ⟨by omega,by omega⟩⟩ hb
  exact⟨hlt,hni,by rw[<- hout.rest b hlt hni];exact hk⟩
 have rel2:∀a a',Ren (sg ids c.H.length) a a'->∀v,c1.rel a v->c2.rel a' v:=λa a' hra=>by
  refine Ren.rel (c1:=c1) (c2:=c2) (aak _) (λg hg _=>⟨rfl,hg⟩) (λi b ver hS hb=>?_) (λi b ver x hS hb hx=>?_) hra
  .exact yP hb (λhd=>hout.dead i b (kx hb) hS hd) (λk hk=>by
    obtain⟨k',h1,h2⟩:=hout.some_ i b k hS hk;exact⟨k',h1,h2.ver⟩)
  refine AB hx (φ1 (kx hb) hS) rfl λk' hk'=>?_;have hg:=geq<|kx hb;have hk2:H'[b]?=aag (aag k'):=hk'
  cases hc:c1.H[i]'(kx hb) with
  |none=>
   rw[hc] at hg;rw[hout.dead i b (kx hb) hS hg] at hk2
   grind
  |some k1=>
   rw[hc] at hg;obtain⟨k2,h1,h2⟩:=hout.some_ i b k1 hS hg;rw[hk2] at h1;injection h1 with h1;injection h1 with h1;subst h1;exact⟨k1,hg,h2.ver.symm,h2.s.symm,h2.len⟩
 have notlive:∀{b k},b∉ids->c.live b k->∀i k0,c0.live i k0->(c0.φ i).1≠(c.φ b).1:=λ{b k}hni hlv i k0 hl0 he=>by
  obtain⟨b0,q,h1,h2,_⟩:=live0 hl0;rw[φ0 h1] at he;refine hr.inj b0 b q k h2 hlv (λhbb=>hni ?_) he
  grind
 have hx:Ext c c2:=by
  refine⟨hx1.os,hx1.tape,hx1.output,hx1.size,λg hg hng=>hx1.keep g hg λi k0 hl0=>?_,hx1.fz,λg hg=>?_,?_,λb ver hb=>?_,λb ver x hb hhd=>?_,λb k hlv=>?_⟩
  .grind
  .rcases hx1.Af g hg with h1|h1|⟨i,k0,hl0,he⟩
   .exact .inl h1
   .exact .inr<|.inl h1
   grind
  .show c.H.length<=H'.length;rw[hout.len];omega
  .by_cases hm:b∈ids
   .obtain⟨i,hi⟩:=aaI.1 hm;rcases hin i b hi with⟨h1,_⟩|⟨k,k0,h1,h2,h3⟩
    .exact(FQ h1 hb).elim
    have b0:c0.born i ver:=yP hb (λhd=>by simp_all) (λk1 hk1=>⟨k0,h2,by
     rw[h1] at hk1;injection hk1 with hk1;injection hk1 with hk1;rw[<- hk1];exact h3.ver⟩)
    have b1:=hx1.born i ver b0;exact yP b1 (λhd=>hout.dead i b (kx b1) (.inl hi) hd) (λk1 hk1=>by
     obtain⟨k',h4,h5⟩:=hout.some_ i b k1 (.inl hi) hk1;exact⟨k',h4,h5.ver⟩)
   have he:=hout.rest b (kx hb) hm;exact yP hb (λhd=>he.trans hd) λk hk=>⟨k,he.trans hk,rfl⟩
  .by_cases hm:b∈ids
   .obtain⟨i,hi⟩:=aaI.1 hm;rcases hin i b hi with⟨h1,_⟩|⟨k,k0,h1,h2,h3⟩
    .exact(FQ h1 hb).elim
    have b0:c0.born i ver:=yP hb (λhd=>by simp_all) (λk1 hk1=>⟨k0,h2,by
     rw[h1] at hk1;injection hk1 with hk1;injection hk1 with hk1;rw[<- hk1];exact h3.ver⟩)
    have b1:=hx1.born i ver b0;have e1:c1.hd i ver=aag x:=by
     refine AB hhd (φ1 (kx b1)<|.inl hi) rfl λk' hk'=>?_;rcases back hk' with⟨i',k1,g1,g2,g3⟩|⟨_,g2,_⟩
     .obtain rfl:=PU hn hidlt (.inl hi) g1;exact⟨k1,g2,g3.ver.symm,g3.s.symm,g3.len⟩
     simp_all
    have e0:=hx1.hd i ver x b0 e1;refine AB e0 (φ0 hi) rfl λk' hk'=>⟨k,h1,?_⟩;have hk2:H0[i]?=aag (aag k'):=hk';rw[h2] at hk2;injection hk2 with hk2;injection hk2 with hk2;subst hk2;exact⟨h3.ver.symm,h3.s.symm,h3.len⟩
   have hlt:=kx hb;obtain⟨k',hl',_⟩:=Cx.hd_some hhd;have hl2:c.live b k':=(hout.rest b hlt hm).symm.trans hl';refine AB hhd (φ2 hlt hm) (hx1.keep _ (hr.live_lt hl2)<|notlive hm hl2) λk1 hk1=>⟨k1,(hout.rest b hlt hm).symm.trans hk1,rfl,rfl,rfl⟩
  rcases back hlv with⟨i,k1,g1,g2,g3⟩|⟨g1,g2,g3⟩
  .have hi:=(ges g2).1;show _<=(φ' b).1\/∃b0 k0,c.live b0 k0/\(c.φ b0).1=(φ' b).1;rw[φ1 hi g1];rcases hx1.kO i k1 g2 with h1|⟨j,k0,h1,h2⟩
   .exact .inl h1
   grind
  refine .inr ⟨b,k,g3,?_⟩
  grind
 refine⟨v,c2,r,he,rfl,hR',⟨hr1.lt,λb k hlv=>?_,λb b' k k' hlv hlv' hne=>?_,hr1.gl⟩,hx,rel2 _ _ hres v hv⟩
 .rcases back hlv with⟨i,k1,g1,g2,g3⟩|⟨g1,g2,g3⟩
  .have hi:=(ges g2).1;obtain⟨cs,fr,hB⟩:=hr1.blk i k1 g2;exact⟨cs,fr,g3.blk hB (φ1 hi g1) rfl hB.nf rel2⟩
  obtain⟨cs,fr,hB⟩:=hr.blk b k g3;have hkp:=hx1.keep _ (hr.live_lt g3)<|notlive g2 g3;refine⟨cs,fr,⟨?_,?_,hB.pos,hB.free,?_,hB.len,λi row j a h1 h2=>?_⟩⟩
  .show c1.w.heap[(φ' b).1]?=aag (Vf k (φ' b).2 cs fr);rw[φ2 g1 g2,hkp];exact hB.at_
  .show ¬ c1.fz (φ' b).1;rw[φ2 g1 g2];intro hz;rcases hx1.Af _ hz with h1|h1|⟨i,k0,h1,h2⟩
   .exact hB.nf h1
   .have h3:=hr.live_lt g3
    grind
   exact notlive g2 g3 i k0 h1 h2
  .show(φ' b).2+_<=_;rw[φ2 g1 g2];exact hB.fits
  obtain⟨u,g4,g5,g6⟩:=hB.rel i row j a h1 h2;refine⟨u,?_,g5,g6.ext hr hx⟩
  grind
 show(φ' b).1≠(φ' b').1;have old:∀{b i k k1},b<c.H.length->b∉ids->c.H[b]?=aag (aag k)->c1.H[i]?=aag (aag k1)->(c1.φ i).1≠(c.φ b).1:=λ{b i k k1}g1 g2 g3 g4 he=>by
  rcases hx1.kO i k1 g4 with h1|⟨j,k0,h1,h2⟩
  .have h3:=hr.live_lt (b:=b) (k:=k) g3
   grind
  exact notlive (b:=b) (k:=k) g2 g3 j k0 h1<|h2.trans he
 rcases back hlv with⟨i,k1,g1,g2,g3⟩|⟨g1,g2,g3⟩ <;> rcases back hlv' with⟨j,k2,h1,h2,h3⟩|⟨h1,h2,h3⟩
 .rw[φ1 (ges g2).1 g1,φ1 (ges h2).1 h1];refine hr1.inj i j k1 k2 g2 h2 λhij=>hne ?_;subst hij;exact W5 g1 h1
 .grind
 .grind
 rw[φ2 g1 g2,φ2 h1 h2];exact hr.inj b b' k k' g3 h3 hne
theorem cN.frame{f:FuncId}{as0 aac:List AV}{H0 H:AH}{R R':AV->AH->Prop}(h:cN P f as0 H0 R)(ids:List Nat)(hn:ids.Nodup)(hl:ids.length=H0.length)
  (hin:∀(i b:Nat),ids[i]?=aag b->∃k k0,H[b]?=aag (aag k)/\H0[i]?=aag (aag k0)/\RenK (λb i=>ids[i]?=aag b) k k0)
  (hla:aac.length=as0.length) (has:∀(i:Nat)(a a0:AV),aac[i]?=aag a->as0[i]?=aag a0->Ren (λb i=>ids[i]?=aag b) a a0)
  (hF:∀r0 G0,R r0 G0->∃r H',Frd ids H G0 H'/\Ren (sg ids H.length) r0 r/\R' r H'):cN P f aac H R':=
 h.frameN ids hn hl (by grind) hla has hF
theorem eZ.frame{f:FuncId}{as0 aac:List AV}{H0 G0 H H':AH}{r0 r:AV}(h:eZ P f as0 H0 r0 G0)(ids:List Nat)(hn:ids.Nodup)(hl:ids.length=H0.length)
  (hin:∀(i b:Nat),ids[i]?=aag b->∃k k0,H[b]?=aag (aag k)/\H0[i]?=aag (aag k0)/\RenK (λb i=>ids[i]?=aag b) k k0)
  (hla:aac.length=as0.length) (has:∀(i:Nat)(a a0:AV),aac[i]?=aag a->as0[i]?=aag a0->Ren (λb i=>ids[i]?=aag b) a a0)
  (hout:Frd ids H G0 H') (hres:Ren (sg ids H.length) r0 r):eZ P f aac H r H':=by
 have hB:cN P f as0 H0 λr' G=>r'=r0/\G=G0:=⟨h.1,λc vs hH hr hall=>(h.2 c vs hH hr hall).mono λe w' ⟨v,c',he,hw,hG,hr',hx,hv⟩=>⟨v,c',r0,he,hw,⟨rfl,hG⟩,hr',hx,hv⟩⟩;exact(hB.frame ids hn hl hin hla has<|by grind).acall
end
section
variable{P:Program}
def Cx.res(c:Cx):Cx:={ w:=c.w,fz:=c.fz,H:=c.H++[aah],φ:=c.φ }
theorem Cx.res_live{c:Cx}{b:Nat}{k:ABlk}(h:c.res.live b k):c.live b k:=by
 unfold Cx.live Cx.res at h;rcases Nat.lt_trichotomy b c.H.length with hlt|rfl|hgt
 .rw[gal hlt] at h;exact h
 .grind
 grind
theorem Cx.res_ext(c:Cx):Ext c c.res where
 os:=rfl
 tape:=rfl
 output:=rfl
 size:=aak _
 keep:=λ_ _ _=>rfl
 fz:=λ_ h=>h
 Af:=λ_ h=>.inl h
 N:=by simp[Cx.res]
 born:=λb ver h=>by
  have hlt:=kx h;unfold Cx.born at *;simp[Cx.res,gal hlt];exact h
 hd:=λb ver x hb hx=>by
  have hlt:=kx hb;unfold Cx.hd at *;simp[Cx.res,gal hlt] at hx;exact hx
 kO:=λb k hl=>.inr ⟨b,k,Cx.res_live hl,rfl⟩
theorem Cx.res_heap{c:Cx}(hr:HRel c):HRel c.res where
 gl:=hr.gl
 lt:=hr.lt
 blk:=λb k hl=>by
  obtain⟨cs,fr,hB⟩:=hr.blk b k (Cx.res_live hl);exact⟨cs,fr,⟨hB.at_,hB.nf,hB.pos,hB.free,hB.fits,hB.len,λi row j a h1 h2=>by
   obtain⟨u,h3,h4,h5⟩:=hB.rel i row j a h1 h2;exact⟨u,h3,h4,h5.ext hr c.res_ext⟩⟩⟩
 inj:=λb b' k k' h1 h2 hne=>hr.inj b b' k k' (Cx.res_live h1) (Cx.res_live h2) hne
def Cx.newAt(c:Cx)(b:Nat)(k:ABlk)(cs:Array Value):Cx:={ w:=c.w.alloc (.cells cs k.ty),fz:=c.fz,H:=c.H.set b (aag k),φ:=λq=>if q=b then (c.w.heap.size,0) else c.φ q }
section
variable{c:Cx}{b:Nat}{k:ABlk}{cs:Array Value}
theorem Cx.newAt_live{q:Nat}{k':ABlk}(h:(c.newAt b k cs).live q k'):(q=b/\k'=k)\/(q≠b/\c.live q k'):=by
 unfold Cx.live Cx.newAt at h
 by_cases e:q=b
 .grind
 rw[aay (Ne.symm e)] at h;exact .inr ⟨e,h⟩
theorem Cx.newAt_self(hb:c.H[b]?=aag aah):(c.newAt b k cs).live b k:=by
 unfold Cx.live Cx.newAt
 grind
theorem Cx.newAt_born{q ver:Nat}(hb:c.H[b]?=aag aah)(h:c.born q ver):q≠b/\(c.newAt b k cs).born q ver:=by
 have hne:q≠b:=λe=>by unfold Cx.born at h;grind
 unfold Cx.born at *;simp[Cx.newAt]
 grind
theorem Cx.newAt_φ{q:Nat}(h:q≠b):(c.newAt b k cs).φ q=c.φ q:=if_neg h
theorem Cx.newAt_ext(hr:HRel c)(hb:c.H[b]?=aag aah):Ext c (c.newAt b k cs) where
 os:=rfl
 tape:=rfl
 output:=rfl
 size:=by simp[Cx.newAt]
 keep:=λg hg _=>Below.heap_alloc _ _ _ hg
 fz:=λ_ h=>h
 Af:=λ_ h=>.inl h
 N:=by simp[Cx.newAt]
 born:=λ_ _ h=>(Cx.newAt_born hb h).2
 hd:=λq ver x hq hx=>by
  obtain⟨k',hl,hv,o,hc,hx'⟩:=Cx.hd_some hx;have hne:=(Cx.newAt_born (k:=k) (cs:=cs) hb hq).1;rcases Cx.newAt_live hl with⟨e,_⟩|⟨_,hl'⟩
  .omega
  rw[Cx.newAt_φ hne] at hc hx';have hh:c.w.heap[(c.φ q).1]?=aag o:=by
   rw[<- hc];exact(Below.heap_alloc _ _ _<|hr.live_lt hl').symm
  rw[<- hv];exact(Cx.hd_of hl' hh).trans hx'
 kO:=λq k' hl=>by
  rcases Cx.newAt_live hl with⟨rfl,rfl⟩|⟨hne,hl'⟩
  .simp[Cx.newAt]
  exact .inr ⟨q,k',hl',by rw[Cx.newAt_φ hne]⟩
theorem Cx.newAt_rel(hr:HRel c)(hb:c.H[b]?=aag aah)(hs:0<k.s)(hf:k.rows.length*k.s<=cs.size)(hl:∀(i:Nat)(row:List AV),k.rows[i]?=aag row->row.length=k.s)
  (h:∀(i:Nat)(row:List AV)(j:Nat)(a:AV),k.rows[i]?=aag row->row[j]?=aag a->∃u,cs[i*k.s+j]?=aag u/\u.oneCell'=aae/\c.rel a u):HRel (c.newAt b k cs) where
 gl:=hr.glx<|Cx.newAt_ext hr hb
 lt:=λg hg=>by
  have:=hr.lt g hg;simp[Cx.newAt];omega
 blk:=λq k' hq=>by
  rcases Cx.newAt_live hq with⟨rfl,rfl⟩|⟨hne,hl'⟩
  .refine⟨cs,aag (0,0),?_⟩;have e:(c.newAt q k' cs).φ q=(c.w.heap.size,0):=if_pos rfl;refine⟨by rw[e];exact heap_alloc_new _ _,by rw[e];exact λhz=>aaM _<|hr.lt _ hz,hs,by grind,by simp_all,hl,λi row j a h1 h2=>?_⟩;obtain⟨u,h3,h4,h5⟩:=h i row j a h1 h2;exact⟨u,by grind,h4,h5.ext hr<|Cx.newAt_ext hr hb⟩
  obtain⟨cs',fr,hB⟩:=hr.blk q k' hl';refine⟨cs',fr,⟨by rw[Cx.newAt_φ hne];exact(Below.heap_alloc _ _ _<|hr.live_lt hl').trans hB.at_,by rw[Cx.newAt_φ hne];exact hB.nf,hB.pos,hB.free,by rw[Cx.newAt_φ hne];exact hB.fits,hB.len,λi row j a h1 h2=>?_⟩⟩;obtain⟨u,h3,h4,h5⟩:=hB.rel i row j a h1 h2;exact⟨u,by rw[Cx.newAt_φ hne];exact h3,h4,h5.ext hr<|Cx.newAt_ext hr hb⟩
 inj:=λq q' k1 k2 h1 h2 hne=>by
  rcases Cx.newAt_live h1 with⟨rfl,rfl⟩|⟨hn1,hl1⟩
  .rcases Cx.newAt_live h2 with⟨rfl,rfl⟩|⟨hn2,hl2⟩
   .omega
   have:=hr.live_lt hl2;rw[show(c.newAt q k1 cs).φ q=(c.w.heap.size,0) from if_pos rfl,Cx.newAt_φ hn2];omega
  rcases Cx.newAt_live h2 with⟨rfl,rfl⟩|⟨hn2,hl2⟩
  .have:=hr.live_lt hl1;rw[show(c.newAt q' k2 cs).φ q'=(c.w.heap.size,0) from if_pos rfl,Cx.newAt_φ hn1];omega
  rw[Cx.newAt_φ hn1,Cx.newAt_φ hn2];exact hr.inj q q' k1 k2 hl1 hl2 hne
theorem Cx.newAt_hs(hb:c.H[b]?=aag aah){n cap:Nat}(hn:n<=k.rows.length)(hc:n<=cap)(hm:cap<=9223372036854775807)(hs:cap*k.s<=cs.size):(c.newAt b k cs).rel (.hs b k.ver k.s 0 n) (.slice (aag ⟨c.w.heap.size,0,aah⟩) n cap):=by
 have hl:=Cx.newAt_self (k:=k) (cs:=cs) hb;have hφ:(c.newAt b k cs).φ b=(c.w.heap.size,0):=if_pos rfl;have hh:(c.newAt b k cs).hd b k.ver=aag ⟨c.w.heap.size,0,k.s,k.rows.length,cs.size⟩:=by
  have:=Cx.hd_of hl (by rw[hφ];exact heap_alloc_new _ _);rw[hφ] at this;exact this
 refine .hs ?_ hc hm (λ_=>⟨_,rfl⟩) λx hx=>?_
 .unfold Cx.born;rw[show(c.newAt b k cs).H[b]?=aag (aag k) from hl];omega
 simp_all
end
variable{o:Oper}{ρ:Operand->AV}
theorem K4{cl:Call}{x y:Operand}{t u e:TypeId}{news:List (List AV)}{H:AH}{b:Nat}{ver:Nat}(hb:H[b]?=aag aah)(ho:o.op= .call cl)(h1:cl.callee= .builtin .append)(h2:cl.args.toList=[x,y])(h3:cl.argTypes.toList=[t,u])
  (ht:P.underlying t=aag (.slice e)) (hu:(∃e2,P.underlying u=aag (.slice e2))\/P.underlying u=aag .string) (hx:ρ x= .nil) (hpos:0<P.cellsOf e)
  (hz:(((P.info? e).bind (·.zero)).map λz=>z.cells.size)=aag (P.cellsOf e)) (hb1:news.length*P.bytesOf e<=35184372088832) (hb2:news.length<=35184372088832) (hn:news.length≠0)
  (hsrc:∀(c:Cx)(v:Value),c.H=H->HRel c->c.rel (ρ y) v->∃vs,SrcIs P c (P.cellsOf e) v news vs) :
  ZP P o ρ H (.hs b ver (P.cellsOf e) 0 news.length) (H.set b<|aag ⟨ver,P.cellsOf e,e,news⟩):=by
 intro c a K Q hH hr hxs hK;subst hH;obtain⟨ox,oy⟩:=wY ho h2;have hx1:=iy<|hx ▸ hxs x ox;obtain⟨vs,hvs⟩:=hsrc c _ rfl hr<|hxs y oy;obtain⟨hvl,hv1,_⟩:=hvs.is
 cases hi:P.info? e with
 |none=>simp_all
 |some i=>
  rw[hi] at hz;obtain⟨z,hz,hzs⟩:=aap.1 hz;have hby:P.bytesOf e=i.bytes:=by simp[Program.bytesOf,hi]
  have hce:P.cellsOf e=i.size:=by simp[Program.cellsOf,hi]
  have hfn:=hvs.cells c.w.drew rfl;rw[hce] at hfn;have hfo:(Builtin.firstCells i.size 0<|.slice aah 0 0).run P c.w.drew= .ok #[] c.w.drew:=rfl;obtain⟨nc,hnc1,hnc2,hrun⟩:=vN ht hu hi hz (hvs.len c.w) hfo hfn (by omega) (by omega) (by simp_all);unfold Oper.wp;rw[ug ho h1 h2 h3 (by rw[hx1];exact hrun)];generalize hcs3 : #[]++vs.toArray++Builtin.zeroCells z.cells (nc-(0+news.length))=cs3;have hdr:=Cx.drew_rel hr;have hsz3:nc*P.cellsOf e<=cs3.size:=by
   rw[<- hcs3];simp only[aaG,aaH,nZ,hzs,hvl,List.length_nil,aax];rw[<- aal]
   grind
  have hget3:∀q u',vs[q]?=aag u'->cs3[q]?=aag u':=λq u' hq=>by
   have hq2:=(ges hq).1;rw[<- hcs3,aaF (by simpa using hq2)]
   simp_all
  have hbd:=hb;have hrel:=Cx.newAt_rel (k:=⟨ver,P.cellsOf e,e,news⟩) (cs:=cs3) hdr hbd hpos (by
    grind) (λq row hq=>hvs.rows q row hq) (λq row j a' hq hj=>by
    obtain⟨u',g1,g2,g3⟩:=hvs.is.get hq hj;exact⟨u',hget3 _ _ g1,g2,g3.ext hr c.drew_ext⟩)
  have hh:=Cx.newAt_hs (c:=c.drew) (k:=⟨ver,P.cellsOf e,e,news⟩) (cs:=cs3) hbd (n:=news.length) (aak _) (by omega) hnc2 hsz3;rw[aax];exact hK _ (c.drew.newAt b ⟨ver,P.cellsOf e,e,news⟩ cs3) rfl hrel (c.drew_ext.trans<|Cx.newAt_ext hdr hbd) hh
end
def mkA:List AV->AV
 |[x]=>x
 |l=>.agg l
theorem Vn{c:Cx}{as':List AV}{us:List Value}(hl:us.length=as'.length)(h1:∀(j:Nat)(u:Value),us[j]?=aag u->u.oneCell'=aae)(h:∀(j:Nat)(a:AV)(u:Value),as'[j]?=aag a->us[j]?=aag u->c.rel a u):c.rel (mkA as') (mkv us):=by
 match as',us,hl with
 |[],[],_=>exact .agg rfl (λi u hu=>by grind) (λi a u ha=>by grind)
 |[a],[u],_=>exact h 0 a u rfl rfl
 |a::b::l,u::v::m,hl=>exact .agg (by omega) (by grind) (λi a u ha hu=>h i a u ha<|by grind)
theorem Vo{α:Type}{L R:List α}{a:Nat}(h:∀(j:Nat)(x:α),R[j]?=aag x->L[a+j]?=aag x):(L.drop a).take R.length=R:=by
 apply aaO
 grind
structure KeyA(P:Program)(keyT:TypeId){K:Type}[DecidableEq K](kn:Nat)(kc:K->List Value):Prop where
 len:∀k,(kc k).length=kn
 plain:∀k,∀x∈kc k,plain x=aae
 check:∀(w:World)(em:Bool)(k:K),(Instr.checkKey em 10000 keyT<|mkv<|kc k).run P w= .ok () w
 find:∀(w:World)(k:K)(es:List MapEntry)(ks:List K),es.map (·.key)=ks.map (λk=>mkv<|kc k) ->
  (Instr.findKey keyT (mkv<|kc k) es).run P w= .ok ((ks.findIdx? λx=>aai<|x=k).bind λj=>es[j]?.map λe=>(j,e.val)) w
 stays:∀(w:World)(k:K),(Instr.keyThatStays (mkv<|kc k)<|mkv<|kc k).run P w= .ok (mkv<|kc k) w
def Vp{K V:Type}[DecidableEq K](l:List<|K×V)(k:K):Option Nat:=(l.map (·.1)).findIdx? λx=>aai<|x=k
def SS{K V:Type}[DecidableEq K](l:List<|K×V)(k:K):Option V:=(Vp l k).bind λj=>l[j]?.map (·.2)
theorem PX{K V:Type}[DecidableEq K]{l:List (K×V)}{k:K}{j:Nat}(h:Vp l k=aag j):j<l.length/\∃v,l[j]?=aag (k,v):=by
 obtain⟨h1,h2,_⟩:=List.findIdx?_eq_some_iff_getElem.1 h
 grind
def Yq{K V:Type}(kc:K->List Value)(cv:V->List AV)(p:K×V):List AV:=(kc p.1).map AV.v++cv p.2
abbrev mB{K V:Type}(kn vn:Nat)(kc:K->List Value)(cv:V->List AV)(l:List<|K×V):ABlk:=⟨0,kn+vn,kn,l.map<|Yq kc cv⟩
section
variable{P:Program}{K V:Type}{kn vn:Nat}{kc:K->List Value}{cv:V->List AV}{keyT:TypeId}{l:List (K×V)}
theorem Vq[DecidableEq K]{c:Cx}(q:KeyA P keyT kn kc)(k:K){u:Value}(h:c.rel (mkA<|(kc k).map AV.v) u):u=mkv (kc k):=by
 have hp:=q.plain k
 cases e:kc k with
 |nil=>
  rw[e] at h;obtain⟨vs,rfl,h1,_⟩:=uf h;have : vs=#[]:=by grind
  rw[this]
  rfl
 |cons x t=>
  rw[e] at h hp
  cases t with
  |nil=>exact(iw h).1
  |cons y t=>
   obtain⟨vs,rfl,h1,_,h3⟩:=uf h;change vs.size=((x::y::t).map AV.v).length at h1;rw[llm] at h1;replace h3:∀(i:Nat)(a:AV)(u:Value),((x::y::t).map AV.v)[i]?=aag a->vs[i]?=aag u->c.rel a u:=h3;have : vs=(x::y::t).toArray:=by
    apply Array.ext';apply aaO;intro j
    by_cases hj:j<(x::y::t).length
    .have hv:j<vs.size:=by grind
     have g:=h3 j (.v (x::y::t)[j]) vs[j] (by grind) (by grind);simp[aav,aaB hv,(iw g).1,geq hj]
    grind
   rw[this]
   rfl
theorem Vr{c:Cx}{b:Nat}(hr:HRel c)(hl:c.live b<|mB kn vn kc cv l){u:Value}(hu:c.rel (.mp b<|kn+vn) u) :
  ∃cs,u= .map (aag (c.φ b).1)/\BRel c b (mB kn vn kc cv l) cs aah:=by
 obtain⟨g,rfl,_,hx⟩:=UD hu;obtain⟨cs,fr,hB⟩:=hr.blk b _ hl;have h1:=Cx.hd_of hl hB.at_
 cases fr with
 |some f=>
  have:=(hx _ h1).1
  simp_all
 |none=>
  have:=(hx _ h1).2
  grind
variable{c:Cx}{b:Nat}{cs:Array Value}
theorem PY{i:Nat}{p:K×V}(h:l[i]?=aag p):(mB kn vn kc cv l).rows[i]?=aag (Yq kc cv p):=by grind
theorem Vt[DecidableEq K](q:KeyA P keyT kn kc)(hB:BRel c b (mB kn vn kc cv l) cs aah){i:Nat}{p:K×V}(h:l[i]?=aag p):(GV (kn+vn) kn (c.φ b).2 cs i).key=mkv (kc p.1):=by
 unfold GV;simp only
 congr 1
 have:=Vo (L:=cs.toList) (R:=kc p.1) (a:=(c.φ b).2+i*(kn+vn)) λj x hx=>by
  obtain⟨u,g1,_,g3⟩:=hB.rel i _ j (.v x) (PY h) (by unfold Yq;grind);rw[(iw g3).1] at g1
  simp_all
 rwa [q.len] at this
theorem Vu[DecidableEq K](q:KeyA P keyT kn kc)(hv:∀v,(cv v).length=vn)(hB:BRel c b (mB kn vn kc cv l) cs aah){i:Nat}{p:K×V}(h:l[i]?=aag p):c.rel (mkA<|cv p.2) (GV (kn+vn) kn (c.φ b).2 cs i).val:=by
 unfold GV;have hat:∀j,j<vn->∃a u,(cv p.2)[j]?=aag a/\((cs.toList.drop<|(c.φ b).2+i*(kn+vn)+kn).take<|kn+vn-kn)[j]?=aag u/\u.oneCell'=aae/\c.rel a u:=λj hj=>by
  have hj':j<(cv p.2).length:=by rw[hv];exact hj
  obtain⟨u,g1,g2,g3⟩:=hB.rel i _ (kn+j) ((cv p.2)[j]) (PY h) (by
   unfold Yq;rw[gar (by simp[q.len]),llm,q.len,Nat.add_sub_cancel_left,geq hj'])
  grind
 have hlen:((cs.toList.drop<|(c.φ b).2+i*(kn+vn)+kn).take<|kn+vn-kn).length=(cv p.2).length:=by
  rcases aaq ((cs.toList.drop<|(c.φ b).2+i*(kn+vn)+kn).take<|kn+vn-kn).length vn with hlt|hge
  .grind
  grind
 refine Vn hlen (λj u hu=>?_) λj a u ha hu=>?_
 .grind
 grind
theorem W6(hB:BRel c b (mB kn vn kc cv l) cs aah):c.w.heap[(c.φ b).1]?=aag (.map ((aam l.length).map<|GV (kn+vn) kn (c.φ b).2 cs) l.length):=by
 have:=hB.at_;simpa [Vf] using this
theorem Vv[DecidableEq K](q:KeyA P keyT kn kc)(hB:BRel c b (mB kn vn kc cv l) cs aah):(((aam l.length).map<|GV (kn+vn) kn (c.φ b).2 cs).toList.map (·.key))=(l.map (·.1)).map λk=>mkv (kc k):=by
 apply aaO;intro i
 by_cases hi:i<l.length
 .have h:=geq hi;simp[aaL,Array.toList_range,List.map_map,aaC,List.getElem?_range hi,aaD,h,Function.comp];rw[Vt q hB h]
 simp_all
theorem Tm[DecidableEq K](q:KeyA P keyT kn kc)(hB:BRel c b (mB kn vn kc cv l) cs aah)(k:K):(Instr.findKey keyT (mkv<|kc k) ((aam l.length).map<|GV (kn+vn) kn (c.φ b).2 cs).toList).run P c.w=
  .ok ((Vp l k).map λj=>(j,(GV (kn+vn) kn (c.φ b).2 cs j).val)) c.w:=by
 rw[q.find c.w k _ _ (Vv q hB)];unfold Vp
 cases h:(l.map (·.1)).findIdx? λx=>aai (x=k) with
 |none=>rfl
 |some j=>
  have hj:=(PX<|show Vp l k=aag j from h).1
  simp_all
variable{o:Oper}{ρ:Operand->AV}{H:AH}{x y z:Operand}{t e:TypeId}
theorem NW[DecidableEq K](q:KeyA P keyT kn kc)(hv:∀v,(cv v).length=vn)(d:V){zv:Value}{ok:Bool}(ho:o.op= .lookup t x y ok)(ht:P.underlying t=aag (.map keyT e))(hz:∀w,(zeroValue e).run P w= .ok zv w)(hzr:∀c:Cx,c.rel (mkA<|cv d) zv)(k:K)
  (hx:ρ x= .mp b (kn+vn)) (hy:ρ y=mkA ((kc k).map AV.v)) (hb:H[b]?=aag (aag<|mB kn vn kc cv l)) :
  ZP P o ρ H (bif ok then .tup [mkA (cv<|(SS l k).getD d),.v (.bool (SS l k).isSome)] else mkA (cv<|(SS l k).getD d)) H:=by
 intro c a Kk Q hH hr hxs hK;have h1:=hx ▸ hxs x (by rw[ho];simp[Op.operands]);have h2:=Vq q k<|hy ▸ hxs y (by rw[ho];simp[Op.operands]);have hl:c.live b (mB kn vn kc cv l):=by unfold Cx.live;rw[hH];exact hb
 obtain⟨cs,hu,hB⟩:=Vr hr hl h1;have key:∀(v:Value)(s:Bool)(r:AV),c.rel r v->c.rel (bif ok then .tup [r,.v (.bool s)] else r) (if ok then Value.tuple #[v,.bool s] else v):=λv s r hr=>by
  cases ok with
  |false=>exact hr
  |true=>
   refine .tup rfl λi a u ha hu=>?_
   match i with
   |0=>
    obtain rfl:=osl ha;obtain rfl:=osl hu;exact hr
   |1=>
    obtain rfl:=osl ha;obtain rfl:=osl hu;exact eD rfl
   |i+2=>grind
 have hrun:∀(v:Value)(s:Bool),(∀r,r=(Vp l k).map (λj=>(j,(GV (kn+vn) kn (c.φ b).2 cs j).val))->((r=aah/\v=zv/\s=aaf)\/∃j,r=aag (j,v)/\s=aae))->(execOp a.eval o).run P c.w= .ok (.value<|if ok then Value.tuple #[v,.bool s] else v) c.w:=λv s h=>by
  rw[execOp,ho];simp only[hu,h2];unfold Instr.lookup;simp only[Sem.run_bind,ay ht,Result.andThen_ok,MapKept.run_getObj_map (W6 hB),Sem.run_pure,q.check,Tm q hB];rcases h _ rfl with⟨h1,rfl,rfl⟩|⟨j,h1,rfl⟩
  .simp_all
  rw[h1]
  simp_all
 unfold Oper.wp
 cases hm:Vp l k with
 |none=>
  rw[hrun zv aaf (by grind)];have : SS l k=aah:=by simp[SS,hm]
  refine hK _ c hH hr (Ext.refl c) ?_
  simp_all
 |some j=>
  rw[hrun _ aae (λr hr=>.inr ⟨j,by rw[hr,hm];rfl,rfl⟩)];obtain⟨hj,v,hv'⟩:=PX hm;have : SS l k=aag v:=by simp[SS,hm,hv']
  refine hK _ c hH hr (Ext.refl c) ?_;rw[this];exact key _ _ _<|Vu q hv hB hv'
end
end
end Go.Proofs.YtoagamanbofngaaGreatDoor
