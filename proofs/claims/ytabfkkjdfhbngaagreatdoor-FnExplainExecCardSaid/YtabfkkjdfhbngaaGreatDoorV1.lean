/- Texts joined. No conditions. -/
import Derived.Below
import Derived.Control
import Derived.WalkKit
import Derived.IntWalk
import Derived.WalkSpells
import Derived.WalkLawsBesides
import Derived.Laws.Cells
import Derived.ChangeKeysEq
import Derived.ShutString
import Derived.Laws.Slices
import Derived.Laws.Tables
import Derived.Laws.CopyRow
import Derived.Laws.Append
import Derived.Laws.AppendOwn
namespace Go.Proofs.YtabfkkjdfhbngaaGreatDoor
noncomputable section
open _root_.Inhabited renaming default -> QW
open _root_.Bool renaming true -> QX
open _root_.Bool renaming false -> QY
open _root_.Option renaming some -> QZ
open _root_.Option renaming none -> Q0
open _root_.Decidable renaming decide -> Q3
open _root_.Nat renaming add_mul -> Q5, le_refl -> Q7, mul_le_mul_right -> Rj, le_trans -> Rm, add_zero -> Ro, lt_or_ge -> Rs
open _root_.Array renaming range -> Q6, getElem?_eq_getElem -> Ri, getElem?_toList -> Rn, eq_empty_of_size_eq_zero -> Rp, length_toList -> Rx, getElem?_extract -> RA
open _root_.BitVec renaming ofInt -> Q8
open _root_.List renaming range -> Q9, replicate -> Rb, getElem?_map -> Re, getElem?_take -> Rh, mem_of_getElem? -> Rk, getElem?_set_ne -> Rl, getElem?_cons_zero -> Rq, getElem?_drop -> Rt, mem_map -> Rw, getElem?_range -> Rz, getElem?_set_self -> RD
open _root_.Option renaming map_eq_some_iff -> Ra, map_some -> Rf, isSome_iff_exists -> Ru, isSome_none -> RB
open _root_.Bool renaming false_eq_true -> Rv
open _root_.Option.some renaming inj -> Ry
abbrev LS (S E:Type):=S->Option (S ⊕ E)
abbrev dF:List Nat×Bool:=([],QY)
abbrev dG (l:List<|List Nat×Bool) (i:Nat):List Nat×Bool:=l.getD i ([],QY)
theorem Z {α:Sort _} {a:α}:a=a:=rfl
abbrev J {α:Type} [Inhabited α] (l:List α) (i:Int):α:=l.getD i.toNat QW
abbrev BA:=ByteArray
abbrev LI:=List Int
abbrev LL:=List<|List Int
abbrev U:Int:=0
abbrev V:Int:=1
theorem osk {α:Type _} {a b:α} (h:QZ a=QZ b):b=a:=(Ry h).symm
theorem ges {α:Type _} {l:List α} {i:Nat} {a:α} (h:l[i]? = QZ a):∃ h:i<l.length,l[i]=a:=List.getElem?_eq_some_iff.1 h
theorem osl {α:Type _} {a b:α} (h:QZ a=QZ b):a=b:=Ry h
theorem gal {α:Type _} {l k:List α} {n:Nat} (h:n<l.length):(l++k)[n]? = l[n]?:=List.getElem?_append_left h
theorem gar {α:Type _} {l k:List α} {n:Nat} (h:l.length<=n):(l++k)[n]? = k[n-l.length]?:=List.getElem?_append_right h
theorem nlb {n m:Nat} (h:Nat.ble n m=QX):n<=m:=Nat.le_of_ble_eq_true h
theorem bae (a b:Bool):((a&&b)=QX)=(a=QX/\b=QX):=Bool.and_eq_true a b
theorem lla {α:Type _} {l k:List α}:(l++k).length=l.length+k.length:=List.length_append
theorem sie {α:Type _} (a b:α):(QZ a=QZ b)=(a=b):=Option.some.injEq a b
theorem dte {p:Prop} [Decidable p]:(decide p=QX)=p:=decide_eq_true_eq
theorem llc {α:Type _} {a:α} {l:List α}:(a::l).length=l.length+1:=List.length_cons
theorem llm {α β:Type _} {l:List α} (f:α->β):(l.map f).length=l.length:=List.length_map f
theorem gen {α:Type _} {l:List α} {i:Nat} (h:l.length<=i):l[i]? = Q0:=List.getElem?_eq_none h
theorem gdq {α:Type _} {l:List α} {i:Nat} {a:α}:l.getD i a=l[i]?.getD a:=List.getD_eq_getElem?_getD
theorem geq {α:Type _} {l:List α} {i:Nat} (h:i<l.length):l[i]? = QZ l[i]:=List.getElem?_eq_getElem h
@[simp] theorem tnn (n:Nat):((n:Int)).toNat=n:=Int.toNat_natCast n
open Go.RowKit
inductive AV where
 | v (x:Value)
 | agg (cs:List AV)
 | tup (xs:List AV)
 | nil
 | sl (n:Nat) (row:Nat->List AV)
 | fp (row:List AV) (j:Nat)
 | hs (b ver s off len:Nat)
 | hp (b ver s i j:Nat)
 | mp (b s:Nat)
 | ifc (t:TypeId) (x:AV)
 | fn (f:Fn) (p6:List AV)
 | top
structure ABlk where
 ver:Nat
 s:Nat
 ty:TypeId
 rows:List (List AV)
abbrev AH:=List<|Option ABlk
def plain:Value->Bool
 | .bool _ | .int _ _ | .float _ _ | .complex _ _ _ | .string _ | .pointer Q0 | .map Q0 | .chan Q0 | .nilFunc | .nilIface=>QX
 | _=>QY
theorem Ew {x:Value} (h:plain x=QX):x.oneCell'=QX:=by
 unfold plain at h
 split at h <;> first | rfl | cases h
theorem Fy {x:Value} (h:plain x=QX):x.cells = #[x]:=by
 unfold plain at h
 split at h <;> first | rfl | cases h
inductive FRel (w:World) (fz:Nat->Prop):AV->Value->Prop
 | v {x:Value} (h:plain x=QX):FRel w fz (.v x) x
 | agg {cs:List AV} {vs:Array Value} (hl:vs.size=cs.length) (h1:∀ (i:Nat) (u:Value),vs[i]? = QZ u->u.oneCell'=QX)
   (h:∀ (i:Nat) (c:AV) (u:Value),cs[i]? = QZ c->vs[i]? = QZ u->FRel w fz c u):FRel w fz (.agg cs) (.agg vs)
 | tup {cs:List AV} {vs:Array Value} (hl:vs.size=cs.length) (h:∀ (i:Nat) (c:AV) (u:Value),cs[i]? = QZ c->vs[i]? = QZ u->FRel w fz c u):FRel w fz (.tup cs) (.tuple vs)
 | nil:FRel w fz .nil (.slice Q0 0 0)
 | sl {n cap s g o:Nat} {row:Nat->List AV} {a:Option Addr} (us:Nat->Nat->Value) (hc:n<=cap) (hm:cap<=9223372036854775807)
   (ha:0<n->a=QZ ⟨g,o,Q0⟩/\fz g/\g<w.heap.size) (hs:∀ i,i<n->(row i).length=s)
   (hu:∀ (i j:Nat) (c:AV),i<n->(row i)[j]? = QZ c->w.cell? ⟨g,o+i*s+j,Q0⟩=QZ (us i j))
   (h1:∀ (i j:Nat) (c:AV),i<n->(row i)[j]? = QZ c->(us i j).oneCell'=QX)
   (h:∀ (i j:Nat) (c:AV),i<n->(row i)[j]? = QZ c->FRel w fz c (us i j)):FRel w fz (.sl n row) (.slice a n cap)
 | fp {row:List AV} {j g o:Nat} (us:Nat->Value) (hg:fz g) (hlt:g<w.heap.size)
   (hu:∀ (j:Nat) (c:AV),row[j]? = QZ c->w.cell? ⟨g,o+j,Q0⟩=QZ (us j))
   (h1:∀ (j:Nat) (c:AV),row[j]? = QZ c->(us j).oneCell'=QX)
   (h:∀ (j:Nat) (c:AV),row[j]? = QZ c->FRel w fz c (us j)):FRel w fz (.fp row j) (.pointer<|QZ ⟨g,o+j,Q0⟩)
 | ifc {t:TypeId} {x:AV} {u:Value} (h:FRel w fz x u):FRel w fz (.ifc t x) (.iface t u)
 | fn {f:Fn} {cs:List AV} {vs:Array Value} (hl:vs.size=cs.length) (h:∀ (i:Nat) (c:AV) (u:Value),cs[i]? = QZ c->vs[i]? = QZ u->FRel w fz c u):FRel w fz (.fn f cs) (.func f #[] vs)
theorem FRel.mono {w w':World} {fz fz':Nat->Prop} {a:AV} {v:Value} (h:FRel w fz a v) (hs:w.heap.size<=w'.heap.size)
  (hf:∀ g,fz g->g<w.heap.size->w'.heap[g]? = w.heap[g]? /\ fz' g):FRel w' fz' a v:=by
 induction h with
 | v h=>exact .v h
 | agg hl h1 _ ih=>exact .agg hl h1 ih
 | tup hl _ ih=>exact .tup hl ih
 | nil=>exact .nil
 | @sl n cap s g o row a us hc hm ha hr hu h1 _ ih=>
  refine .sl (g:=g) (o:=o) us hc hm (λhn=>?_) hr (λi j c hi hj=>?_) h1 ih
  ·grind
  obtain ⟨_,hg,hlt⟩:=ha (by omega);rw [World.cell?_of_block (w:=w) (hf g hg hlt).1]
  simp_all
 | @fp row j g o us hg hlt hu h1 _ ih=>
  refine .fp us (hf g hg hlt).2 (by omega) (λj c hj=>?_) h1 ih;rw [World.cell?_of_block (w:=w) (hf g hg hlt).1]
  simp_all
 | ifc _ ih=>exact .ifc ih
 | fn hl _ ih=>exact .fn hl ih
structure HI where
 g:Nat
 o:Nat
 s:Nat
 n:Nat
 m:Nat
inductive VRel (w:World) (fz:Nat->Prop) (bn:Nat->Nat->Prop) (hd:Nat->Nat->Option HI):AV->Value->Prop
 | fr {a:AV} {u:Value} (h:FRel w fz a u):VRel w fz bn hd a u
 | agg {cs:List AV} {vs:Array Value} (hl:vs.size=cs.length) (h1:∀ (i:Nat) (u:Value),vs[i]? = QZ u->u.oneCell'=QX)
   (h:∀ (i:Nat) (c:AV) (u:Value),cs[i]? = QZ c->vs[i]? = QZ u->VRel w fz bn hd c u):VRel w fz bn hd (.agg cs) (.agg vs)
 | tup {cs:List AV} {vs:Array Value} (hl:vs.size=cs.length) (h:∀ (i:Nat) (c:AV) (u:Value),cs[i]? = QZ c->vs[i]? = QZ u->VRel w fz bn hd c u):VRel w fz bn hd (.tup cs) (.tuple vs)
 | ifc {t:TypeId} {x:AV} {u:Value} (h:VRel w fz bn hd x u):VRel w fz bn hd (.ifc t x) (.iface t u)
 | fn {f:Fn} {cs:List AV} {vs:Array Value} (hl:vs.size=cs.length) (h:∀ (i:Nat) (c:AV) (u:Value),cs[i]? = QZ c->vs[i]? = QZ u->VRel w fz bn hd c u):VRel w fz bn hd (.fn f cs) (.func f #[] vs)
 | hs {b ver s off len cap:Nat} {A:Option Addr} (hb:bn b ver) (hc:len<=cap) (hm:cap<=9223372036854775807) (h0:0<cap->∃ ad,A=QZ ad)
   (h:∀ x,hd b ver=QZ x->x.s=s/\off+len<=x.n/\(0<cap->A=QZ ⟨x.g,x.o+off*s,Q0⟩)/\x.o+off*s+cap*s<=x.m):VRel w fz bn hd (.hs b ver s off len) (.slice A len cap)
 | hp {b ver s i j:Nat} {ad:Addr} (hb:bn b ver) (h:∀ x,hd b ver=QZ x->x.s=s/\ad=⟨x.g,x.o+i*s+j,Q0⟩):VRel w fz bn hd (.hp b ver s i j) (.pointer<|QZ ad)
 | mp {b s g:Nat} (hb:bn b 0) (h:∀ x,hd b 0=QZ x->x.s=s+1/\x.g=g):VRel w fz bn hd (.mp b s) (.map<|QZ g)
 | top {u:Value}:VRel w fz bn hd .top u
theorem VRel.mono {w w':World} {fz fz':Nat->Prop} {bn bn':Nat->Nat->Prop} {hd hd':Nat->Nat->Option HI} {a:AV} {v:Value} (h:VRel w fz bn hd a v) (hs:w.heap.size<=w'.heap.size)
  (hf:∀ g,fz g->g<w.heap.size->w'.heap[g]? = w.heap[g]? /\ fz' g) (hN:∀ b ver,bn b ver->bn' b ver) (hh:∀ b ver x,bn b ver->hd' b ver=QZ x->hd b ver=QZ x):VRel w' fz' bn' hd' a v:=by
 induction h with
 | fr h=>exact .fr (h.mono hs hf)
 | agg hl h1 _ ih=>exact .agg hl h1 ih
 | tup hl _ ih=>exact .tup hl ih
 | ifc _ ih=>exact .ifc ih
 | fn hl _ ih=>exact .fn hl ih
 | hs hb hc hm h0 h=>exact .hs (hN _ _ hb) hc hm h0 λx hx=>h x (hh _ _ _ hb hx)
 | hp hb h=>exact .hp (hN _ _ hb) λx hx=>h x (hh _ _ _ hb hx)
 | mp hb h=>exact .mp (hN _ _ hb) λx hx=>h x (hh _ _ _ hb hx)
 | top=>exact .top
structure Cx where
 w:World
 fz:Nat->Prop
 H:AH
 φ:Nat->Nat×Nat
def mkv:List Value->Value
 | [x]=>x
 | l => .agg l.toArray
def CF (s ty o:Nat) (cs:Array Value) (i:Nat):MapEntry:=⟨mkv<|(cs.toList.drop<|o+i*s).take ty,mkv<|(cs.toList.drop<|o+i*s+ty).take<|s-ty,i⟩
def Ml (k:ABlk) (o:Nat) (cs:Array Value):Option (Nat×Nat)->Obj
 | some fr => .cells cs k.ty fr
 | none => .map ((Q6 k.rows.length).map<|CF k.s k.ty o cs) k.rows.length
def hdo (k:ABlk) (p:Nat×Nat):Obj->Option HI
 | .cells cs _ _=>QZ ⟨p.1,p.2,k.s,k.rows.length,cs.size⟩
 | .map _ _=>QZ ⟨p.1,0,k.s+1,0,0⟩
 | _=>Q0
theorem Ex {k k':ABlk} (hs:k'.s=k.s) (hl:k'.rows.length=k.rows.length) (p:Nat×Nat) (o:Obj):hdo k' p o=hdo k p o:=by
 cases o <;> simp only [hdo,hs,hl]
theorem CU {k k':ABlk} (hs:k'.s=k.s) (ht:k'.ty=k.ty) (hl:k'.rows.length=k.rows.length) (o:Nat) (cs:Array Value) (fr:Option<|Nat×Nat):Ml k' o cs fr=Ml k o cs fr:=by
 cases fr <;> simp only [Ml,hs,ht,hl]
def Cx.live (c:Cx) (b:Nat) (k:ABlk):Prop:=c.H[b]? = QZ (QZ k)
def Cx.hd (c:Cx) (b ver:Nat):Option HI:=
 match c.H[b]? with
 | some (QZ k)=>
  if k.ver=ver then (c.w.heap[(c.φ b).1]?).bind (hdo k<|c.φ b) else Q0
 | _=>Q0
def Cx.born (c:Cx) (b ver:Nat):Prop:=
 match c.H[b]? with
 | some (QZ k)=>ver<=k.ver
 | _=>False
def Cx.rel (c:Cx) (a:AV) (v:Value):Prop:=VRel c.w c.fz c.born c.hd a v
structure BRel (c:Cx) (b:Nat) (k:ABlk) (cs:Array Value) (fr:Option (Nat×Nat)):Prop where
 at_:c.w.heap[(c.φ b).1]? = QZ (Ml k (c.φ b).2 cs fr)
 nf : ¬ c.fz (c.φ b).1
 pos:0<k.s
 free:∀ f,fr=QZ f->∀ i,i+1<cs.size+min k.s 2 -> ¬ (f.1<=i/\i<f.2)
 fits:(c.φ b).2+k.rows.length*k.s<=cs.size
 len:∀ (i:Nat) (row:List AV),k.rows[i]? = QZ row->row.length=k.s
 rel:∀ (i:Nat) (row:List AV) (j:Nat) (a:AV),k.rows[i]? = QZ row->row[j]? = QZ a->∃ u,cs[(c.φ b).2+i*k.s+j]? = QZ u/\u.oneCell'=QX/\c.rel a u
theorem BRel.fre {c:Cx} {b:Nat} {k:ABlk} {cs:Array Value} {fr:Option (Nat×Nat)} (h:BRel c b k cs fr) (f:Nat×Nat) (hf:fr=QZ f) (i:Nat) (hi:i<cs.size) : ¬ (f.1<=i/\i<f.2):=h.free f hf i (by have := h.pos;omega)
def P5:List (Nat×List AV):=[(2,[.v (.string (⟨#[112,111]⟩:BA)),.v (.string (⟨#[108,111,99]⟩:BA)),.v (.string (⟨#[101,120,116]⟩:BA)),.v (.string (⟨#[114,102]⟩:BA)),.v (.string (⟨#[99,111]⟩:BA)),.v (.string (⟨#[102,114]⟩:BA)),.v (.string (⟨#[102,101,110,99,101]⟩:BA)),.v (.string (⟨#[119,114]⟩:BA)),.v (.string (⟨#[119,119]⟩:BA)),.v (.string (⟨#[105,100]⟩:BA))])]
def Gl (w:World) (fz:Nat->Prop):Prop:=∀ x∈P5,FRel w fz (.fp x.2 0)<|.pointer<|QZ ⟨x.1,0,Q0⟩
theorem Gl.mono {w w':World} {fz fz':Nat->Prop} (h:Gl w fz) (hs:w.heap.size<=w'.heap.size) (hf:∀ g,fz g->g<w.heap.size->w'.heap[g]? = w.heap[g]? /\ fz' g):Gl w' fz':=
 λx hx=>(h x hx).mono hs hf
def Ps (g:Nat):AV:=match P5.find? (λx=>Nat.beq x.1 g) with
 | some x => .fp x.2 0
 | none => .top
structure HRel (c:Cx):Prop where
 lt:∀ g,c.fz g->g<c.w.heap.size
 blk:∀ b k,c.live b k->∃ cs fr,BRel c b k cs fr
 inj:∀ b b' k k',c.live b k->c.live b' k'->b≠b'->(c.φ b).1≠(c.φ b').1
 gl:Gl c.w c.fz
structure Ext (c c':Cx):Prop where
 os:c'.w.os=c.w.os
 tape:c'.w.tape=c.w.tape
 output:c'.w.output=c.w.output
 size:c.w.heap.size<=c'.w.heap.size
 keep:∀ g,g<c.w.heap.size->(∀ b k,c.live b k->(c.φ b).1≠g)->c'.w.heap[g]? = c.w.heap[g]?
 fz:∀ g,c.fz g->c'.fz g
 wN:∀ g,c'.fz g->c.fz g\/c.w.heap.size<=g\/∃ b k,c.live b k/\(c.φ b).1=g
 N:c.H.length<=c'.H.length
 born:∀ b ver,c.born b ver->c'.born b ver
 hd:∀ b ver x,c.born b ver->c'.hd b ver=QZ x->c.hd b ver=QZ x
 iG:∀ b k,c'.live b k->c.w.heap.size<=(c'.φ b).1\/∃ b0 k0,c.live b0 k0/\(c.φ b0).1=(c'.φ b).1
theorem HRel.not_fz {c:Cx} (h:HRel c) {b:Nat} {k:ABlk} (hl:c.live b k) : ¬ c.fz (c.φ b).1:=by
 obtain ⟨_,_,hb⟩:=h.blk b k hl;exact hb.nf
theorem HRel.live_lt {c:Cx} (h:HRel c) {b:Nat} {k:ABlk} (hl:c.live b k):(c.φ b).1<c.w.heap.size:=by
 obtain ⟨cs,fr,hb⟩:=h.blk b k hl;rcases Rs (c.φ b).1 c.w.heap.size with hlt | hge
 ·omega
 have := hb.at_
 simp_all
theorem Ext.refl (c:Cx):Ext c c:=⟨rfl,rfl,rfl,Q7 _,λ_ _ _=>rfl,λ_ h=>h,λ_ h => .inl h,Q7 _,λ_ _ h=>h,λ_ _ _ _ h=>h,λb k h => .inr ⟨b,k,h,rfl⟩⟩
theorem Ext.trans {a b c:Cx} (h:Ext a b) (k:Ext b c):Ext a c where
 os:=k.os.trans h.os
 tape:=k.tape.trans h.tape
 output:=k.output.trans h.output
 size:=Rm h.size k.size
 keep:=λg hg hn=>by
  rw [k.keep g (Nat.lt_of_lt_of_le hg h.size) (λb' k' hl he=>?_),h.keep g hg hn];rcases h.iG b' k' hl with h1 | ⟨b0,k0,h1,h2⟩
  ·omega
  grind
 fz:=λg hg=>k.fz g<|h.fz g hg
 wN:=λg hg=>by
  rcases k.wN g hg with h1 | h1 | ⟨b',k',h1,h2⟩
  ·exact h.wN g h1
  ·exact .inr<|.inl<|Rm h.size h1
  rcases h.iG b' k' h1 with h3 | ⟨b0,k0,h3,h4⟩
  ·exact .inr<|.inl (by omega)
  grind
 N:=Rm h.N k.N
 born:=λb' ver hb=>k.born _ _<|h.born _ _ hb
 hd:=λb' ver x hb hx=>h.hd b' ver x hb<|k.hd b' ver x (h.born _ _ hb) hx
 iG:=λb' k' hl=>by
  rcases k.iG b' k' hl with h1 | ⟨b0,k0,h1,h2⟩
  ·exact .inl<|Rm h.size h1
  rcases h.iG b0 k0 h1 with h3 | ⟨b1,k1,h3,h4⟩
  ·exact .inl (by omega)
  grind
theorem Cx.rel.ext {c c':Cx} {a:AV} {v:Value} (h:c.rel a v) (hr:HRel c) (e:Ext c c'):c'.rel a v:=
 VRel.mono h e.size (λg hg hlt=>⟨e.keep g hlt λ_ _ hl he=>hr.not_fz hl<|he ▸ hg,e.fz g hg⟩) e.born e.hd
theorem HRel.glx {c c':Cx} (hr:HRel c) (e:Ext c c'):Gl c'.w c'.fz:=hr.gl.mono e.size λg hg hlt=>⟨e.keep g hlt λ_ _ hl he=>hr.not_fz hl<|he ▸ hg,e.fz g hg⟩
theorem HRel.gl_rel {c:Cx} (hr:HRel c) (g:Nat):c.rel (Ps g) (.pointer<|QZ ⟨g,0,Q0⟩):=by
 unfold Ps
 split
 ·rename_i x hx;have h1:=List.mem_of_find?_eq_some hx;have h2:x.1=g:=Nat.eq_of_beq_eq_true<|List.find?_some (p:=λx:Nat×List AV=>Nat.beq x.1 g) hx;subst h2;exact .fr<|hr.gl x h1
 exact .top
abbrev Env:=Nat->AV
def sI (e:Env) (d:Option Tmp) (r:AV):Env:=match d with
 | some d=>λt=>bif Nat.beq t d then r else e t
 | none=>e
theorem xK (e:Env) (d:Tmp) (r:AV):sI e (QZ d) r=λt=>if t=d then r else e t:=by
 funext t
 show (bif Nat.beq t d then r else e t)=_
 simp_all
structure SRel (c:Cx) (nt:Nat) (e:Env) (a:Act):Prop where
 size:a.tmps.size=nt
 defers:a.defers=[]
 rel:∀ t,c.rel (e t) (a.tmps.getD t undef)
 heap:HRel c
theorem SRel.put {c c':Cx} {nt:Nat} {e:Env} {a:Act} (h:SRel c nt e a) (d:Option Tmp) {r:AV} {v:Value} (hd:∀ t,d=QZ t->t<nt) (hx:Ext c c') (hr:HRel c') (hv:c'.rel r v) :
  SRel c' nt (sI e d r) (a.put d v):=by
 cases d with
 | none=>exact ⟨h.size,h.defers,λt=>(h.rel t).ext h.heap hx,hr⟩
 | some d=>
  have hlt:=hd d rfl;refine ⟨by simpa [Act.put] using h.size,h.defers,λt=>?_,hr⟩;simp only [xK,Act.put]
  by_cases e:t=d
  ·subst e;rw [if_pos rfl];have : (a.tmps.setIfInBounds t v).getD t undef=v:=by simp [h.size,hlt]
   grind
  rw [if_neg e];have : (a.tmps.setIfInBounds d v).getD t undef=a.tmps.getD t undef:=by
   simp [Array.getElem?_setIfInBounds_ne (Ne.symm e)]
  rw [this];exact (h.rel t).ext h.heap hx
def CV (e e0:Env):Prop:=∀ t,e0 t = .top\/e0 t=e t
theorem SRel.weak {c:Cx} {nt:Nat} {e e0:Env} {a:Act} (h:SRel c nt e a) (hw:CV e e0):SRel c nt e0 a:=
 ⟨h.size,h.defers,λt=>by
  rcases hw t with h1 | h1
  ·rw [h1];exact .top
  rw [h1];exact h.rel t,h.heap⟩
def Br (b:Bool) (X Y:Prop):Prop:=match b with
 | true=>X
 | false=>Y
theorem Br.intro {b:Bool} {X Y:Prop} (h1:b=QX->X) (h2:b=QY->Y):Br b X Y:=by
 cases b
 ·exact h2 rfl
 exact h1 rfl
theorem Br.absT {b:Bool} {G:Prop} (h:b=QX) (k:b=QY):G:=by simp_all
theorem Br.elim {b:Bool} {X Y:Prop} (h:Br b X Y):(b=QX/\X)\/(b=QY/\Y):=by
 cases b
 ·exact .inr ⟨rfl,h⟩
 exact .inl ⟨rfl,h⟩
def Ck (b:Bool) (X:Prop):Prop:=Br b X False
theorem Ck.elim {b:Bool} {X:Prop} (h:Ck b X):b=QX/\X:=by
 cases b
 ·exact h.elim
 exact ⟨rfl,h⟩
theorem Ck.intro {b:Bool} {X:Prop} (hb:b=QX) (h:X):Ck b X:=by
 subst hb;exact h
attribute [irreducible] Ck
def AV.force (x:AV) (K:AV->Prop):Prop:=match x with
 | .v a=>K (.v a)
 | .agg cs=>K (.agg cs)
 | .tup xs=>K (.tup xs)
 | .nil=>K .nil
 | .sl n row=>K (.sl n row)
 | .fp row j=>K (.fp row j)
 | .hs b q s o l=>K (.hs b q s o l)
 | .hp b q s i j=>K (.hp b q s i j)
 | .mp b s=>K (.mp b s)
 | .ifc t x=>K (.ifc t x)
 | .fn f cs=>K (.fn f cs)
 | .top=>K .top
theorem AV.force_iff {x:AV} {K:AV->Prop}:x.force K↔K x:=by cases x <;> rfl
def oQ (cs:Array Value):Bool:=cs.toList.all (·.oneCell')
theorem Bv (cs:Array Value):oQ cs=cs.all (·.oneCell'):=Array.all_toList ..
def of1:Value->AV
 | .slice Q0 0 0 => .nil
 | x=>if plain x then .v x else .top
def FA:Value->AV
 | .slice Q0 0 0 => .nil
 | .agg cs=>if oQ cs then .agg (cs.toList.map of1) else .top
 | x=>if plain x then .v x else .top
def rho (e:Env):Operand->AV
 | .tmp t=>e t
 | .const v=>FA v
 | .global g=>Ps g
 | .func f => .fn (.func f) []
def AV.cells:AV->Option (List AV)
 | .agg cs=>QZ cs
 | .tup _ | .top=>Q0
 | x=>QZ [x]
def dW (z:Value):List AV:=z.cells.toList.map of1
def splice (row:List AV) (j:Nat) (cs:List AV):List AV:=row.take j++cs++row.drop (j+cs.length)
def xL (P:Program) (t:TypeId):Bool:=match P.underlying t with
 | some (.struct _) | some (.array _ _)=>QX
 | _=>QY
def IA (l:List AV):(List AV->Prop)->Prop:=
 List.rec (motive:=λ_=>(List AV->Prop)->Prop) (λK=>K []) (λa _ ih K=>ih λl=>K (a::l)) l
theorem sJ:∀ {l:List AV} {K:List AV->Prop},IA l K↔K l
 | [],_=>Iff.rfl
 | a::l,K=>sJ (l:=l) (K:=λl=>K (a::l))
def apart (P:Program) (t:TypeId) (row:List AV) (j:Nat) (K:AV->Prop):Prop:=
 match xL P t with
 | true=>Ck (Q3<|j+P.cellsOf t<=row.length) (IA ((row.drop j).take<|P.cellsOf t) λcs=>K<|.agg cs)
 | false=>match row.drop j with
  | a::_=>(match P.underlying t with
   | some _=>a.force K
   | none=>False)
  | []=>False
def w9 (P:Program) (t:TypeId):Bool:=match P.underlying t with
 | some .bool=>QX
 | _=>QY
def p7 (P:Program) (op:BinOp) (t:TypeId) (x y:AV) (K:AV->Prop):Prop:=
 match x,y with
 | .v (.int k a),.v (.int k' b)=>(match op with
  | .add=>Ck (Q3<|k=k') (k.wrap (a+b)=a+b/\K (.v<|.int k<|a+b))
  | .sub=>Ck (Q3<|k=k') (k.wrap (a-b)=a-b/\K (.v<|.int k<|a-b))
  | .mul=>Ck (Q3<|k=k') (k.wrap (a*b)=a*b/\K (.v<|.int k<|a*b))
  | .quo=>Ck (Q3<|k=k') (b≠0/\k.wrap (a.tdiv b)=a.tdiv b/\K (.v<|.int k<|a.tdiv b))
  | .rem=>Ck (Q3<|k=k') (b≠0/\K (.v<|.int k<|a.tmod b))
  | .and=>Ck (Q3<|k=k') (K<|.v<|.int k<|k.wrap ((Q8 k.bits a&&&Q8 k.bits b).toNat:Int))
  | .or=>Ck (Q3<|k=k') (K<|.v<|.int k<|k.wrap ((Q8 k.bits a|||Q8 k.bits b).toNat:Int))
  | .xor=>Ck (Q3<|k=k') (K<|.v<|.int k<|k.wrap ((Q8 k.bits a ^^^ Q8 k.bits b).toNat:Int))
  | .andNot=>Ck (Q3<|k=k') (K<|.v<|.int k<|k.wrap ((Q8 k.bits a &&& ~~~Q8 k.bits b).toNat:Int))
  | .shl=>0<=b/\K (.v<|.int k<|k.wrap<|a*2 ^ (min b.toNat k.bits))
  | .shr=>0<=b/\K (.v<|.int k<|a.fdiv<|2 ^ (min b.toNat k.bits))
  | .eql=>Ck (Q3<|k=k') (K<|.v<|.bool<|a==b)
  | .neq=>Ck (Q3<|k=k') (K<|.v<|.bool<|a != b)
  | .lss=>Ck (Q3<|k=k') (K<|.v<|.bool<|Q3<|a<b)
  | .leq=>Ck (Q3<|k=k') (K<|.v<|.bool<|Q3<|a<=b)
  | .gtr=>Ck (Q3<|k=k') (K<|.v<|.bool<|Q3<|a>b)
  | .geq=>Ck (Q3 (k=k')) (K (.v (.bool (Q3 (a>=b))))))
 | .v (.string a),.v (.string b)=>(match op with
  | .add=>a.size+b.size<=9223372036854775807/\K (.v<|.string<|a++b)
  | .eql=>K (.v<|.bool<|Q3<|a=b)
  | .neq=>K (.v<|.bool<|!decide (a=b))
  | _=>False)
 | .v (.bool a),.v (.bool b)=>(match op with
  | .eql=>Ck (w9 P t) (K<|.v<|.bool<|a==b)
  | .neq=>Ck (w9 P t) (K<|.v<|.bool<|!(a==b))
  | _=>False)
 | .nil,.nil=>(match op,P.underlying t with
  | .eql,QZ (.slice _)=>K (.v<|.bool QX)
  | .neq,QZ (.slice _)=>K (.v<|.bool QY)
  | _,_=>False)
 | .sl n _,.nil=>(match op,P.underlying t with
  | .eql,QZ (.slice _)=>0<n/\K (.v<|.bool QY)
  | .neq,QZ (.slice _)=>0<n/\K (.v<|.bool QX)
  | _,_=>False)
 | .hs _ _ _ _ n,.nil=>(match op,P.underlying t with
  | .eql,QZ (.slice _)=>0<n/\K (.v<|.bool QY)
  | .neq,QZ (.slice _)=>0<n/\K (.v<|.bool QX)
  | _,_=>False)
 | _,_=>False
def aun (op:UnOp) (x:AV) (K:AV->Prop):Prop:=
 match op,x with
 | .not,.v (.bool b)=>K (.v<|.bool !b)
 | .neg,.v (.int k n)=>k.wrap (0-n)=0-n/\K (.v<|.int k<|0-n)
 | _,_=>False
def Hl (P:Program) (s d:TypeId) (x:AV) (K:AV->Prop):Prop:=
 match P.underlying s,P.underlying d,x with
 | some _,QZ (.int k),.v (.int _ n)=>k.wrap n=n/\K (.v<|.int k n)
 | some _,QZ .string,.v (.string b)=>K (.v<|.string b)
 | _,_,_=>False
def fO (P:Program) (t:TypeId) (x i:AV) (K:AV->Prop):Prop:=
 match P.underlying t,x,i with
 | some (.slice e),.sl n row,.v (.int _ q)=>(0<=q/\q<n)/\Ck ((row q.toNat).length==P.cellsOf e&&(P.info? e).isSome) (K<|.fp (row q.toNat) 0)
 | some (.slice e),.hs b ver s off len,.v (.int _ q)=>(0<=q/\q<len)/\Ck (s==P.cellsOf e&&(P.info? e).isSome) (K<|.hp b ver s (off+q.toNat) 0)
 | some (.array n e),.fp row j,.v (.int _ q)=>(0<=q/\q<n)/\Ck (P.info? e).isSome (K<|.fp row<|j+q.toNat*P.cellsOf e)
 | some (.array n e),.hp b ver s i j,.v (.int _ q)=>(0<=q/\q<n)/\Ck (P.info? e).isSome (K<|.hp b ver s i<|j+q.toNat*P.cellsOf e)
 | _,_,_=>False
def Ey (P:Program) (t:TypeId) (x i:AV) (K:AV->Prop):Prop:=
 match P.underlying t,x,i with
 | some (.array n e),.agg cs,.v (.int _ q)=>(0<=q/\q<n)/\Ck (P.info? e).isSome (apart P e cs (q.toNat*P.cellsOf e) K)
 | some .string,.v (.string s),.v (.int _ q)=>(0<=q/\q<s.size)/\K (.v<|.int .u8 ((s.data.getD q.toNat 0).toNat:Int))
 | _,_,_=>False
def bound (x:Option AV) (d:Int) (K:Int->Prop):Prop:=match x with
 | none=>K d
 | some (.v<|.int _ n)=>K n
 | _=>False
def wO (P:Program) (t:TypeId) (x:AV) (lo hi mx:Option AV) (K:AV->Prop):Prop:=
 match mx,P.underlying t,x with
 | none,QZ .string,.v (.string s)=>bound lo 0 λl=>bound hi s.size λh=>(0<=l/\l<=h/\h<=s.size)/\K (.v<|.string<|s.extract l.toNat h.toNat)
 | none,QZ (.slice e),.sl n row=>bound lo 0 λl=>bound hi n λh=>(0<=l/\l<=h/\h<=n/\(∀ i,i<n->(row i).length=P.cellsOf e)/\(P.info? e).isSome=QX)/\K (.sl (h.toNat-l.toNat) λi=>row<|i+l.toNat)
 | none,QZ (.slice e),.hs b ver s off len=>bound lo 0 λl=>bound hi len λh=>(0<=l/\l<=h/\h<=len/\s=P.cellsOf e/\(P.info? e).isSome=QX)/\K (.hs b ver s (off+l.toNat)<|h.toNat-l.toNat)
 | none,QZ (.array n e),.fp row j=>bound lo 0 λl=>bound hi n λh=>(0<=l/\l<=h/\h<=n/\j+n*P.cellsOf e<=row.length/\(P.info? e).isSome=QX/\n<=9223372036854775807) /\
   K (.sl (h.toNat-l.toNat) λi=>(row.drop<|j+(i+l.toNat)*P.cellsOf e).take<|P.cellsOf e)
 | _,_,_=>False
def Bw (place:Nat->Option (Nat×Nat)):List AV->List (Nat×AV)->Option (List AV)
 | cells,[]=>QZ cells
 | cells,(i,x)::rest=>match place i,x.cells with
  | some (off,size),QZ cs=>if cs.length=size/\off+size<=cells.length then Bw place (splice cells off cs) rest else Q0
  | _,_=>Q0
def Ez (P:Program) (t:TypeId) (parts:List<|Nat×AV) (K:AV->Prop):Prop:=
 match P.info? t,P.underlying t with
 | some i,QZ (.struct fs)=>(match i.zero,fs.toList.mapM (λf=>(P.info? f.type).map λi=>(f.offset,i.size)) with
  | some z,QZ places=>(match Bw (places.toArray[·]?) (dW z) parts with
   | some cs=>Ck (oQ z.cells) (K<|.agg cs)
   | none=>False)
  | _,_=>False)
 | some i,QZ (.array _ e)=>(match i.zero,P.info? e with
  | some z,QZ ie=>(match Bw (λq=>QZ (q*ie.size,ie.size)) (dW z) parts with
   | some cs=>Ck (oQ z.cells) (K<|.agg cs)
   | none=>False)
  | _,_=>False)
 | _,_=>False
def sK (P:Program) (ρ:Operand->AV) (f:Callee) (args:List Operand) (ts:List TypeId) (K:AV->Prop):Prop:=
 match f,args,ts with
 | .builtin .len,[x],[t]=>(match P.underlying t,ρ x with
  | some (.slice _),.sl n _=>K (.v<|.int .i64 n)
  | some (.slice _),.hs _ _ _ _ n=>K (.v<|.int .i64 n)
  | some (.slice _),.nil=>K (.v<|.int .i64 0)
  | some .string,.v (.string s)=>K (.v<|.int .i64 s.size)
  | some (.array n _),_=>K (.v<|.int .i64 n)
  | _,_=>False)
 | .builtin .min,[x,y],_=>(match ρ x,ρ y with
  | .v (.int k a),.v (.int _ b)=>K (.v<|.int k<|if b<a then b else a)
  | _,_=>False)
 | .builtin .max,[x,y],_=>(match ρ x,ρ y with
  | .v (.int k a),.v (.int _ b)=>K (.v<|.int k<|if b>a then b else a)
  | _,_=>False)
 | _,_,_=>False
def xI (P:Program) (ρ:Operand->AV) (op:Op) (K:AV->Prop):Prop:=
 match op with
 | .move x | .assign x=>(ρ x).force K
 | .pick c x y=>(match ρ c with
  | .v (.bool b)=>Br b ((ρ x).force K) ((ρ y).force K)
  | _=>False)
 | .nilCheck x=>(match ρ x with
  | .fp row j=>K (.fp row j)
  | .hp b q s i j=>K (.hp b q s i j)
  | _=>False)
 | .load t x=>(match ρ x with
  | .fp row j=>apart P t row j K
  | _=>False)
 | .binOp op t x y _=>p7 P op t (ρ x) (ρ y) K
 | .unOp op _ x=>aun op (ρ x) K
 | .convert s d x=>Hl P s d (ρ x) K
 | .makeInterface t x=>(match P.underlying t with
  | some (.interface _) | none=>False
  | _=>(ρ x).force λx=>K (.ifc t x))
 | .makeFunc f first p6=>Ck (first.size==0) (K<|.fn f<|p6.toList.map ρ)
 | .fieldAddr s x f=>(match P.underlying s with
  | some (.struct fs)=>(match fs[f]?,ρ x with
   | some fl,.fp row j=>Ck (P.cellsOf fl.type != 0) (K<|.fp row<|j+fl.offset)
   | some fl,.hp b v s i j=>Ck (P.cellsOf fl.type != 0) (K<|.hp b v s i<|j+fl.offset)
   | _,_=>False)
  | _=>False)
 | .field t x f=>(match P.underlying t with
  | some (.struct fs)=>(match fs[f]?,ρ x with
   | some fl,.agg cs=>apart P fl.type cs fl.offset K
   | _,_=>False)
  | _=>False)
 | .indexAddr t x i=>fO P t (ρ x) (ρ i) K
 | .index t x i=>Ey P t (ρ x) (ρ i) K
 | .slice t x lo hi mx=>wO P t (ρ x) (lo.map ρ) (hi.map ρ) (mx.map ρ) K
 | .extract x i=>(match ρ x with
  | .tup xs=>Ck (Q3<|i<xs.length) ((xs.getD i .top).force K)
  | _=>False)
 | .build t parts=>Ez P t (parts.toList.map λp=>(p.1,ρ p.2)) K
 | .call c=>sK P ρ c.callee c.args.toList c.argTypes.toList K
 | _=>False
def kQ:List (Option<|List AV)->Option (List<|List AV)
 | []=>QZ []
 | none::_=>Q0
 | some c::r=>match kQ r with
  | some cs=>QZ (c::cs)
  | none=>Q0
def NT (H:AH) (P:Program) (t:TypeId) (size:Nat) (x:AV) (K:List (List AV)->Prop):Prop:=
 match x with
 | .nil=>K []
 | .sl n row=>(∀ i,i<n->(row i).length=size)/\K ((Q9 n).map row)
 | .hs b ver s off len=>(match H[b]? with
  | some (QZ k)=>(k.ver=ver/\k.s=s/\s=size/\off+len<=k.rows.length)/\K ((k.rows.drop off).take len)
  | _=>False)
 | .v (.string s)=>(P.underlying t=QZ .string/\size=1)/\K (s.data.toList.map λb=>[.v (.int .u8 (b.toNat:Int))])
 | _=>False
def Hm (P:Program) (u:TypeId):Bool:=match P.underlying u with
 | some (.slice _) | some .string=>QX
 | _=>QY
def IB (P:Program) (ρ:Operand->AV) (f:Callee) (args:List Operand) (ts:List TypeId) (H:AH) (K:AV->AH->Prop):Prop:=
 match f,args,ts with
 | .builtin .append,[x,y],[t,u]=>(match P.underlying t,Hm P u with
  | some (.slice e),QX=>NT H P u (P.cellsOf e) (ρ y) λnews=>(match ρ x with
   | .hs b ver s off len=>(match H[b]? with
    | some (QZ k)=>(k.ver=ver/\k.s=s/\off+len<=k.rows.length/\(len+news.length)*P.bytesOf e<=35184372088832/\len+news.length<=35184372088832) /\
      Ck (s==P.cellsOf e&&k.ty==e&&((((P.info? e).bind (·.zero)).map λz=>z.cells.size)==QZ (P.cellsOf e)))
      (K (.hs b (ver+1) s 0<|len+news.length)<|H.set b<|QZ ⟨ver+1,s,k.ty,(k.rows.drop off).take len++news⟩)
    | _=>False)
   | .nil=>(news.length*P.bytesOf e<=35184372088832/\news.length<=35184372088832)/\Ck (Q3 (0<P.cellsOf e)&&((((P.info? e).bind (·.zero)).map λz=>z.cells.size)==QZ (P.cellsOf e)))
     (Br (Q3<|news.length=0) (K .nil H)<|K (.hs H.length 0 (P.cellsOf e) 0 news.length)<|H++[QZ ⟨0,P.cellsOf e,e,news⟩])
   | _=>False)
  | _,_=>False)
 | f,args,ts=>sK P ρ f args ts λr=>K r H
def Fx (P:Program) (ρ:Operand->AV) (op:Op) (H:AH) (K:AV->AH->Prop):Prop:=
 match op with
 | .alloc t=>(match P.info? t with
  | some i=>(match i.zero with
   | some z=>Ck (Q3 (0<(dW z).length)&&oQ z.cells) (K (.hp H.length 0 (dW z).length 0 0)<|H++[QZ ⟨0,(dW z).length,t,[dW z]⟩])
   | none=>False)
  | none=>False)
 | .box t x=>(match (ρ x).cells with
  | some cs=>Ck (Q3<|0<cs.length) (K (.hp H.length 0 cs.length 0 0)<|H++[QZ ⟨0,cs.length,t,[cs]⟩])
  | none=>False)
 | .buildSlice t n parts=>(match P.underlying t with
  | some (.slice e)=>(match kQ (parts.toList.map λp=>(ρ p.2).cells) with
   | some rows=>Ck (Q3 (0<P.cellsOf e)&&Q3 (n*P.cellsOf e<=16777216)&&(parts.toList.map (·.1)==Q9 n)&&((((P.info? e).bind (·.zero)).map λz=>z.cells.size)==QZ (P.cellsOf e)) &&
     ((((P.info? e).bind (·.zero)).map λz=>oQ z.cells)==QZ QX)&&rows.all (λrow=>row.length==P.cellsOf e))
     (K (.hs H.length 0 (P.cellsOf e) 0 n)<|H++[QZ ⟨0,P.cellsOf e,e,rows⟩])
   | none=>False)
  | _=>False)
 | .makeSlice t l c=>(match P.underlying t,ρ l,ρ c with
  | some (.slice e),.v (.int .i64 l),.v (.int .i64 c)=>(match (P.info? e).bind (·.zero) with
   | some z=>(0<=l/\l<=c/\c*(P.bytesOf e:Int)<=140737488355328/\c<=140737488355328)/\Ck (Q3 (0<P.cellsOf e)&&((dW z).length==P.cellsOf e)&&oQ z.cells)
     (K (.hs H.length 0 (P.cellsOf e) 0 l.toNat)<|H++[QZ ⟨0,P.cellsOf e,e,Rb c.toNat<|dW z⟩])
   | none=>False)
  | _,_,_=>False)
 | .load t x=>(match ρ x with
  | .hp b ver s i j=>(match H[b]? with
   | some (QZ k)=>(k.ver=ver/\k.s=s/\i<k.rows.length)/\apart P t (k.rows.getD i []) j λr=>K r H
   | _=>False)
  | _=>xI P ρ (.load t x) λr=>K r H)
 | .store t x y=>(match ρ x,(ρ y).cells with
  | .hp b ver s i j,QZ cs=>(match H[b]? with
   | some (QZ k)=>(k.ver=ver/\k.s=s/\i<k.rows.length/\j+cs.length<=s)/\Ck (cs.length==P.cellsOf t&&(P.info? t).isSome) (IA (splice (k.rows.getD i []) j cs) λrow=>K .top<|H.set b<|QZ { k with rows:=k.rows.set i row })
   | _=>False)
  | _,_=>False)
 | .call c=>IB P ρ c.callee c.args.toList c.argTypes.toList H K
 | _=>xI P ρ op λr=>K r H
def QC (P:Program) (o:Oper) (ρ:Operand->AV) (H:AH) (r:AV) (H':AH):Prop:=
 ∀ (c:Cx) (a:Act) (K:Act->World->Prop) (Q:Exit->Act->World->Prop),c.H=H->HRel c->(∀ x∈o.op.operands,c.rel (ρ x)<|a.eval x) ->
  (∀ v c',c'.H=H'->HRel c'->Ext c c'->c'.rel r v->K (a.put o.dst v) c'.w)->o.wp P a c.w K Q
def xP (P:Program) (o:Oper) (ρ:Operand->AV) (r:AV):Prop:=
 ∀ (c:Cx) (a:Act),HRel c->(∀ x∈o.op.operands,c.rel (ρ x)<|a.eval x)->∃ v,(execOp a.eval o).run P c.w = .ok (.value v) c.w/\c.rel r v
theorem xP.op {P:Program} {o:Oper} {ρ:Operand->AV} {r:AV} (h:xP P o ρ r) (H:AH):QC P o ρ H r H:=by
 intro c a K Q hH hr hx hK;obtain ⟨v,h1,h2⟩:=h c a hr hx;unfold Oper.wp;rw [h1];exact hK v c hH hr (Ext.refl c) h2
section
variable {c:Cx} {u:Value}
theorem iR {x:Value} (h:c.rel (.v x) u):u=x/\plain x=QX:=by
 cases h with
 | fr h=>cases h with
  | v h=>simp_all
theorem cO {x:Value} (h:plain x=QX):c.rel (.v x) x := .fr<|.v h
theorem eX (h:c.rel .nil u):u = .slice Q0 0 0:=by
 cases h with
 | fr h=>cases h;rfl
theorem tK {cs:List AV} (h:c.rel (.agg cs) u):∃ vs,u = .agg vs/\vs.size=cs.length/\(∀ (i:Nat) (u:Value),vs[i]? = QZ u->u.oneCell'=QX) /\
  ∀ (i:Nat) (a:AV) (u:Value),cs[i]? = QZ a->vs[i]? = QZ u->c.rel a u:=by
 cases h with
 | fr h=>cases h with
  | agg hl h1 h=>exact ⟨_,rfl,hl,h1,λi a u h2 h3 => .fr<|h i a u h2 h3⟩
 | agg hl h1 h=>exact ⟨_,rfl,hl,h1,h⟩
theorem yO {cs:List AV} (h:c.rel (.tup cs) u):∃ vs,u = .tuple vs/\vs.size=cs.length /\
  ∀ (i:Nat) (a:AV) (u:Value),cs[i]? = QZ a->vs[i]? = QZ u->c.rel a u:=by
 cases h with
 | fr h=>cases h with
  | tup hl h=>exact ⟨_,rfl,hl,λi a u h2 h3 => .fr<|h i a u h2 h3⟩
 | tup hl h=>exact ⟨_,rfl,hl,h⟩
theorem Bx {f:Fn} {cs:List AV} (h:c.rel (.fn f cs) u):∃ vs,u = .func f #[] vs/\vs.size=cs.length /\
  ∀ (i:Nat) (a:AV) (u:Value),cs[i]? = QZ a->vs[i]? = QZ u->c.rel a u:=by
 cases h with
 | fr h=>cases h with
  | fn hl h=>exact ⟨_,rfl,hl,λi a u h2 h3 => .fr<|h i a u h2 h3⟩
 | fn hl h=>exact ⟨_,rfl,hl,h⟩
theorem yP {t:TypeId} {x:AV} (h:c.rel (.ifc t x) u):∃ y,u = .iface t y/\c.rel x y:=by
 cases h with
 | fr h=>cases h with
  | ifc h=>exact ⟨_,rfl,.fr h⟩
 | ifc h=>exact ⟨_,rfl,h⟩
theorem uB {n:Nat} {row:Nat->List AV} (h:c.rel (.sl n row) u):FRel c.w c.fz (.sl n row) u:=by
 cases h with
 | fr h=>exact h
theorem uC {row:List AV} {j:Nat} (h:c.rel (.fp row j) u):FRel c.w c.fz (.fp row j) u:=by
 cases h with
 | fr h=>exact h
theorem Bz {row:List AV} {j:Nat} (h:c.rel (.fp row j) u):∃ ad,u = .pointer (QZ ad):=by
 cases uC h;simp_all
theorem BB {b q s i j:Nat} (h:c.rel (.hp b q s i j) u):∃ ad,u = .pointer (QZ ad):=by
 cases h with
 | fr h=>cases h
 | hp hb h=>simp_all
theorem LG {b s:Nat} (h:c.rel (.mp b s) u):∃ g,u = .map (QZ g)/\c.born b 0/\∀ x,c.hd b 0=QZ x->x.s=s+1/\x.g=g:=by
 cases h with
 | fr h=>cases h
 | mp hb h=>simp_all
theorem tO {n:Nat} {row:Nat->List AV} (h:c.rel (.sl n row) u):∃ A cap,u = .slice A n cap/\n<=cap/\cap<=9223372036854775807/\(0<n->∃ ad,A=QZ ad):=by
 cases uB h with
 | sl us hc hm ha hs hu h1 h=>grind
theorem p8 {b q s off n:Nat} (h:c.rel (.hs b q s off n) u):∃ A cap,u = .slice A n cap/\n<=cap/\cap<=9223372036854775807/\(0<n->∃ ad,A=QZ ad):=by
 cases h with
 | fr h=>cases h
 | hs hb hc hm h0 h=>grind
end
theorem Mm (c:Cx) (x:Value):c.rel (of1 x) x:=by
 unfold of1
 split
 ·exact .fr .nil
 split
 ·rename_i h;exact .fr<|.v h
 exact .top
theorem BC (c:Cx) (cs:Array Value) (i:Nat) (a:AV) (u:Value) (h:(cs.toList.map of1)[i]? = some a) (hu:cs[i]? = some u):c.rel a u:=by
 rw [List.getElem?_map,Array.getElem?_toList,hu] at h;simp only [Option.map_some,sie] at h;exact h ▸ Mm c u
section
variable {P:Program} {o:Oper} {ρ:Operand->AV} {w:World}
theorem vg (s:Sem Value) {v:Value} (h:s.run P w = .ok v w):(do pure (Next.value<|<- s):Sem Next).run P w = .ok (.value v) w:=by
 simp [h]
theorem ay {t:TypeId} {d:TypeDesc} (h:P.underlying t=QZ d):(underlying t).run P w = .ok d w:=run_underlying h w
theorem xQ (t:TypeId) {d:TypeDesc} (h:P.underlying t=QZ d):(isAgg t).run P w = .ok (xL P t) w:=by
 unfold isAgg xL;simp only [Sem.run_bind,ay h,Result.andThen_ok,h]
 cases d <;> rfl
end
theorem FB (c:Cx) (x:Value):c.rel (FA x) x:=by
 unfold FA
 split
 ·exact .fr .nil
 ·rename_i cs
  split
  ·rename_i h;rw [Bv,Array.all_eq_true] at h;refine .agg (by simp) (λi u hu=>?_) λi a u h1 h2=>BC c cs i a u h1 h2
   grind
  exact .top
 split
 ·rename_i h;exact .fr<|.v h
 exact .top
theorem SRel.rho {c:Cx} {nt:Nat} {e:Env} {a:Act} (h:SRel c nt e a) (x:Operand):c.rel (rho e x) (a.eval x):=by
 cases x with
 | tmp t=>exact h.rel t
 | const v=>exact FB c v
 | global g=>exact h.heap.gl_rel g
 | func f=>exact .fr (.fn (by simp) λi c u hc=>by grind)
section
variable {P:Program} {o:Oper} {ρ:Operand->AV} {r:AV}
theorem xP.mk (s:(Operand->Value)->Sem Value) (he:∀ f,execOp f o=(do pure (Next.value<|<- s f):Sem Next))
  (h:∀ (c:Cx) (a:Act),HRel c->(∀ x∈o.op.operands,c.rel (ρ x)<|a.eval x)->∃ v,(s a.eval).run P c.w = .ok v c.w/\c.rel r v):xP P o ρ r:=by
 intro c a hr hx;obtain ⟨v,h1,h2⟩:=h c a hr hx
 simp_all
def BD (P:Program) (t:TypeId) (row:List AV) (j:Nat) (r:AV):Prop:=
 (xL P t=QX/\j+P.cellsOf t<=row.length/\r = .agg ((row.drop j).take<|P.cellsOf t))\/(xL P t=QY/\(P.underlying t).isSome=QX/\j<row.length/\r=row.getD j .top)
theorem xS {t:TypeId} {row:List AV} {j:Nat} {K:AV->Prop} (h:apart P t row j K):∃ r,BD P t row j r/\K r:=by
 unfold apart at h
 split at h
 ·rename_i hb;obtain ⟨h1,h2⟩:=h.elim;exact ⟨_,.inl ⟨hb,of_decide_eq_true h1,rfl⟩,sJ.1 h2⟩
 rename_i hb
 split at h
 ·rename_i a l ha
  split at h
  ·rename_i d hd;have hj:j<row.length:=by
    rcases Rs j row.length with h1 | h1
    ·exact h1
    rw [List.drop_eq_nil_of_le h1] at ha
    cases ha
   refine ⟨_,.inr ⟨hb,by rw [hd];rfl,hj,rfl⟩,?_⟩;rw [List.drop_eq_getElem_cons hj] at ha;injection ha with ha _;have e:row.getD j .top=a:=by simp [hj,ha]
   rw [e];exact AV.force_iff.1 h
  exact h.elim
 simp_all
theorem BF {t:TypeId} {d:TypeDesc} (h:P.underlying t=QZ d):∃ i,P.info? t=QZ i/\i.size=P.cellsOf t:=by
 unfold Program.underlying at h
 cases hi:P.info? t with
 | none=>simp_all
 | some i=>exact ⟨i,rfl,by simp [Program.cellsOf,hi]⟩
theorem BG {t:TypeId} (h:xL P t=QX):∃ d,P.underlying t=QZ d:=by
 unfold xL at h
 grind
def Hn (c:Cx) (g o:Nat) (row:List AV):Prop:=∀ (q:Nat) (a:AV),row[q]? = QZ a->∃ u,c.w.cell? ⟨g,o+q,Q0⟩=QZ u/\u.oneCell'=QX/\c.rel a u
def EA (c:Cx) (g o:Nat) (row:List AV) (us:List Value):Prop:=
 us.length=row.length/\(∀ (q:Nat) (u:Value),us[q]? = QZ u->c.w.cell? ⟨g,o+q,Q0⟩=QZ u/\u.oneCell'=QX)/\∀ (q:Nat) (a:AV) (u:Value),row[q]? = QZ a->us[q]? = QZ u->c.rel a u
theorem Hn.list {c:Cx} {g o:Nat} {row:List AV} (h:Hn c g o row):∃ us,EA c g o row us:=by
 refine ⟨(Q9 row.length).map (λq=>if hq:q<row.length then (h q row[q]<|geq hq).choose else undef),by simp,λq u hu=>?_,λq a u ha hu=>?_⟩
 ·have hq:q<row.length:=by
   have := (ges hu).1;simpa using this
  simp only [Re,Rz hq,Rf,sie,dif_pos hq] at hu;subst hu;exact ⟨(h q row[q]<|geq hq).choose_spec.1,(h q row[q]<|geq hq).choose_spec.2.1⟩
 grind
theorem EA.part {c:Cx} {g o:Nat} {row:List AV} {us:List Value} (h:EA c g o row us) (j n:Nat) (hn:j+n<=row.length):EA c g (o+j) ((row.drop j).take n) ((us.drop j).take n):=by
 obtain ⟨h1,h2,h3⟩:=h;refine ⟨by simp [h1],λq u hu=>?_,λq a u ha hu=>?_⟩
 ·rw [Rh] at hu
  split at hu
  ·rw [Rt] at hu;have := h2 _ _ hu;rw [show o+j+q=o+(j+q) from by omega];exact this
  cases hu
 grind
theorem EA.agg {c:Cx} {g o:Nat} {row:List AV} {us:List Value} (h:EA c g o row us):c.rel (.agg row) (.agg us.toArray):=by
 obtain ⟨h1,h2,h3⟩:=h;exact .agg (by omega) (λi u hu=>(h2 i u<|by simp_all).2) λi a u ha hu=>h3 i a u ha (by simp_all)
theorem EA.one {c:Cx} {g o:Nat} {row:List AV} {us:List Value} (h:EA c g o row us) {j:Nat} (hj:j<row.length):∃ u,us[j]? = QZ u/\c.w.cell? ⟨g,o+j,Q0⟩=QZ u/\c.rel (row.getD j .top) u:=by
 obtain ⟨h1,h2,h3⟩:=h;have hju:j<us.length:=by omega
 refine ⟨us[j],geq hju,(h2 j _<|geq hju).1,?_⟩;rw [List.getD,geq hj];exact h3 j _ _ (geq hj)<|geq hju
theorem add0 (g o q:Nat):(⟨g,o,Q0⟩:Addr).add q=⟨g,o+q,Q0⟩:=by
 unfold Addr.add
 simp_all
theorem vX {c:Cx} {g o j:Nat} {row:List AV} {t:TypeId} (hrow:Hn c g o row) (hp:BD P t row j r):∃ v,(Instr.loadAt t<|.pointer<|QZ ⟨g,o+j,Q0⟩).run P c.w = .ok v c.w/\c.rel r v:=by
 obtain ⟨us,hus⟩:=hrow.list;rcases hp with ⟨hb,hn,rfl⟩ | ⟨hb,hs,hj,rfl⟩
 ·obtain ⟨d,hd⟩:=BG hb;obtain ⟨i,hi,hsz⟩:=BF hd;have hpart:=hus.part j (P.cellsOf t) hn;refine ⟨_,?_,hpart.agg⟩;have hl:((us.drop j).take<|P.cellsOf t).length=P.cellsOf t:=by have := hus.1;simp;omega
  have hrun:=run_loadCells_list (P:=P) (w:=c.w) ⟨g,o+j,Q0⟩ ((us.drop j).take<|P.cellsOf t) (λq u hu=>by rw [add0];exact (hpart.2.1 q u hu).1);rw [hl] at hrun;simp only [Instr.loadAt,Instr.sureAddr,loadVar,Sem.run_bind,Sem.run_pure,Result.andThen_ok,xQ t hd,hb,if_true,run_sizeOf c.w hi,hrun]
 obtain ⟨d,hd⟩:=Ru.1 hs;obtain ⟨u,_,hc,hrel⟩:=hus.one hj;refine ⟨u,?_,hrel⟩;simp only [Instr.loadAt,Instr.sureAddr,loadVar,Sem.run_bind,Sem.run_pure,Result.andThen_ok,xQ t hd,hb];simp [hc]
theorem CX {c:Cx} {vs:Array Value} {cs:List AV} {t:TypeId} {j:Nat} (hl:vs.size=cs.length) (h1:∀ (i:Nat) (u:Value),vs[i]? = QZ u->u.oneCell'=QX)
  (h:∀ (i:Nat) (a:AV) (u:Value),cs[i]? = QZ a->vs[i]? = QZ u->c.rel a u) (hp:BD P t cs j r):∃ v,(part t vs j).run P c.w = .ok v c.w/\c.rel r v:=by
 rcases hp with ⟨hb,hn,rfl⟩ | ⟨hb,hs,hj,rfl⟩
 ·obtain ⟨d,hd⟩:=BG hb;obtain ⟨i,hi,hsz⟩:=BF hd;refine ⟨.agg<|vs.extract j<|j+P.cellsOf t,?_,?_⟩
  ·simp only [part,Sem.run_bind,Result.andThen_ok,xQ t hd,hb,if_true,run_sizeOf c.w hi,Sem.run_pure]
  refine .agg (by grind) (λi u hu=>?_) λi a u ha hu=>?_
  ·rw [RA] at hu
   grind
  rw [RA] at hu;rw [Rh] at ha
  split at hu
  ·split at ha
   ·rw [Rt] at ha;exact h _ _ _ ha hu
   cases ha
  simp_all
 obtain ⟨d,hd⟩:=Ru.1 hs;have hjv:j<vs.size:=by omega
 refine ⟨vs[j],?_,?_⟩
 ·simp only [part,Sem.run_bind,Result.andThen_ok,xQ t hd,hb,Rv,if_false,Ri hjv,Sem.run_pure]
 rw [List.getD,geq hj];exact h j _ _ (geq hj)<|Ri hjv
theorem FRel.rowAt {c:Cx} {row:List AV} {j:Nat} {u:Value} (h:FRel c.w c.fz (.fp row j) u):∃ g o,u = .pointer (QZ ⟨g,o+j,Q0⟩)/\Hn c g o row:=by
 cases h with
 | fp us hg hlt hu h1 h=>exact ⟨_,_,rfl,λq a hq=>⟨_,hu q a hq,h1 q a hq,.fr<|h q a hq⟩⟩
theorem IC {t:TypeId} {x:Operand} {row:List AV} {j:Nat} (ho:o.op = .load t x) (hx:ρ x = .fp row j) (hp:BD P t row j r):xP P o ρ r:=
 .mk (λf=>Instr.loadAt t<|f x) (λf=>by rw [execOp,ho]) λc a _ h=>by
  have := h x (by rw [ho];simp [Op.operands]);rw [hx] at this;obtain ⟨g,oo,he,hrow⟩:=(uC this).rowAt;simp only [he];exact vX hrow hp
end
section
variable {P:Program} {o:Oper} {ρ:Operand->AV} {r:AV}
def KE (P:Program) (op:BinOp) (t:TypeId) (x y r:AV):Prop:=
 ∀ (c:Cx) (xo yo:Operand) (u v:Value),c.rel x u->c.rel y v->∃ q,(do eqGuard op t xo yo u v;binOp op t u v:Sem Value).run P c.w = .ok q c.w/\c.rel r q
theorem KE.of {op:BinOp} {t:TypeId} {x y:AV} {X Y q:Value} (hx:x = .v X) (hy:y = .v Y) (hq:plain q=QX) (h:∀ (w:World) (xo yo:Operand),(do eqGuard op t xo yo X Y;binOp op t X Y:Sem Value).run P w = .ok q w):KE P op t x y (.v q):=by
 intro c xo yo u v hu hv;subst hx hy;obtain ⟨rfl,_⟩:=iR hu;obtain ⟨rfl,_⟩:=iR hv;exact ⟨_,h _ _ _,cO hq⟩
theorem CY (a b:BA):(a.toList==b.toList)=Q3 (a=b):=by
 rw [ByteArray.toList_eq,ByteArray.toList_eq,Bool.eq_iff_iff,beq_iff_eq,dte]
 constructor
 ·intro h;obtain ⟨⟨a⟩⟩:=a;obtain ⟨⟨b⟩⟩:=b;simp at h;rw [h]
 simp_all
theorem BH (w:World) {t e:TypeId} (ht:P.underlying t=QZ (.slice e)) (A:Option Addr) (l n:Nat) (xo yo:Operand) :
  (do eqGuard .eql t xo yo (.slice A l n) (.slice Q0 0 0);binOp .eql t (.slice A l n) (.slice Q0 0 0):Sem Value).run P w = .ok (.bool A.isNone) w:=by
 have := run_equal_slice_nil (P:=P) w t e A l n ht;simp [eqGuard,binOp,this]
theorem BI (w:World) {t e:TypeId} (ht:P.underlying t=QZ (.slice e)) (A:Option Addr) (l n:Nat) (xo yo:Operand) :
  (do eqGuard .neq t xo yo (.slice A l n) (.slice Q0 0 0);binOp .neq t (.slice A l n) (.slice Q0 0 0):Sem Value).run P w = .ok (.bool<|!A.isNone) w:=by
 have := run_equal_slice_nil (P:=P) w t e A l n ht;simp [eqGuard,binOp,this]
theorem CZ {t:TypeId} (h:w9 P t=QX):P.underlying t=QZ .bool:=by
 unfold w9 at h
 grind
theorem Mo {op:BinOp} {t:TypeId} {x y:AV} {K:AV->Prop} (h:p7 P op t x y K):∃ r,KE P op t x y r/\K r:=by
  unfold p7 at h
  split at h
  · rename_i k a k' b;have ck:∀ {X:Prop},Ck (Q3<|k=k') X->k=k'/\X:=λh=>⟨of_decide_eq_true (Ck.elim h).1,(Ck.elim h).2⟩
    cases op
    all_goals first
      | (obtain ⟨rfl,hw,h⟩:=ck h
         refine ⟨_,.of rfl rfl rfl (λw xo yo=>?_),h⟩;simp [eqGuard,binOp,Op.intArith,hw];done)
      | (obtain ⟨rfl,hb,hw,h⟩:=ck h
         refine ⟨_,.of rfl rfl rfl (λw xo yo=>?_),h⟩;simp [eqGuard,binOp,Op.intDiv,hb,hw];done)
      | (obtain ⟨rfl,hb,h⟩:=ck h
         refine ⟨_,.of rfl rfl rfl (λw xo yo=>?_),h⟩;simp [eqGuard,binOp,Op.intDiv,hb];done)
      | (obtain ⟨rfl,h2⟩:=ck h
         refine ⟨_,.of rfl rfl rfl λw xo yo=>?_,h2⟩
         first | (simp [eqGuard,binOp,Op.intBits];done) | (simp [eqGuard,binOp,Op.intCmp];done))
      | (obtain ⟨hb,h⟩:=h
         refine ⟨_,.of rfl rfl rfl (λw xo yo=>?_),h⟩;simp [eqGuard,binOp,Op.shift,Int.not_lt.2 hb];done)
  · rename_i a b
    split at h
    · obtain ⟨hl,h⟩:=h;refine ⟨_,.of rfl rfl rfl λw xo yo=>?_,h⟩;have := run_string_add_sum (P:=P) w a b hl;simp [eqGuard,binOp,this]
    · refine ⟨_,.of rfl rfl rfl λw xo yo=>?_,h⟩;simp only [eqGuard,binOp,Op.stringOp,CY];simp
    · refine ⟨_,.of rfl rfl rfl λw xo yo=>?_,h⟩;simp only [eqGuard,binOp,Op.stringOp,CY];simp
    exact h.elim
  · rename_i a b
    split at h
    · obtain ⟨hk,h⟩:=Ck.elim h;have ht:=CZ hk;refine ⟨_,.of rfl rfl rfl λw xo yo=>?_,h⟩;have := run_eql_bool (P:=P) w t a b ht;simp [eqGuard,this]
    · obtain ⟨hk,h⟩:=Ck.elim h;have ht:=CZ hk;refine ⟨_,.of rfl rfl rfl λw xo yo=>?_,h⟩;have := run_neq_bool (P:=P) w t a b ht;simp [eqGuard,this]
    exact h.elim
  · split at h
    · rename_i e ht;refine ⟨_,λc xo yo u v hu hv=>?_,h⟩;obtain rfl:=eX hu;obtain rfl:=eX hv;exact ⟨_,BH c.w ht Q0 0 0 xo yo,cO rfl⟩
    · rename_i e ht;refine ⟨_,λc xo yo u v hu hv=>?_,h⟩;obtain rfl:=eX hu;obtain rfl:=eX hv;exact ⟨_,BI c.w ht Q0 0 0 xo yo,cO rfl⟩
    exact h.elim
  · split at h
    · rename_i e ht;refine ⟨_,λc xo yo u v hu hv=>?_,h.2⟩;obtain ⟨A,cap,rfl,_,_,hA⟩:=tO hu;obtain rfl:=eX hv;obtain ⟨ad,rfl⟩:=hA h.1;exact ⟨_,BH c.w ht _ _ _ xo yo,cO rfl⟩
    · rename_i e ht;refine ⟨_,λc xo yo u v hu hv=>?_,h.2⟩;obtain ⟨A,cap,rfl,_,_,hA⟩:=tO hu;obtain rfl:=eX hv;obtain ⟨ad,rfl⟩:=hA h.1;exact ⟨_,BI c.w ht _ _ _ xo yo,cO rfl⟩
    exact h.elim
  · split at h
    · rename_i e ht;refine ⟨_,λc xo yo u v hu hv=>?_,h.2⟩;obtain ⟨A,cap,rfl,_,_,hA⟩:=p8 hu;obtain rfl:=eX hv;obtain ⟨ad,rfl⟩:=hA h.1;exact ⟨_,BH c.w ht _ _ _ xo yo,cO rfl⟩
    · rename_i e ht;refine ⟨_,λc xo yo u v hu hv=>?_,h.2⟩;obtain ⟨A,cap,rfl,_,_,hA⟩:=p8 hu;obtain rfl:=eX hv;obtain ⟨ad,rfl⟩:=hA h.1;exact ⟨_,BI c.w ht _ _ _ xo yo,cO rfl⟩
    exact h.elim
  simp_all
end
section
variable {P:Program} {o:Oper} {ρ:Operand->AV} {r:AV}
theorem EB {x:Operand} (ho:o.op = .move x\/o.op = .assign x):xP P o ρ (ρ x):=by
 intro c a _ h;refine ⟨a.eval x,?_,h x (by rcases ho with ho | ho <;> rw [ho] <;> simp [Op.operands])⟩;rcases ho with ho | ho <;> simp [execOp,ho]
theorem ID {q x y:Operand} {b:Bool} (ho:o.op = .pick q x y) (hq:ρ q = .v (.bool b)):xP P o ρ (bif b then ρ x else ρ y):=by
 intro c a _ h;have h1:=h q (by rw [ho];simp [Op.operands]);rw [hq] at h1;obtain ⟨h1,_⟩:=iR h1;refine ⟨if b then a.eval x else a.eval y,by rw [execOp,ho];simp [h1,asBool],?_⟩
 cases b
 ·exact h y (by rw [ho];simp [Op.operands])
 exact h x (by rw [ho];simp [Op.operands])
theorem Gz {x:Operand} (ho:o.op = .nilCheck x) (hx:∀ (c:Cx) u,c.rel (ρ x) u->∃ ad,u = .pointer (some ad)):xP P o ρ (ρ x):=by
 intro c a _ h;have h1:=h x (by rw [ho];simp [Op.operands]);obtain ⟨ad,hu⟩:=hx c _ h1;refine ⟨a.eval x,?_,h1⟩;simp [execOp,ho,hu]
theorem KG {op:BinOp} {t t2:TypeId} {x y:Operand} (ho:o.op = .binOp op t x y t2) (hb:KE P op t (ρ x) (ρ y) r):xP P o ρ r:=
 .mk (λf=>do eqGuard op t x y (f x) (f y);binOp op t (f x)<|f y) (λf=>by rw [execOp,ho]) λc a _ h=>
  hb c x y _ _ (h x<|by rw [ho];simp [Op.operands]) (h y<|by rw [ho];simp [Op.operands])
theorem KH {t:TypeId} {x:Operand} {b:Bool} (ho:o.op = .unOp .not t x) (hx:ρ x = .v (.bool b)):xP P o ρ (.v<|.bool !b):=
 .mk (λf=>Op.unary .not<|f x) (λf=>by rw [execOp,ho]) λc a _ h=>by
  have h1:=h x (by rw [ho];simp [Op.operands]);rw [hx] at h1;obtain ⟨h1,_⟩:=iR h1;exact ⟨.bool !b,by rw [h1];simp [Op.unary],cO rfl⟩
theorem KI {t:TypeId} {x:Operand} {k:IntKind} {n:Int} (ho:o.op = .unOp .neg t x) (hx:ρ x = .v (.int k n)) (hw:k.wrap (0-n)=0-n):xP P o ρ (.v<|.int k<|0-n):=
 .mk (λf=>Op.unary .neg<|f x) (λf=>by rw [execOp,ho]) λc a _ h=>by
  have h1:=h x (by rw [ho];simp [Op.operands]);rw [hx] at h1;obtain ⟨h1,_⟩:=iR h1;refine ⟨.int k<|0-n,?_,cO rfl⟩;rw [h1];simp only [Op.unary,Op.intArith,hw,Sem.run_pure]
theorem IE {s d:TypeId} {x:Operand} {ds:TypeDesc} {k k2:IntKind} {n:Int} (ho:o.op = .convert s d x) (hs:P.underlying s=QZ ds) (hd:P.underlying d=QZ (.int k)) (hx:ρ x = .v (.int k2 n)) (hw:k.wrap n=n) :
  xP P o ρ (.v<|.int k n):=
 .mk (λf=>convert s d<|f x) (λf=>by rw [execOp,ho]) λc a _ h=>by
  have h1:=h x (by rw [ho];simp [Op.operands]);rw [hx] at h1;obtain ⟨h1,_⟩:=iR h1;refine ⟨.int k n,?_,cO rfl⟩;rw [h1];simp [convert,ay hs,ay hd,Conv.intToInt,hw]
theorem Hp {s d:TypeId} {x:Operand} {ds:TypeDesc} {b:BA} (ho:o.op = .convert s d x) (hs:P.underlying s=QZ ds) (hd:P.underlying d=QZ .string) (hx:ρ x = .v (.string b)) :
  xP P o ρ (.v<|.string b):=
 .mk (λf=>convert s d<|f x) (λf=>by rw [execOp,ho]) λc a _ h=>by
  have h1:=h x (by rw [ho];simp [Op.operands]);rw [hx] at h1;obtain ⟨h1,_⟩:=iR h1;refine ⟨.string b,?_,cO rfl⟩;rw [h1];simp only [convert,Sem.run_bind,ay hs,ay hd,Result.andThen_ok]
  simp_all
theorem Hq {t:TypeId} {x:Operand} {d:TypeDesc} (ho:o.op = .makeInterface t x) (ht:P.underlying t=QZ d) (hd:∀ ms,d ≠ .interface ms):xP P o ρ (.ifc t<|ρ x):=
 .mk (λf=>Instr.makeInterface t<|f x) (λf=>by rw [execOp,ho]) λc a _ h=>by
  have h1:=h x (by rw [ho];simp [Op.operands]);refine ⟨.iface t<|a.eval x,?_,.ifc h1⟩;simp only [Instr.makeInterface,Sem.run_bind,ay ht,Result.andThen_ok]
  simp_all
theorem IG {f:Fn} {p6:Array Operand} (ho:o.op = .makeFunc f #[] p6):xP P o ρ (.fn f<|p6.toList.map ρ):=by
 intro c a _ h;refine ⟨.func f #[] (p6.map a.eval),by simp [execOp,ho,Instr.makeFunc],.fn (by simp) λi q u hq hu=>?_⟩;simp only [Re,Ra] at hq;obtain ⟨x,hx,rfl⟩:=hq;simp only [Array.getElem?_map,Ra] at hu;obtain ⟨y,hy,rfl⟩:=hu;rw [Rn] at hx;rw [hx] at hy;injection hy with hy;subst hy;exact h _ (by rw [ho];simp [Op.operands];grind)
theorem xU {t:TypeId} (h:P.cellsOf t≠0):∃ i,P.info? t=QZ i:=by
 unfold Program.cellsOf at h
 cases hi:P.info? t with
 | none=>simp_all
 | some i=>simp_all
theorem BJ {s:TypeId} {fs:Array Field} {f:Nat} {fl:Field} (w:World) (ad:Addr) (hs:P.underlying s=QZ (.struct fs)) (hf:fs[f]? = QZ fl) (hc:P.cellsOf fl.type≠0) :
  (Instr.fieldAt s (.pointer<|QZ ad) f).run P w = .ok (.pointer<|QZ<|ad.add fl.offset) w:=by
 obtain ⟨i,hi⟩:=xU hc;simp only [Instr.fieldAt,Sem.run_bind,ay hs,Result.andThen_ok,hf,Instr.sureAddr,Sem.run_pure,fieldPlace,run_sizeOf w hi,hc,if_false]
theorem add_add (g o p q:Nat):(⟨g,o+p,Q0⟩:Addr).add q=⟨g,o+(p+q),Q0⟩:=by rw [add0];simp_all
theorem FC {s:TypeId} {fs:Array Field} {f:Nat} {fl:Field} {x:Operand} {row:List AV} {j:Nat} (ho:o.op = .fieldAddr s x f) (hs:P.underlying s=QZ (.struct fs)) (hf:fs[f]? = QZ fl) (hc:P.cellsOf fl.type≠0) (hx:ρ x = .fp row j) :
  xP P o ρ (.fp row<|j+fl.offset):=
 .mk (λq=>Instr.fieldAt s (q x) f) (λq=>by rw [execOp,ho]) λc a _ h=>by
  have h1:=h x (by rw [ho];simp [Op.operands]);rw [hx] at h1;have h2:=uC h1;generalize a.eval x=u at h2
  cases h2 with
  | fp us hg hlt hu h1 h=>
   refine ⟨_,BJ c.w _ hs hf hc,?_⟩;rw [add_add];exact .fr<|.fp us hg hlt hu h1 h
theorem FD {s:TypeId} {fs:Array Field} {f:Nat} {fl:Field} {x:Operand} {b q z i j:Nat} (ho:o.op = .fieldAddr s x f) (hs:P.underlying s=QZ (.struct fs)) (hf:fs[f]? = QZ fl) (hc:P.cellsOf fl.type≠0) (hx:ρ x = .hp b q z i j) :
  xP P o ρ (.hp b q z i<|j+fl.offset):=
 .mk (λq=>Instr.fieldAt s (q x) f) (λq=>by rw [execOp,ho]) λc a _ h=>by
  have h1:=h x (by rw [ho];simp [Op.operands]);rw [hx] at h1;generalize a.eval x=u at h1
  cases h1 with
  | fr h=>cases h
  | hp hb h=>
   refine ⟨_,BJ c.w _ hs hf hc,.hp hb λy hy=>?_⟩;obtain ⟨h1,rfl⟩:=h y hy;exact ⟨h1,add_add _ _ _ _⟩
theorem Hr {t:TypeId} {fs:Array Field} {f:Nat} {fl:Field} {x:Operand} {cs:List AV} (ho:o.op = .field t x f) (hs:P.underlying t=QZ (.struct fs)) (hf:fs[f]? = QZ fl) (hx:ρ x = .agg cs) (hp:BD P fl.type cs fl.offset r):xP P o ρ r:=
 .mk (λq=>Instr.field t (q x) f) (λq=>by rw [execOp,ho]) λc a _ h=>by
  have h1:=h x (by rw [ho];simp [Op.operands]);rw [hx] at h1;obtain ⟨vs,hu,hl,h2,h3⟩:=tK h1;obtain ⟨v,hv,hr⟩:=CX hl h2 h3 hp;exact ⟨v,by simp only [Instr.field,Sem.run_bind,ay hs,Result.andThen_ok,hf,hu,asAgg,Sem.run_pure,hv],hr⟩
theorem EC {x:Operand} {i:Nat} {xs:List AV} (ho:o.op = .extract x i) (hx:ρ x = .tup xs) (hi:i<xs.length):xP P o ρ (xs.getD i .top):=
 .mk (λq=>Instr.extract (q x) i) (λq=>by rw [execOp,ho]) λc a _ h=>by
  have h1:=h x (by rw [ho];simp [Op.operands]);rw [hx] at h1;obtain ⟨vs,hu,hl,h3⟩:=yO h1;have hiv:i<vs.size:=by omega
  refine ⟨vs[i],by simp [Instr.extract,hu,Ri hiv],?_⟩;rw [List.getD,geq hi];exact h3 i _ _ (geq hi)<|Ri hiv
end
section
variable {P:Program} {o:Oper} {ρ:Operand->AV} {r:AV}
theorem wP {t e:TypeId} (w:World) (ht:P.underlying t=QZ (.slice e)) {ad:Addr} {n cap:Nat} {k:IntKind} {q:Int} (h0:0<=q) (h1:q<n) (hi:∃ i,P.info? e=QZ i) :
  (Instr.indexAt t (.slice (QZ ad) n cap)<|.int k q).run P w = .ok (.pointer<|QZ<|ad.add<|q.toNat*P.cellsOf e) w:=by
 obtain ⟨i,hi⟩:=hi;have : 0<=q/\q<(n:Int):=⟨h0,h1⟩;simp only [Instr.indexAt,asIntOf,Sem.run_bind,Sem.run_pure,Result.andThen_ok,ay ht,this,and_self,if_true,run_sizeOf w hi]
theorem wQ {t e:TypeId} (w:World) {n:Nat} (ht:P.underlying t=QZ (.array n e)) {ad:Addr} {k:IntKind} {q:Int} (h0:0<=q) (h1:q<n) (hi:∃ i,P.info? e=QZ i) :
  (Instr.indexAt t (.pointer<|QZ ad)<|.int k q).run P w = .ok (.pointer<|QZ<|ad.add<|q.toNat*P.cellsOf e) w:=by
 obtain ⟨i,hi⟩:=hi;have : 0<=q/\q<(n:Int):=⟨h0,h1⟩;simp only [Instr.indexAt,Instr.sureAddr,asIntOf,Sem.run_bind,Sem.run_pure,Result.andThen_ok,ay ht,this,and_self,if_true,run_sizeOf w hi]
theorem lF {e:TypeId} (h:(P.info? e).isSome=QX):∃ i,P.info? e=QZ i:=Ru.1 h
def NU (P:Program) (t:TypeId) (x i r:AV):Prop:=∀ (c:Cx) (u v:Value),c.rel x u->c.rel i v->∃ q,(Instr.indexAt t u v).run P c.w = .ok q c.w/\c.rel r q
theorem DJ {t:TypeId} {x i:AV} {K:AV->Prop} (h:fO P t x i K):∃ r,NU P t x i r/\K r:=by
 unfold fO at h
 split at h
 ·rename_i e n row k q ht;obtain ⟨⟨h0,h1⟩,hK⟩:=h;obtain ⟨hk,hK⟩:=hK.elim;simp only [bae,beq_iff_eq] at hk;obtain ⟨h2,h3⟩:=hk;refine ⟨_,λc u v hu hv=>?_,hK⟩;obtain ⟨rfl,_⟩:=iR hv
  cases uB hu with
  | sl us hc hm ha hs hu2 h1' h=>
   obtain ⟨rfl,hg,hlt⟩:=ha (by omega);have hq:q.toNat<n:=by omega
   refine ⟨_,wP c.w ht h0 h1<|lF h3,?_⟩;rw [add0,<- h2,hs _ hq,<- Ro (_+_)];exact .fr<|.fp (us q.toNat) hg hlt (λj a hj=>hu2 _ j a hq hj) (λj a hj=>h1' _ j a hq hj) λj a hj=>h _ j a hq hj
 ·rename_i e b ver s off len k q ht;obtain ⟨⟨h0,h1⟩,hK⟩:=h;obtain ⟨hk,hK⟩:=hK.elim;simp only [bae,beq_iff_eq] at hk;obtain ⟨h2,h3⟩:=hk;refine ⟨_,λc u v hu hv=>?_,hK⟩;obtain ⟨rfl,_⟩:=iR hv
  cases hu with
  | fr h=>cases h
  | @hs _ _ _ _ _ cap A hb hc hm h0' h=>
   obtain ⟨ad,rfl⟩:=h0' (by omega);refine ⟨_,wP c.w ht h0 h1<|lF h3,.hp hb λy hy=>?_⟩;obtain ⟨hs,_,hA,_⟩:=h y hy;have := hA (by omega);injection this with this;subst this;refine ⟨hs,?_⟩;rw [add0,<- h2,Q5]
   congr 1
   omega
 ·rename_i n e row j k q ht;obtain ⟨⟨h0,h1⟩,hK⟩:=h;obtain ⟨h3,hK⟩:=hK.elim;refine ⟨_,λc u v hu hv=>?_,hK⟩;obtain ⟨rfl,_⟩:=iR hv
  cases uC hu with
  | fp us hg hlt hu2 h1' h=>
   refine ⟨_,wQ c.w ht h0 h1<|lF h3,?_⟩;rw [add_add];exact .fr<|.fp us hg hlt hu2 h1' h
 ·rename_i n e b ver s i j k q ht;obtain ⟨⟨h0,h1⟩,hK⟩:=h;obtain ⟨h3,hK⟩:=hK.elim;refine ⟨_,λc u v hu hv=>?_,hK⟩;obtain ⟨rfl,_⟩:=iR hv
  cases hu with
  | fr h=>cases h
  | hp hb h=>
   refine ⟨_,wQ c.w ht h0 h1<|lF h3,.hp hb λy hy=>?_⟩;obtain ⟨hs,rfl⟩:=h y hy;exact ⟨hs,add_add _ _ _ _⟩
 simp_all
theorem CG {t:TypeId} {x i:Operand} (ho:o.op = .indexAddr t x i) (h:NU P t (ρ x) (ρ i) r):xP P o ρ r:=
 .mk (λf=>Instr.indexAt t (f x)<|f i) (λf=>by rw [execOp,ho]) λc a _ hx=>h c _ _ (hx x<|by rw [ho];simp [Op.operands]) (hx i<|by rw [ho];simp [Op.operands])
def P6 (P:Program) (t:TypeId) (x i r:AV):Prop:=∀ (c:Cx) (u v:Value),c.rel x u->c.rel i v->∃ q,(Instr.index t u v).run P c.w = .ok q c.w/\c.rel r q
theorem II {t:TypeId} {x i:AV} {K:AV->Prop} (h:Ey P t x i K):∃ r,P6 P t x i r/\K r:=by
 unfold Ey at h
 split at h
 ·rename_i n e cs k q ht;obtain ⟨⟨h0,h1⟩,hK⟩:=h;obtain ⟨h3,hK⟩:=hK.elim;obtain ⟨r,hp,hK⟩:=xS hK;refine ⟨r,λc u v hu hv=>?_,hK⟩;obtain ⟨rfl,_⟩:=iR hv;obtain ⟨vs,rfl,hl,h4,h5⟩:=tK hu;obtain ⟨i,hi⟩:=lF h3;obtain ⟨y,hy,hr⟩:=CX hl h4 h5 hp;have : 0<=q/\q<(n:Int):=⟨h0,h1⟩;exact ⟨y,by simp only [Instr.index,asIntOf,Sem.run_bind,Sem.run_pure,Result.andThen_ok,ay ht,this,and_self,if_true,run_sizeOf c.w hi,hy],hr⟩
 ·rename_i s k q ht;obtain ⟨⟨h0,h1⟩,hK⟩:=h;refine ⟨_,λc u v hu hv=>?_,hK⟩;obtain ⟨rfl,_⟩:=iR hv;obtain ⟨rfl,_⟩:=iR hu;refine ⟨_,?_,cO rfl⟩;have hq:q.toNat<s.size:=by omega
  have e:s[q.toNat]? = QZ (s.data.getD q.toNat 0):=by
   rw [getElem?_pos s q.toNat hq];have : q.toNat<s.data.size:=hq;simp only [Array.getD,this,dif_pos]
   rfl
  simp only [Instr.index,asIntOf,Sem.run_bind,Sem.run_pure,Result.andThen_ok,ay ht,h0,if_true,e]
 simp_all
theorem Hs {t:TypeId} {x i:Operand} (ho:o.op = .index t x i) (h:P6 P t (ρ x) (ρ i) r):xP P o ρ r:=
 .mk (λf=>Instr.index t (f x)<|f i) (λf=>by rw [execOp,ho]) λc a _ hx=>h c _ _ (hx x<|by rw [ho];simp [Op.operands]) (hx i<|by rw [ho];simp [Op.operands])
end
section
variable {P:Program} {o:Oper} {ρ:Operand->AV} {r:AV}
def P8 (P:Program) (t:TypeId) (x:AV) (lo hi mx:Option AV) (r:AV):Prop:=∀ (c:Cx) (u:Value) (l h m:Option Value),c.rel x u ->
 (∀ a,lo=QZ a->∃ v,l=QZ v/\c.rel a v)->(lo=Q0->l=Q0)->(∀ a,hi=QZ a->∃ v,h=QZ v/\c.rel a v)->(hi=Q0->h=Q0)->(mx=Q0->m=Q0) ->
 ∃ q,(Instr.sliceAt t u l h m).run P c.w = .ok q c.w/\c.rel r q
theorem qX {x:Option AV} {d:Int} {K:Int->Prop} (h:bound x d K):∃ n,K n/\((x=Q0/\n=d)\/∃ k,x=QZ (.v<|.int k n)):=by
 unfold bound at h
 grind
theorem ED (w:World) {x:Option AV} {v:Option Value} {n:Int} {d:Nat} {c:Cx} (h:(x=Q0/\n=d)\/∃ k,x=QZ (.v<|.int k n)) (hv:∀ a,x=QZ a->∃ u,v=QZ u/\c.rel a u) (hn:x=Q0->v=Q0) :
  (v=Q0/\n.toNat=d)\/∃ k,v=QZ (.int k n):=by
 rcases h with ⟨rfl,rfl⟩ | ⟨k,rfl⟩
 ·simp_all
 obtain ⟨u,rfl,hu⟩:=hv _ rfl;obtain ⟨rfl,_⟩:=iR hu
 simp_all
theorem vY (w:World) {xl xh:Option AV} {vl vh:Option Value} {l h:Int} {len cap:Nat} {isS:Bool} {c:Cx} (hl:(xl=Q0/\l=0)\/∃ k,xl=QZ (.v<|.int k l)) (hh:(xh=Q0/\h=len)\/∃ k,xh=QZ (.v<|.int k h))
  (hvl:∀ a,xl=QZ a->∃ u,vl=QZ u/\c.rel a u) (hnl:xl=Q0->vl=Q0) (hvh:∀ a,xh=QZ a->∃ u,vh=QZ u/\c.rel a u) (hnh:xh=Q0->vh=Q0) (h0:0<=l) (h1:l<=h) (h2:h<=cap) :
  (Instr.sliceBounds isS len cap vl vh Q0).run P w = .ok (l.toNat,h.toNat,cap) w:=by
 have e1:=ED (d:=len) w hh hvh hnh;have e2:=ED (d:=0) w hl hvl hnl;have b1:0<=h/\h<=(cap:Int):=⟨by omega,h2⟩;have b2:0<=l/\l<=(h.toNat:Int):=⟨h0,by omega⟩;unfold Instr.sliceBounds;rcases e1 with ⟨rfl,e1⟩ | ⟨k1,rfl⟩
 ·rcases e2 with ⟨rfl,e2⟩ | ⟨k2,rfl⟩
  ·simp_all
  rw [e1] at b2;simp [Instr.sliceBound,asIntOf,b2,e1]
 rcases e2 with ⟨rfl,e2⟩ | ⟨k2,rfl⟩
 ·simp [Instr.sliceBound,asIntOf,b1,e2]
 simp only [Instr.sliceBound,asIntOf,Sem.run_bind,Sem.run_pure,Result.andThen_ok,b1,and_self,if_true,b2,RB,Rv,if_false]
theorem IJ {t:TypeId} {x:AV} {lo hi mx:Option AV} {K:AV->Prop} (h:wO P t x lo hi mx K):∃ r,P8 P t x lo hi mx r/\K r:=by
  unfold wO at h
  split at h
  · rename_i s ht;obtain ⟨l,h,hl⟩:=qX h;obtain ⟨hh,h,hhi⟩:=qX h;obtain ⟨⟨h0,h1,h2⟩,hK⟩:=h;refine ⟨_,λc u vl vh m hu a1 a2 a3 a4 a5=>?_,hK⟩;obtain ⟨rfl,_⟩:=iR hu;obtain rfl:=a5 rfl;have er:=vY (P:=P) (isS:=false) (len:=s.size) (cap:=s.size) c.w hl hhi a1 a2 a3 a4 h0 h1 h2;refine ⟨_,?_,cO rfl⟩;simp only [Instr.sliceAt,Instr.slice,Sem.run_bind,ay ht,Result.andThen_ok,RB,Rv,if_false,er,Sem.run_pure]
  · rename_i e n row ht;obtain ⟨l,h,hl⟩:=qX h;obtain ⟨hh,h,hhi⟩:=qX h;obtain ⟨⟨h0,h1,h2,h3,h4⟩,hK⟩:=h;refine ⟨_,λc u vl vh m hu a1 a2 a3 a4 a5=>?_,hK⟩;obtain rfl:=a5 rfl;obtain ⟨i,hi⟩:=lF h4
    cases uB hu with
    | @sl _ cap s g oo _ A us hc hm ha hs hu2 h1' hx=>
      have er:=vY (P:=P) (isS:=true) (len:=n) (cap:=cap) c.w hl hhi a1 a2 a3 a4 h0 h1 (by omega);refine ⟨_,by simp only [Instr.sliceAt,Instr.slice,Sem.run_bind,ay ht,Result.andThen_ok,er,run_sizeOf c.w hi,Sem.run_pure];rfl,.fr ?_⟩;have hse:0<n->s=P.cellsOf _:=λhn=>(hs 0 hn).symm.trans<|h3 0 hn;refine .sl (g:=g) (o:=oo+l.toNat*s) (λi j=>us (i+l.toNat) j) (by omega) (by omega) (λhn=>?_) (λi hi=>hs _<|by omega) (λi j a hi hj=>?_) (λi j a hi hj=>h1' _ j a (by omega) hj) λi j a hi hj=>hx _ j a (by omega) hj
      · obtain ⟨rfl,hg,hlt⟩:=ha (by omega);refine ⟨?_,hg,hlt⟩;rw [if_neg (by omega)];simp only [Rf,add0,hse (by omega)]
      have := hu2 (i+l.toNat) j a (by omega) hj;rw [Q5] at this;rw [show oo+l.toNat*s+i*s+j=oo+(i*s+l.toNat*s)+j from by omega];exact this
  · rename_i e b ver s off len ht;obtain ⟨l,h,hl⟩:=qX h;obtain ⟨hh,h,hhi⟩:=qX h;obtain ⟨⟨h0,h1,h2,h3,h4⟩,hK⟩:=h;refine ⟨_,λc u vl vh m hu a1 a2 a3 a4 a5=>?_,hK⟩;obtain rfl:=a5 rfl;obtain ⟨i,hi⟩:=lF h4
    cases hu with
    | fr h=>cases h
    | @hs _ _ _ _ _ cap A hb hc hm h0' hx=>
      have er:=vY (P:=P) (isS:=true) (len:=len) (cap:=cap) c.w hl hhi a1 a2 a3 a4 h0 h1 (by omega);refine ⟨_,by simp only [Instr.sliceAt,Instr.slice,Sem.run_bind,ay ht,Result.andThen_ok,er,run_sizeOf c.w hi,Sem.run_pure];rfl,?_⟩;refine .hs hb (by omega) (by omega) (λhn=>?_) λy hy=>?_
      · obtain ⟨ad,rfl⟩:=h0' (by omega);rw [if_neg (by omega)];exact ⟨_,rfl⟩
      obtain ⟨hs,hle,hA,hm'⟩:=hx y hy;refine ⟨hs,by omega,λhn=>?_,?_⟩
      · rw [if_neg (by omega),hA (by omega)];simp only [Rf,add0,<- h3];rw [Q5,Nat.add_assoc]
      have hlc:l.toNat<=cap:=by omega
      have : (off+l.toNat)*s+(cap-l.toNat)*s=off*s+cap*s:=by
        rw [<- Q5,<- Q5]
        congr 1
        omega
      omega
  · rename_i n e row j ht;obtain ⟨l,h,hl⟩:=qX h;obtain ⟨hh,h,hhi⟩:=qX h;obtain ⟨⟨h0,h1,h2,h3,h4,h5⟩,hK⟩:=h;refine ⟨_,λc u vl vh m hu a1 a2 a3 a4 a5=>?_,hK⟩;obtain rfl:=a5 rfl;obtain ⟨i,hi⟩:=lF h4
    cases uC hu with
    | @fp _ _ g oo us hg hlt hu2 h1' hx=>
      have er:=vY (P:=P) (isS:=false) (len:=n) (cap:=n) c.w hl hhi a1 a2 a3 a4 h0 h1 h2;refine ⟨_,by simp only [Instr.sliceAt,Sem.run_bind,ay ht,Result.andThen_ok,Instr.sureAddr,er,run_sizeOf c.w hi,Sem.run_pure];rfl,.fr ?_⟩;have hfit:∀ i,i<hh.toNat-l.toNat->j+(i+l.toNat)*P.cellsOf e+P.cellsOf e<=row.length:=λi hi=>by
        have : (i+l.toNat+1)*P.cellsOf e<=n*P.cellsOf e:=Rj _ (by omega);rw [Q5] at this;omega
      refine .sl (g:=g) (o:=oo+j+l.toNat*P.cellsOf e) (s:=P.cellsOf e) (λi q=>us<|j+(i+l.toNat)*P.cellsOf e+q) (by omega) (by omega) (λhn=>?_) (λi hi=>?_) (λi q a hi hq=>?_) (λi q a hi hq=>?_) λi q a hi hq=>?_
      · refine ⟨?_,hg,hlt⟩;rw [if_neg (by omega),add0]
      · have := hfit i hi;simp only [List.length_take,List.length_drop];omega
      all_goals
        rw [Rh] at hq
        split at hq
        · rw [Rt] at hq
          first
            | (have:=hu2 _ _ hq
               rw [show oo+j+l.toNat*P.cellsOf e+i*P.cellsOf e+q=oo+(j+(i+l.toNat)*P.cellsOf e+q) from by rw [Q5];omega];exact this)
            | exact h1' _ _ hq
            | exact hx _ _ hq
        cases hq
  simp_all
theorem Ht {t:TypeId} {x:Operand} {lo hi mx:Option Operand} (ho:o.op = .slice t x lo hi mx) (h:P8 P t (ρ x) (lo.map ρ) (hi.map ρ) (mx.map ρ) r):xP P o ρ r:=
 .mk (λf=>Instr.sliceAt t (f x) (lo.map f) (hi.map f)<|mx.map f) (λf=>by rw [execOp,ho]) λc a _ hx=>by
  refine h c _ _ _ _ (hx x<|by rw [ho];simp [Op.operands]) (λq hq=>?_) (λhn=>?_) (λq hq=>?_) (λhn=>?_) (λhn=>?_)
  ·obtain ⟨y,rfl,rfl⟩:=Ra.1 hq;exact ⟨_,rfl,hx y<|by rw [ho];simp [Op.operands]⟩
  ·cases lo with
   | none=>rfl
   | some y=>cases hn
  ·obtain ⟨y,rfl,rfl⟩:=Ra.1 hq;exact ⟨_,rfl,hx y<|by rw [ho];simp [Op.operands]⟩
  ·cases hi with
   | none=>rfl
   | some y=>cases hn
  simp_all
end
structure CsRel (c:Cx) (cs:List AV) (vs:Array Value):Prop where
 size:vs.size=cs.length
 one:∀ (i:Nat) (u:Value),vs[i]? = QZ u->u.oneCell'=QX
 rel:∀ (i:Nat) (a:AV) (u:Value),cs[i]? = QZ a->vs[i]? = QZ u->c.rel a u
theorem CsRel.mk1 {c:Cx} {a:AV} {u:Value} (h:c.rel a u) (h1:u.oneCell'=QX):CsRel c [a] #[u]:=by
 refine ⟨rfl,λi v hv=>?_,λi b v hb hv=>?_⟩
 ·match i,hv with
  | 0,hv=>simp at hv;exact hv ▸ h1
  | i+1,hv=>simp at hv
 grind
theorem xW {c:Cx} {x:AV} {u:Value} {cs:List AV} (h:c.rel x u) (hc:x.cells=QZ cs):CsRel c cs u.cells:=by
 cases x with
 | agg cs'=>
  simp only [AV.cells,sie] at hc;subst hc;obtain ⟨vs,rfl,hl,h1,h2⟩:=tK h;exact ⟨hl,h1,h2⟩
 | tup xs=>cases hc
 | top=>cases hc
 | v x=>
  simp only [AV.cells,sie] at hc;subst hc;obtain ⟨rfl,hp⟩:=iR h;rw [Fy hp];exact .mk1 h<|Ew hp
 | nil=>
  simp only [AV.cells,sie] at hc;subst hc;obtain rfl:=eX h;exact .mk1 h rfl
 | sl n row=>
  simp only [AV.cells,sie] at hc;subst hc;obtain ⟨A,cap,rfl,_⟩:=tO h;exact .mk1 h rfl
 | fp row j=>
  simp only [AV.cells,sie] at hc;subst hc;obtain ⟨A,rfl⟩:=Bz h;exact .mk1 h rfl
 | hs b q s i j=>
  simp only [AV.cells,sie] at hc;subst hc;obtain ⟨A,cap,rfl,_⟩:=p8 h;exact .mk1 h rfl
 | hp b q s i j=>
  simp only [AV.cells,sie] at hc;subst hc;obtain ⟨A,rfl⟩:=BB h;exact .mk1 h rfl
 | mp b s=>
  simp only [AV.cells,sie] at hc;subst hc;obtain ⟨g,rfl,_⟩:=LG h;exact .mk1 h rfl
 | ifc t y=>
  simp only [AV.cells,sie] at hc;subst hc;obtain ⟨y,rfl,_⟩:=yP h;exact .mk1 h rfl
 | fn f p6=>
  simp only [AV.cells,sie] at hc;subst hc;obtain ⟨y,rfl,_⟩:=Bx h;exact .mk1 h rfl
theorem yQ (c:Cx) {z:Value} (h:oQ z.cells=true):CsRel c (dW z) z.cells:=by
 rw [Bv] at h;rw [Array.all_eq_true] at h;refine ⟨by simp [dW],λi u hu=>?_,λi a u ha hu=>BC c _ i a u ha hu⟩
 grind
theorem GA (off:Nat):∀ (l:List Value) (k:Nat) (cs:Array Value),off+k+l.length<=cs.size ->
  ((l.zipIdx k).foldl (λcs (p:Value×Nat)=>cs.setIfInBounds (off+p.2) p.1) cs).size=cs.size /\
  ∀ i,((l.zipIdx k).foldl (λcs (p:Value×Nat)=>cs.setIfInBounds (off+p.2) p.1) cs)[i]? = if off+k<=i/\i<off+k+l.length then l[i-(off+k)]? else cs[i]?
 | [],k,cs,_=>⟨rfl,λi=>by
  rw [if_neg (by simp)]
  rfl⟩
 | x::l,k,cs,h=>by
  simp only [llc] at h;have ih:=GA off l (k+1) (cs.setIfInBounds (off+k) x) (by simp;omega);simp only [List.zipIdx_cons,List.foldl_cons]
  grind
theorem vZ (row:List AV) (j:Nat) (cs:List AV) (h:j+cs.length<=row.length) (i:Nat):(splice row j cs)[i]? = if j<=i/\i<j+cs.length then cs[i-j]? else row[i]? := by
 unfold splice
 by_cases h1:i<j
 ·rw [if_neg (by omega),List.append_assoc,gal (by simp;omega),Rh,if_pos h1]
 grind
theorem pz (row:List AV) (j:Nat) (cs:List AV) (h:j+cs.length<=row.length):(splice row j cs).length=row.length:=by
 simp [splice];omega
theorem CsRel.splice {c:Cx} {row cs:List AV} {ws vs:Array Value} (h:CsRel c row ws) (k:CsRel c cs vs) (j:Nat) (hj:j+cs.length<=row.length) :
  CsRel c (splice row j cs) ((vs.toList.zipIdx 0).foldl (λcs (p:Value×Nat)=>cs.setIfInBounds (j+p.2) p.1) ws):=by
 have hk:=k.size;have hh:=h.size;have hf:=GA j vs.toList 0 ws (by simp_all);refine ⟨by rw [hf.1,pz _ _ _ hj,hh],λi u hu=>?_,λi a u ha hu=>?_⟩
 ·rw [hf.2] at hu
  split at hu
  ·exact k.one _ u (by simpa using hu)
  exact h.one _ u hu
 rw [hf.2] at hu;rw [vZ _ _ _ hj] at ha
 split at hu
 ·rename_i h1;rw [if_pos (by simp_all)] at ha;rw [Rn] at hu;exact k.rel _ a u ha (by omega)
 rename_i h1;rw [if_neg (by simp_all)] at ha;exact h.rel _ a u ha hu
theorem DK {c:Cx} (place:Nat->Option (Nat×Nat)):∀ (parts:List<|Nat×AV) (vparts:List<|Nat×Value) (cells out:List AV) (vs:Array Value),parts.length=vparts.length ->
  (∀ (i:Nat) (p:Nat×AV) (q:Nat×Value),parts[i]? = QZ p->vparts[i]? = QZ q->p.1=q.1/\c.rel p.2 q.2)->CsRel c cells vs->Bw place cells parts=QZ out ->
  ∃ vs',Instr.fill place vs vparts=QZ vs'/\CsRel c out vs'
 | [],[],cells,out,vs,_,_,h,ho=>by
  simp only [Bw,sie] at ho;subst ho;exact ⟨vs,rfl,h⟩
 | (i,x)::parts,(i',v)::vparts,cells,out,vs,hl,hp,h,ho=>by
  obtain ⟨rfl,hx⟩:=hp 0 _ _ rfl rfl;simp only [Bw] at ho
  split at ho
  ·rename_i off size cs hpl hcs
   split at ho
   ·rename_i hsz;have hc:=xW hx hcs;obtain ⟨vs',h1,h2⟩:=DK place parts vparts _ out _ (by simpa using hl) (λi p q h1 h2=>hp (i+1) p q (by simpa using h1)<|by simpa using h2) (h.splice hc off<|by omega) ho;refine ⟨vs',?_,h2⟩;simp only [Instr.fill];rw [show place i=QZ (off,size) from hpl];have e1:v.cells.size=size:=by rw [hc.size,hsz.1]
    have e2 : ¬ ((Q3 (v.cells.size≠size)||Q3 (off+v.cells.size>vs.size))=QX):=by
     have := h.size;simp [e1];omega
    simp only;rw [if_neg e2];rw [<- h1]
    congr 1
    rw [<- Array.foldl_toList,Array.toList_zipIdx]
   cases ho
  simp_all
 | [],_::_,_,_,_,hl,_,_,_=>(by grind)
 | _::_,[],_,_,_,hl,_,_,_=>(by grind)
section
variable {P:Program} {o:Oper} {ρ:Operand->AV} {r:AV}
theorem Hu {t:TypeId} {parts:Array (Nat×Operand)} {K:AV->Prop} (ho:o.op = .build t parts) (h:Ez P t (parts.toList.map λp=>(p.1,ρ p.2)) K):∃ r,xP P o ρ r/\K r:=by
 have key:∀ (c:Cx) (a:Act),(∀ x∈o.op.operands,c.rel (ρ x)<|a.eval x)->∀ (i:Nat) (p:Nat×AV) (q:Nat×Value),(parts.toList.map λp=>(p.1,ρ p.2))[i]? = QZ p ->
   ((parts.map λ(i,x)=>(i,a.eval x)).toList)[i]? = QZ q->p.1=q.1/\c.rel p.2 q.2:=by
  intro c a hx i p q hp hq;simp only [Re,Ra,Array.toList_map] at hp hq;obtain ⟨y,hy,rfl⟩:=hp;obtain ⟨y',hy',rfl⟩:=hq;rw [hy] at hy';injection hy' with hy';subst hy';refine ⟨rfl,hx _ ?_⟩;rw [ho];simp only [Op.operands,List.mem_toArray,Rw];exact ⟨y,Rk hy,rfl⟩
 have hlen:∀ a:Act,(parts.toList.map λp=>(p.1,ρ p.2)).length=((parts.map λ(i,x)=>(i,a.eval x)).toList).length:=λa=>by simp
 have go:∀ (place:Nat->Option (Nat×Nat)) (z:Value) (cs:List AV),oQ z.cells=QX->Bw place (dW z) (parts.toList.map λp=>(p.1,ρ p.2))=QZ cs ->
   (∀ (a:Act) (vs:Array Value),Instr.fill place z.cells ((parts.map λ(i,x)=>(i,a.eval x)).toList)=QZ vs->P.built t ((parts.map λ(i,x)=>(i,a.eval x)).toList)=QZ vs)->xP P o ρ (.agg cs):=by
  intro place z cs hz hf hb;refine .mk (λf=>Instr.build t<|parts.map λ(i,x)=>(i,f x)) (λf=>by rw [execOp,ho]) λc a _ hx=>?_;obtain ⟨vs,h1,h2⟩:=DK place _ _ _ _ _ (hlen a) (key c a hx) (yQ c hz) hf;exact ⟨.agg vs,run_build c.w t _ vs<|hb a vs h1,.agg h2.size h2.one h2.rel⟩
 unfold Ez at h
 split at h
 ·rename_i i fs hi hu
  split at h
  ·rename_i z places hz hp
   split at h
   ·rename_i cs hcs;refine ⟨_,go _ z cs h.elim.1 hcs λa vs h1=>?_,h.elim.2⟩;unfold Program.built;simp only [hi,hu,hz,hp];exact h1
   exact h.elim
  exact h.elim
 ·rename_i i n e hi hu
  split at h
  ·rename_i z ie hz hie
   split at h
   ·rename_i cs hcs;refine ⟨_,go _ z cs h.elim.1 hcs λa vs h1=>?_,h.elim.2⟩;unfold Program.built;simp only [hi,hu,hz,hie];exact h1
   exact h.elim
  exact h.elim
 simp_all
theorem xX {t:TypeId} {x:Operand} {n:Nat} {cl:Call} (ho:o.op = .call cl) (h1:cl.callee = .builtin .len) (h2:cl.args.toList=[x]) (h3:cl.argTypes.toList=[t])
  (h:∀ (c:Cx) (u:Value),c.rel (ρ x) u->(Builtin.len_ #[t] o.type #[u]).run P c.w = .ok (.int .i64 n) c.w):xP P o ρ (.v<|.int .i64 n):=by
 obtain ⟨callee,args,ts⟩:=cl;simp only at h1 h2 h3;obtain rfl:args = #[x]:=by grind
 obtain rfl:ts = #[t]:=by grind
 subst h1;intro c a _ hx;have := h c _<|hx x (by rw [ho];simp [Op.operands,Call.operands]);refine ⟨_,?_,cO rfl⟩;simp [execOp,ho,resolve,invoke,builtin,this]
theorem KJ {x y:Operand} {k k':IntKind} {p q:Int} {cl:Call} (ho:o.op = .call cl) (h1:cl.callee = .builtin .min) (h2:cl.args.toList=[x,y]) (hx:ρ x = .v (.int k p)) (hy:ρ y = .v (.int k' q)) :
  xP P o ρ (.v<|.int k<|if q<p then q else p):=by
 obtain ⟨callee,args,ts⟩:=cl;simp only at h1 h2;obtain rfl:args = #[x,y]:=by grind
 subst h1;clear h2;intro c a _ h;have h1:=h x (by rw [ho];simp [Op.operands,Call.operands]);have h2:=h y (by rw [ho];simp [Op.operands,Call.operands]);rw [hx] at h1;rw [hy] at h2;refine ⟨_,?_,cO rfl⟩;simp [execOp,ho,resolve,invoke,builtin,(iR h1).1,(iR h2).1,Builtin.min_,Builtin.min2]
theorem KL {x y:Operand} {k k':IntKind} {p q:Int} {cl:Call} (ho:o.op = .call cl) (h1:cl.callee = .builtin .max) (h2:cl.args.toList=[x,y]) (hx:ρ x = .v (.int k p)) (hy:ρ y = .v (.int k' q)) :
  xP P o ρ (.v<|.int k<|if q>p then q else p):=by
 obtain ⟨callee,args,ts⟩:=cl;simp only at h1 h2;obtain rfl:args = #[x,y]:=by grind
 subst h1;clear h2;intro c a _ h;have h1:=h x (by rw [ho];simp [Op.operands,Call.operands]);have h2:=h y (by rw [ho];simp [Op.operands,Call.operands]);rw [hx] at h1;rw [hy] at h2;refine ⟨_,?_,cO rfl⟩;simp [execOp,ho,resolve,invoke,builtin,(iR h1).1,(iR h2).1,Builtin.max_,Builtin.max2]
theorem EE {K:AV->Prop} {cl:Call} (ho:o.op = .call cl) (h:sK P ρ cl.callee cl.args.toList cl.argTypes.toList K):∃ r,xP P o ρ r/\K r:=by
 unfold sK at h
 split at h
 ·rename_i x t h1 h2 h3
  split at h
  ·rename_i e n row ht hx;refine ⟨_,xX ho h1 h2 h3 λc u hu=>?_,h⟩;rw [hx] at hu;obtain ⟨A,cap,rfl,_⟩:=tO hu;simp [Builtin.len_,ay ht]
   rfl
  ·rename_i e b q s off n ht hx;refine ⟨_,xX ho h1 h2 h3 λc u hu=>?_,h⟩;rw [hx] at hu;obtain ⟨A,cap,rfl,_⟩:=p8 hu;simp [Builtin.len_,ay ht]
   rfl
  ·rename_i e ht hx;refine ⟨_,xX (n:=0) ho h1 h2 h3 λc u hu=>?_,h⟩;rw [hx] at hu;obtain rfl:=eX hu;simp [Builtin.len_,ay ht]
   rfl
  ·rename_i s ht hx;refine ⟨_,xX ho h1 h2 h3 λc u hu=>?_,h⟩;rw [hx] at hu;obtain ⟨rfl,_⟩:=iR hu;simp [Builtin.len_,ay ht]
   rfl
  ·rename_i n e ht;refine ⟨_,xX ho h1 h2 h3 λc u hu=>?_,h⟩;simp [Builtin.len_,ay ht]
   rfl
  exact h.elim
 ·rename_i x y h1 h2
  split at h
  ·rename_i k a k' b hx hy;exact ⟨_,KJ ho h1 h2 hx hy,h⟩
  exact h.elim
 ·rename_i x y h1 h2
  split at h
  ·rename_i k a k' b hx hy;exact ⟨_,KL ho h1 h2 hx hy,h⟩
  exact h.elim
 simp_all
theorem DL {K:AV->Prop} (h:xI P ρ o.op K):∃ r,xP P o ρ r/\K r:=by
 unfold xI at h
 split at h
 case h_1 x ho=>exact ⟨_,EB<|.inl ho,AV.force_iff.1 h⟩
 case h_2 x ho=>exact ⟨_,EB<|.inr ho,AV.force_iff.1 h⟩
 case h_3 c x y ho=>
  split at h
  ·rename_i b hb;refine ⟨_,ID ho hb,?_⟩;rcases h.elim with ⟨rfl,k⟩ | ⟨rfl,k⟩
   ·exact AV.force_iff.1 k
   exact AV.force_iff.1 k
  exact h.elim
 case h_4 x ho=>
  split at h
  ·rename_i row j hx;refine ⟨ρ x,Gz ho λc u hu=>?_,by rw [hx];exact h⟩;rw [hx] at hu;exact Bz hu
  ·rename_i b q s i j hx;refine ⟨ρ x,Gz ho λc u hu=>?_,by rw [hx];exact h⟩;rw [hx] at hu;exact BB hu
  exact h.elim
 case h_5 t x ho=>
  split at h
  ·rename_i row j hx;obtain ⟨r,hp,hK⟩:=xS h;exact ⟨r,IC ho hx hp,hK⟩
  exact h.elim
 case h_6 op t x y t2 ho=>
  obtain ⟨r,hb,hK⟩:=Mo h;exact ⟨r,KG ho hb,hK⟩
 case h_7 op t x ho=>
  unfold aun at h
  split at h
  ·rename_i b hx;exact ⟨_,KH ho hx,h⟩
  ·rename_i k n hx;exact ⟨_,KI ho hx h.1,h.2⟩
  exact h.elim
 case h_8 s d x ho=>
  unfold Hl at h
  split at h
  ·rename_i ds k k2 n hs hd hx;exact ⟨_,IE ho hs hd hx h.1,h.2⟩
  ·rename_i ds b hs hd hx;exact ⟨_,Hp ho hs hd hx,h⟩
  exact h.elim
 case h_9 t x ho=>
  split at h
  ·exact h.elim
  ·exact h.elim
  rename_i hd hn
  cases hu:P.underlying t with
  | none=>exact absurd hu hn
  | some d=>exact ⟨_,Hq ho hu λms e=>hd ms (by rw [hu,e]),(AV.force_iff (K:=λx=>K<|.ifc t x)).1 h⟩
 case h_10 f first p6 ho=>
  obtain ⟨hk,k⟩:=h.elim;obtain rfl:first = #[]:=Rp (by simpa using hk);exact ⟨_,IG ho,k⟩
 case h_11 s x f ho=>
  split at h
  ·rename_i fs hs
   split at h
   ·rename_i fl row j hf hx;exact ⟨_,FC ho hs hf (by simpa using h.elim.1) hx,h.elim.2⟩
   ·rename_i fl b q z i j hf hx;exact ⟨_,FD ho hs hf (by simpa using h.elim.1) hx,h.elim.2⟩
   exact h.elim
  exact h.elim
 case h_12 t x f ho=>
  split at h
  ·rename_i fs hs
   split at h
   ·rename_i fl cs hf hx;obtain ⟨r,hp,hK⟩:=xS h;exact ⟨r,Hr ho hs hf hx hp,hK⟩
   exact h.elim
  exact h.elim
 case h_13 t x i ho=>
  obtain ⟨r,hb,hK⟩:=DJ h;exact ⟨r,CG ho hb,hK⟩
 case h_14 t x i ho=>
  obtain ⟨r,hb,hK⟩:=II h;exact ⟨r,Hs ho hb,hK⟩
 case h_15 t x lo hi mx ho=>
  obtain ⟨r,hb,hK⟩:=IJ h;exact ⟨r,Ht ho hb,hK⟩
 case h_16 x i ho=>
  split at h
  ·rename_i xs hx;exact ⟨_,EC ho hx<|of_decide_eq_true h.elim.1,AV.force_iff.1 h.elim.2⟩
  exact h.elim
 case h_17 t parts ho=>exact Hu ho h
 case h_18 cl ho=>exact EE ho h
 simp_all
end
section
variable {P:Program}
def Cx.new (c:Cx) (k:ABlk) (cs:Array Value):Cx:={ w:=c.w.alloc (.cells cs k.ty),fz:=c.fz,H:=c.H++[QZ k],φ:=λb=>if b=c.H.length then (c.w.heap.size,0) else c.φ b }
theorem FE {c:Cx} {b:Nat} {k:ABlk} (h:c.live b k):b<c.H.length:=(ges h).1
theorem Cx.new_live {c:Cx} {k:ABlk} {cs:Array Value} {b:Nat} {k':ABlk} (h:(c.new k cs).live b k'):(b=c.H.length/\k'=k)\/(b<c.H.length/\c.live b k'):=by
 unfold Cx.live Cx.new at h;simp only at h;rcases Nat.lt_trichotomy b c.H.length with hlt | rfl | hgt
 ·rw [gal hlt] at h;exact .inr ⟨hlt,h⟩
 ·rw [gar (Q7 _),Nat.sub_self] at h;simp only [Rq,sie] at h;exact .inl ⟨rfl,h.symm⟩
 grind
theorem Cx.new_live_new (c:Cx) (k:ABlk) (cs:Array Value):(c.new k cs).live c.H.length k:=by
 unfold Cx.live Cx.new;simp
theorem Cx.new_born {c:Cx} {k:ABlk} {cs:Array Value} {b ver:Nat} (h:c.born b ver):(c.new k cs).born b ver:=by
 unfold Cx.born at *;have hlt:b<c.H.length:=by
  rcases Rs b c.H.length with h1 | h1
  ·exact h1
  simp_all
 simp only [Cx.new,gal hlt];exact h
theorem iz {c:Cx} {b ver:Nat} (h:c.born b ver):b<c.H.length:=by
 unfold Cx.born at h
 grind
theorem Cx.hd_some {c:Cx} {b ver:Nat} {x:HI} (h:c.hd b ver=QZ x):∃ k,c.live b k/\k.ver=ver/\∃ o,c.w.heap[(c.φ b).1]? = QZ o/\hdo k (c.φ b) o=QZ x:=by
 unfold Cx.hd at h
 split at h
 ·rename_i k hk
  split at h
  ·rename_i hv;obtain ⟨o,hc,hx⟩:=Option.bind_eq_some_iff.1 h;exact ⟨k,hk,hv,o,hc,hx⟩
  cases h
 grind
theorem Cx.hd_of {c:Cx} {b:Nat} {k:ABlk} {o:Obj} (hl:c.live b k) (hc:c.w.heap[(c.φ b).1]? = QZ o):c.hd b k.ver=hdo k (c.φ b) o:=by
 unfold Cx.live at hl;unfold Cx.hd
 simp_all
theorem BRel.cells {c:Cx} {b:Nat} {k:ABlk} {cs:Array Value} {fr:Option (Nat×Nat)} (hB:BRel c b k cs fr) (hl:c.live b k) (h:∀ x,c.hd b k.ver=QZ x->x.s=k.s) :
  ∃ f,fr=QZ f/\c.w.heap[(c.φ b).1]? = QZ (.cells cs k.ty f)/\c.hd b k.ver=QZ ⟨(c.φ b).1,(c.φ b).2,k.s,k.rows.length,cs.size⟩:=by
 have h1:=Cx.hd_of hl hB.at_
 cases fr with
 | some f=>exact ⟨f,rfl,hB.at_,h1⟩
 | none=>
  have h2:k.s+1=k.s:=h _ h1;omega
theorem Cx.new_ext {c:Cx} (hr:HRel c) (k:ABlk) (cs:Array Value):Ext c (c.new k cs) where
 os:=rfl
 tape:=rfl
 output:=rfl
 size:=by simp [Cx.new]
 keep:=λg hg _=>Below.heap_alloc _ _ _ hg
 fz:=λ_ h=>h
 wN:=λ_ h => .inl h
 N:=by simp [Cx.new]
 born:=λ_ _ h=>Cx.new_born h
 hd:=λb ver x hb hx=>by
  obtain ⟨k',hl,hv,o,hc,hx'⟩:=Cx.hd_some hx;have hlt:=iz hb;rcases Cx.new_live hl with ⟨rfl,_⟩ | ⟨_,hl'⟩
  ·omega
  have e:(c.new k cs).φ b=c.φ b:=if_neg (by omega);rw [e] at hc hx';have hh:c.w.heap[(c.φ b).1]? = QZ o:=by
   rw [<- hc];exact (Below.heap_alloc _ _ _<|hr.live_lt hl').symm
  rw [<- hv];exact (Cx.hd_of hl' hh).trans hx'
 iG:=λb k' hl=>by
  rcases Cx.new_live hl with ⟨rfl,rfl⟩ | ⟨hlt,hl'⟩
  ·left
   simp [Cx.new]
  right
  exact ⟨b,k',hl',by rw [show (c.new k cs).φ b=c.φ b from if_neg (by omega)]⟩
theorem Cx.new_rel {c:Cx} (hr:HRel c) (k:ABlk) (cs:Array Value) (hs:0<k.s) (hf:k.rows.length*k.s<=cs.size) (hl:∀ (i:Nat) (row:List AV),k.rows[i]? = QZ row->row.length=k.s)
  (h:∀ (i:Nat) (row:List AV) (j:Nat) (a:AV),k.rows[i]? = QZ row->row[j]? = QZ a->∃ u,cs[i*k.s+j]? = QZ u/\u.oneCell'=QX/\c.rel a u):HRel (c.new k cs) where
 gl:=hr.glx<|Cx.new_ext hr k cs
 lt:=λg hg=>by
  have := hr.lt g hg;simp [Cx.new];omega
 blk:=λb k' hb=>by
  rcases Cx.new_live hb with ⟨rfl,rfl⟩ | ⟨hlt,hl'⟩
  ·refine ⟨cs,QZ (0,0),?_⟩;have e:(c.new k' cs).φ c.H.length=(c.w.heap.size,0):=if_pos rfl;refine ⟨by rw [e];exact heap_alloc_new _ _,by rw [e];exact λhz=>Nat.lt_irrefl _<|hr.lt _ hz,hs,λf hf i _=>by grind,by simp_all,hl,λi row j a h1 h2=>?_⟩;obtain ⟨u,h3,h4,h5⟩:=h i row j a h1 h2;exact ⟨u,by simp_all,h4,h5.ext hr<|Cx.new_ext hr k' cs⟩
  obtain ⟨cs',fr,hB⟩:=hr.blk b k' hl';have e:(c.new k cs).φ b=c.φ b:=if_neg (by omega);refine ⟨cs',fr,⟨by rw [e];exact (Below.heap_alloc _ _ _<|hr.live_lt hl').trans hB.at_,by rw [e];exact hB.nf,hB.pos,hB.free,by rw [e];exact hB.fits,hB.len,λi row j a h1 h2=>?_⟩⟩;obtain ⟨u,h3,h4,h5⟩:=hB.rel i row j a h1 h2;exact ⟨u,by simp_all,h4,h5.ext hr<|Cx.new_ext hr k cs⟩
 inj:=λb b' k1 k2 h1 h2 hne=>by
  rcases Cx.new_live h1 with ⟨rfl,rfl⟩ | ⟨hlt,hl'⟩
  ·rcases Cx.new_live h2 with ⟨rfl,rfl⟩ | ⟨hlt2,hl2⟩
   ·omega
   have := hr.live_lt hl2;rw [show (c.new k1 cs).φ c.H.length=(c.w.heap.size,0) from if_pos rfl,show (c.new k1 cs).φ b'=c.φ b' from if_neg (by omega)];omega
  rcases Cx.new_live h2 with ⟨rfl,rfl⟩ | ⟨hlt2,hl2⟩
  ·have := hr.live_lt hl';rw [show (c.new k2 cs).φ c.H.length=(c.w.heap.size,0) from if_pos rfl,show (c.new k2 cs).φ b=c.φ b from if_neg (by omega)];omega
  rw [show (c.new k cs).φ b=c.φ b from if_neg (by omega),show (c.new k cs).φ b'=c.φ b' from if_neg (by omega)];exact hr.inj b b' k1 k2 hl' hl2 hne
theorem Cx.new_hd (c:Cx) (k:ABlk) (cs:Array Value):(c.new k cs).hd c.H.length k.ver=QZ ⟨c.w.heap.size,0,k.s,k.rows.length,cs.size⟩:=by
 have := Cx.hd_of (c:=c.new k cs) (o:=.cells cs k.ty (0,0)) (Cx.new_live_new c k cs) (by
  rw [show (c.new k cs).φ c.H.length=(c.w.heap.size,0) from if_pos rfl];exact heap_alloc_new _ _)
 rw [show (c.new k cs).φ c.H.length=(c.w.heap.size,0) from if_pos rfl] at this;exact this
theorem Cx.new_bornN (c:Cx) (k:ABlk) (cs:Array Value):(c.new k cs).born c.H.length k.ver:=by
 unfold Cx.born Cx.new;simp
theorem Cx.new_hp (c:Cx) (k:ABlk) (cs:Array Value) (i j:Nat):(c.new k cs).rel (.hp c.H.length k.ver k.s i j) (.pointer<|QZ ⟨c.w.heap.size,i*k.s+j,Q0⟩):=by
 refine .hp (Cx.new_bornN c k cs) λx hx=>?_;rw [Cx.new_hd] at hx
 grind
theorem Cx.new_hs (c:Cx) (k:ABlk) (cs:Array Value) {n cap:Nat} (hn:n<=k.rows.length) (hc:n<=cap) (hm:cap<=9223372036854775807) (hs:cap*k.s<=cs.size):(c.new k cs).rel (.hs c.H.length k.ver k.s 0 n) (.slice (QZ ⟨c.w.heap.size,0,Q0⟩) n cap):=by
 refine .hs (Cx.new_bornN c k cs) hc hm (λ_=>⟨_,rfl⟩) λx hx=>?_;rw [Cx.new_hd] at hx
 grind
end
section
variable {P:Program} {o:Oper} {ρ:Operand->AV}
def KM (P:Program) (o:Oper) (ρ:Operand->AV) (H:AH) (k:ABlk) (r:AV):Prop:=∀ (c:Cx) (a:Act),c.H=H->HRel c->(∀ x∈o.op.operands,c.rel (ρ x)<|a.eval x)->∃ cs v,(execOp a.eval o).run P c.w = .ok (.value v) (c.new k cs).w/\HRel (c.new k cs)/\(c.new k cs).rel r v
theorem DN {r:AV} {H:AH} {k:ABlk} (hr:KM P o ρ H k r):QC P o ρ H r (H++[QZ k]):=by
 intro c a K Q hH hc hx hK;obtain ⟨cs,v,h1,h2,h3⟩:=hr c a hH hc hx;unfold Oper.wp;rw [h1];exact hK v _ (by rw [<- hH];rfl) h2 (Cx.new_ext hc k cs) h3
theorem CsRel.get {c:Cx} {cs:List AV} {vs:Array Value} (h:CsRel c cs vs) {j:Nat} {a:AV} (hj:cs[j]? = QZ a):∃ u,vs[j]? = QZ u/\u.oneCell'=QX/\c.rel a u:=by
 have hlt:=(ges hj).1;have hz:=h.size;have hv:vs[j]? = QZ vs[j]:=Ri (by omega);exact ⟨_,hv,h.one _ _ hv,h.rel j a _ hj hv⟩
theorem C0 {t:TypeId} {i:TypeInfo} {z:Value} {H:AH} (ho:o.op = .alloc t) (hi:P.info? t=QZ i) (hz:i.zero=QZ z) (h0:0<(dW z).length) (h1:oQ z.cells=QX) :
  KM P o ρ H ⟨0,(dW z).length,t,[dW z]⟩ (.hp H.length 0 (dW z).length 0 0):=by
 intro c a hH hc hx;have hz':=yQ c h1;have hsz:=hz'.size;refine ⟨z.cells,.pointer<|QZ ⟨c.w.heap.size,0,Q0⟩,?_,Cx.new_rel hc _ _ h0 (by simp_all) (λi row h=>?_) λi row j a h1 h2=>?_,?_⟩
 ·rw [execOp,ho];refine (?_:Sem.run P _ c.w=_);have : (Instr.alloc t QX<|.tuple #[]).run P c.w = .ok (.pointer<|QZ ⟨c.w.heap.size,0,Q0⟩) (c.w.alloc<|.cells z.cells t):=by
   simp [Instr.alloc,zeroValue,typeInfo,hi,hz,newVar,newRow]
  simp only [Sem.run_bind,this,Result.andThen_ok,Sem.run_pure]
  rfl
 ·grind
 ·match i,h1 with
  | 0,h1=>
   simp only [Rq,sie] at h1;subst h1;simpa using hz'.get h2
  | i+1,h1=>grind
 subst hH;have := Cx.new_hp c ⟨0,(dW z).length,t,[dW z]⟩ z.cells 0 0
 simp_all
theorem IK {t:TypeId} {i:TypeInfo} {z:Value} {H:AH} (ho:o.op = .alloc t) (hi:P.info? t=QZ i) (hz:i.zero=QZ z) (h0:0<(dW z).length) (h1:oQ z.cells=QX) :
 QC P o ρ H (.hp H.length 0 (dW z).length 0 0) (H++[QZ ⟨0,(dW z).length,t,[dW z]⟩]):=DN<|C0 ho hi hz h0 h1
theorem GD {t:TypeId} {x:Operand} {cs:List AV} {H:AH} (ho:o.op = .box t x) (hc:(ρ x).cells=QZ cs) (h0:0<cs.length) :
  KM P o ρ H ⟨0,cs.length,t,[cs]⟩ (.hp H.length 0 cs.length 0 0):=by
 intro c a hH hr hx;have hx1:=hx x (by rw [ho];simp [Op.operands]);have hz':=xW hx1 hc;have hsz:=hz'.size;refine ⟨(a.eval x).cells,.pointer<|QZ ⟨c.w.heap.size,0,Q0⟩,?_,Cx.new_rel hr _ _ h0 (by simp_all) (λi row h=>?_) λi row j a h1 h2=>?_,?_⟩
 ·rw [execOp,ho];refine (?_:Sem.run P _ c.w=_);have : (Instr.box t<|a.eval x).run P c.w = .ok (.pointer<|QZ ⟨c.w.heap.size,0,Q0⟩) (c.w.alloc<|.cells (a.eval x).cells t):=by
   simp [Instr.box,newVar,newRow]
  simp only [Sem.run_bind,this,Result.andThen_ok,Sem.run_pure]
  rfl
 ·grind
 ·match i,h1 with
  | 0,h1=>
   simp only [Rq,sie] at h1;subst h1;simpa using hz'.get h2
  | i+1,h1=>grind
 subst hH;have := Cx.new_hp c ⟨0,cs.length,t,[cs]⟩ (a.eval x).cells 0 0
 simp_all
theorem Mq {t:TypeId} {x:Operand} {cs:List AV} {H:AH} (ho:o.op = .box t x) (hc:(ρ x).cells=QZ cs) (h0:0<cs.length) :
 QC P o ρ H (.hp H.length 0 cs.length 0 0) (H++[QZ ⟨0,cs.length,t,[cs]⟩]):=DN<|GD ho hc h0
end
theorem BK:∀ (l:List<|Option<|List AV) (rows:List<|List AV),kQ l=QZ rows->l.length=rows.length/\∀ (i:Nat) (row:List AV),rows[i]? = QZ row->l[i]? = QZ (QZ row)
 | [],rows,h=>by simp [kQ] at h;simp_all
 | none::_,rows,h=>by simp [kQ] at h
 | some c::r,rows,h=>by
  simp only [kQ] at h
  split at h
  ·rename_i cs hcs;injection h with h;subst h;obtain ⟨h1,h2⟩:=BK r cs hcs;refine ⟨by simp [h1],λi row hi=>?_⟩
   match i,hi with
   | 0,hi=>simpa using hi
   | i+1,hi=>simpa using h2 i row (by simpa using hi)
  grind
theorem BL (size:Nat):∀ (aps:List<|Nat×AV) (rows:List<|List AV) (k:Nat) (out0:List AV),aps.map (·.1)=List.range' k aps.length->aps.length=rows.length ->
  (∀ (i:Nat) (p:Nat×AV) (row:List AV),aps[i]? = QZ p->rows[i]? = QZ row->p.2.cells=QZ row/\row.length=size)->out0.length=(k+aps.length)*size ->
  ∃ out,Bw (λq=>QZ (q*size,size)) out0 aps=QZ out/\out.length=out0.length/\(∀ q,q<k*size->out[q]? = out0[q]?) /\
   ∀ (i:Nat) (row:List AV) (j:Nat),rows[i]? = QZ row->j<size->out[(k+i)*size+j]? = row[j]?
 | [],rows,k,out0,_,hl,_,_=>⟨out0,rfl,rfl,λ_ _=>rfl,λi row j h=>by
  simp_all⟩
 | (m,x)::aps,[],k,out0,_,hl,_,_=>by grind
 | (m,x)::aps,row0::rows,k,out0,hk,hl,hr,ho=>by
  simp only [List.map_cons,llc,List.range'_succ,List.cons.injEq] at hk;obtain ⟨rfl,hk⟩:=hk;obtain ⟨hx,hrl⟩:=hr 0 _ _ rfl rfl;simp only [llc] at ho hl;have hfit:m*size+size<=out0.length:=by
   rw [ho,Q5,Q5];omega
  obtain ⟨out,h1,h2,h3,h4⟩:=BL size aps rows (m+1) (splice out0 (m*size) row0) hk (by omega) (λi p row h1 h2=>hr (i+1) p row (by simp_all)<|by simp_all)
   (by rw [pz _ _ _ (by omega),ho];grind)
  refine ⟨out,?_,by rw [h2,pz _ _ _ (by omega)],λq hq=>?_,λi row j hi hj=>?_⟩
  ·simp only [Bw]
   simp_all
  ·rw [h3 q (by grind),vZ _ _ _ (by omega),if_neg (by omega)]
  match i,hi with
  | 0,hi=>
   simp only [Rq,sie] at hi;subst hi;rw [Ro,h3 _ (by rw [Q5];omega),vZ _ _ _ (by omega),if_pos (by omega)]
   simp_all
  | i+1,hi=>
   grind
section
variable {P:Program} {o:Oper} {ρ:Operand->AV}
theorem GF (zero:Array Value) (n q:Nat) (hq:q<n) (hz:0<zero.size):((Q6 n).map (zero[· % zero.size]!))[q]? = zero[q % zero.size]? := by
 have h1:q % zero.size<zero.size:=Nat.mod_lt _ hz
 simp_all
theorem p9 {t e:TypeId} {n:Nat} {parts:Array (Nat×Operand)} {rows:List (List AV)} {H:AH} (ho:o.op = .buildSlice t n parts) (ht:P.underlying t=QZ (.slice e)) (hall:kQ (parts.toList.map λp=>(ρ p.2).cells)=QZ rows)
  (h0:0<P.cellsOf e) (hn:n*P.cellsOf e<=16777216) (hd:parts.toList.map (·.1)=Q9 n) (hz:(((P.info? e).bind (·.zero)).map λz=>z.cells.size)=QZ (P.cellsOf e)) (hz1:(((P.info? e).bind (·.zero)).map λz=>oQ z.cells)=QZ QX)
  (hl:∀ row∈rows,row.length=P.cellsOf e):KM P o ρ H ⟨0,P.cellsOf e,e,rows⟩ (.hs H.length 0 (P.cellsOf e) 0 n):=by
 obtain ⟨hal,hag⟩:=BK _ _ hall;have hpn:parts.toList.length=n:=by
  have := congrArg List.length hd;simpa using this
 have hrn:rows.length=n:=by rw [<- hal];simpa using hpn
 cases hi:P.info? e with
 | none=>simp_all
 | some i=>
  cases hzz:i.zero with
  | none=>simp_all
  | some z=>
   simp only [hi,Option.bind_some,hzz,Rf,sie] at hz hz1;intro c a hH hr hx;have hsize:(sizeOf e).run P c.w = .ok (P.cellsOf e) c.w:=run_sizeOf c.w hi;have hzero:(zeroValue e).run P c.w = .ok z c.w:=by simp [zeroValue,typeInfo,hi,hzz]
   have hone:∀ (q:Nat) (u:Value),z.cells[q]? = QZ u->u.oneCell'=QX:=λq u hu=>by
    rw [Bv,Array.all_eq_true] at hz1
    grind
   have hcs0:CsRel c (Rb (n*P.cellsOf e) .top) ((Q6<|n*P.cellsOf e).map (z.cells[· % z.cells.size]!)):=by
    refine ⟨by simp,λq u hu=>?_,λq a' u ha _=>?_⟩
    ·have hq:q<n*P.cellsOf e:=by
      have := (Array.getElem?_eq_some_iff.1 hu).1;simpa using this
     rw [GF _ _ _ hq (by omega)] at hu
     grind
    have := Rk ha;rw [List.mem_replicate] at this;rw [this.2];exact .top
   obtain ⟨out,f1,f2,_,f4⟩:=BL (P.cellsOf e) (parts.toList.map λp=>(p.1,ρ p.2)) rows 0 (Rb (n*P.cellsOf e) .top) (by
     rw [List.map_map,llm,hpn,<- List.range_eq_range'];exact hd) (by simp_all) (λi p row h1 h2=>by
     grind) (by grind)
   obtain ⟨vs,g1,g2⟩:=DK (c:=c) _ _ ((parts.map λ(i,x)=>(i,a.eval x)).toList) _ _ _ (by simp) (λi p q hp hq=>by
     simp only [Re,Ra,Array.toList_map] at hp hq;obtain ⟨y,hy,rfl⟩:=hp;obtain ⟨y',hy',rfl⟩:=hq;rw [hy] at hy';injection hy' with hy';subst hy';refine ⟨rfl,hx _ ?_⟩;rw [ho];simp only [Op.operands,List.mem_toArray,Rw]
     grind) hcs0 f1
   have hvs:vs.size=n*P.cellsOf e:=by rw [g2.size,f2];simp
   have hcase:n*P.cellsOf e=0->n=0:=λh=>by
    rcases Nat.mul_eq_zero.1 h with h | h
    ·exact h
    omega
   refine ⟨vs,.slice (QZ ⟨c.w.heap.size,0,Q0⟩) n n,?_,Cx.new_rel hr _ _ h0 (by simp_all) (λi row h=>hl row<|Rk h) λi row j a' h1 h2=>?_,?_⟩
   ·rw [execOp,ho];refine (?_:Sem.run P _ c.w=_);have : (Instr.buildSlice t n<|parts.map λ(i,x)=>(i,a.eval x)).run P c.w = .ok (.slice (QZ ⟨c.w.heap.size,0,Q0⟩) n n) (c.w.alloc<|.cells vs e):=by
     simp only [Instr.buildSlice,Sem.run_bind,ay ht,Result.andThen_ok,hsize];rw [if_neg (by omega)]
     by_cases h0':n*P.cellsOf e=0
     ·rw [if_pos h0'];have hn0:=hcase h0';subst hn0;have hp0:parts = #[]:=by
       cases parts with
       | mk l=>simp_all
      subst hp0;have hv0:vs = #[]:=Rp (by omega);subst hv0;have h00:∀ f:Nat->Value,Array.map f (Q6 0) = #[]:=λf=>Rp (by simp);simp [Instr.fill,newRow,h00]
     rw [if_neg h0'];simp only [Sem.run_bind,hzero,Result.andThen_ok,Sem.run_pure,g1];simp [newRow]
    simp only [Sem.run_bind,this,Result.andThen_ok,Sem.run_pure]
    rfl
   ·have hjr:=hl row<|Rk h1;have hj:j<P.cellsOf e:=by
     have := (ges h2).1;omega
    have := f4 i row j h1 hj;rw [Nat.zero_add,h2] at this;exact g2.get this
   subst hH;have := Cx.new_hs c ⟨0,P.cellsOf e,e,rows⟩ vs (n:=n) (cap:=n) (by simp [hrn]) (Q7 _) (by
    have : n<=n*P.cellsOf e:=Nat.le_mul_of_pos_right n h0;omega) (by simp only;omega)
   omega
theorem CH {t e:TypeId} {n:Nat} {parts:Array (Nat×Operand)} {rows:List (List AV)} {H:AH} (ho:o.op = .buildSlice t n parts) (ht:P.underlying t=QZ (.slice e)) (hall:kQ (parts.toList.map λp=>(ρ p.2).cells)=QZ rows)
 (h0:0<P.cellsOf e) (hn:n*P.cellsOf e<=16777216) (hd:parts.toList.map (·.1)=Q9 n) (hz:(((P.info? e).bind (·.zero)).map λz=>z.cells.size)=QZ (P.cellsOf e)) (hz1:(((P.info? e).bind (·.zero)).map λz=>oQ z.cells)=QZ QX)
 (hl:∀ row∈rows,row.length=P.cellsOf e):QC P o ρ H (.hs H.length 0 (P.cellsOf e) 0 n) (H++[QZ ⟨0,P.cellsOf e,e,rows⟩]):=DN<|p9 ho ht hall h0 hn hd hz hz1 hl
theorem IL {n:Int} (h0:0<=n) (h1:n<=9223372036854775807):IntKind.i64.wrap n=n:=IntWalk.i64_in n ⟨by omega,h1⟩
theorem DR {t e:TypeId} {lo co:Operand} {l k:Int} {z:Value} {H:AH} (ho:o.op = .makeSlice t lo co) (ht:P.underlying t=QZ (.slice e)) (hlo:ρ lo = .v (.int .i64 l)) (hco:ρ co = .v (.int .i64 k)) (hz:(P.info? e).bind (·.zero)=QZ z)
  (h0:0<=l) (h1:l<=k) (hb:k*(P.bytesOf e:Int)<=140737488355328) (hk:k<=140737488355328) (hs:0<P.cellsOf e) (hzs:(dW z).length=P.cellsOf e) (hz1:oQ z.cells=QX) :
  QC P o ρ H (.hs H.length 0 (P.cellsOf e) 0 l.toNat) (H++[QZ ⟨0,P.cellsOf e,e,Rb k.toNat<|dW z⟩]):=by
 cases hi:P.info? e with
 | none=>simp_all
 | some i=>
  simp only [hi,Option.bind_some] at hz;have hby:P.bytesOf e=i.bytes:=by simp [Program.bytesOf,hi]
  have hce:P.cellsOf e=i.size:=by simp [Program.cellsOf,hi]
  have hzsz:z.cells.size=P.cellsOf e:=by simpa [dW] using hzs
  refine DN λc a hH hr hx=>?_;have hl1:=(iR<|hlo ▸ hx lo (by rw [ho];simp [Op.operands])).1;have hk1:=(iR<|hco ▸ hx co (by rw [ho];simp [Op.operands])).1;have hzc:=yQ c hz1;have hsize:(sizeOf e).run P c.w = .ok (P.cellsOf e) c.w:=run_sizeOf c.w hi;have hzero:(zeroValue e).run P c.w = .ok z c.w:=by simp [zeroValue,typeInfo,hi,hz]
  refine ⟨(Q6<|k.toNat*P.cellsOf e).map (z.cells[· % z.cells.size]!),.slice (QZ ⟨c.w.heap.size,0,Q0⟩) l.toNat k.toNat,?_,Cx.new_rel hr _ _ hs (by simp) (λq row h=>?_) λq row j a' h1' h2=>?_,?_⟩
  ·rw [execOp,ho];refine (?_:Sem.run P _ c.w=_);have hneg : ¬ ((((Q3 (k<0)||Q3 (i.bytes*k>2 ^ 48))||Q3 (l<0))||Q3 (l>k))=QX):=by
    simp only [Bool.or_eq_true,dte,not_or];rw [hby,Int.mul_comm] at hb;omega
   have : (Instr.makeSlice t (a.eval lo)<|a.eval co).run P c.w = .ok (.slice (QZ ⟨c.w.heap.size,0,Q0⟩) l.toNat k.toNat) (c.w.alloc (.cells ((Q6<|k.toNat*P.cellsOf e).map (z.cells[· % z.cells.size]!)) e)):=by
    rw [hl1,hk1];simp only [Instr.makeSlice,Sem.run_bind,ay ht,Result.andThen_ok,asInt,asIntOf,Sem.run_pure,run_typeInfo c.w hi,IL (n:=l) h0 (by omega),IL (n:=k) (by omega) (by omega)];rw [if_neg hneg];simp only [Sem.run_bind,run_askRoom,Result.andThen_ok,hsize]
    by_cases h00:k.toNat*P.cellsOf e=0
    ·rw [if_pos h00,h00];have h00':∀ f:Nat->Value,Array.map f (Q6 0) = #[]:=λf=>Rp (by simp);simp [newRow,h00']
    rw [if_neg h00];simp [hzero,newRow]
   simp only [Sem.run_bind,this,Result.andThen_ok,Sem.run_pure]
   rfl
  ·grind
  ·have hq:q<k.toNat:=by
    have := (ges h1').1;simpa using this
   have := Rk h1';rw [List.mem_replicate] at this;rw [this.2] at h2;have hj:j<P.cellsOf e:=by
    have := (ges h2).1;omega
   have hfit:q*P.cellsOf e+j<k.toNat*P.cellsOf e:=by
    have : (q+1)*P.cellsOf e<=k.toNat*P.cellsOf e:=Rj _ (by omega);rw [Q5] at this;omega
   simp only;rw [GF _ _ _ hfit (by omega),hzsz,Nat.mul_comm,Nat.mul_add_mod,Nat.mod_eq_of_lt hj];exact hzc.get h2
  subst hH;have := Cx.new_hs c ⟨0,P.cellsOf e,e,Rb k.toNat<|dW z⟩ ((Q6<|k.toNat*P.cellsOf e).map (z.cells[· % z.cells.size]!)) (n:=l.toNat) (cap:=k.toNat) (by simp;omega) (by omega) (by omega) (by simp);omega
theorem IM {t:TypeId} {x:Operand} {b ver s i j:Nat} {k:ABlk} {r:AV} {H:AH} (ho:o.op = .load t x) (hx:ρ x = .hp b ver s i j) (hb:H[b]? = QZ (QZ k)) (hv:k.ver=ver) (hs:k.s=s) (hi:i<k.rows.length) (hp:BD P t (k.rows.getD i []) j r):QC P o ρ H r H:=by
 intro c a K Q hH hr hxs hK;have h1:=hx ▸ hxs x (by rw [ho];simp [Op.operands]);generalize hu:a.eval x=u at h1
 cases h1 with
 | fr h=>cases h
 | @hp _ _ _ _ _ ad hbn hh=>
  have hl:c.live b k:=by unfold Cx.live;rw [hH];exact hb
  obtain ⟨cs,fr,hB⟩:=hr.blk b k hl;obtain ⟨fr,rfl,hat,hd⟩:=hB.cells hl λx hx=>(hh x<|hv ▸ hx).1.trans hs.symm;rw [hv] at hd;obtain ⟨_,rfl⟩:=hh _ hd;have hrow:Hn c (c.φ b).1 ((c.φ b).2+i*s) (k.rows.getD i []):=by
   intro q a' hq;have hri:k.rows[i]? = QZ (k.rows.getD i []):=by
    rw [List.getD,geq hi]
    rfl
   obtain ⟨u,h1,h2,h3⟩:=hB.rel i _ q a' hri hq;refine ⟨u,?_,h2,h3⟩;rw [<- hs,cell_of_row c.w _ _ cs k.ty fr hat];exact h1
  obtain ⟨v,hrun,hrel⟩:=vX hrow hp;unfold Oper.wp;have : (execOp a.eval o).run P c.w = .ok (.value v) c.w:=by
   rw [execOp,ho];simp only [hu];exact vg _ hrun
  rw [this];exact hK v c hH hr (Ext.refl c) hrel
end
section
variable {P:Program}
theorem mO (g o:Nat) (t:TypeId) (fr:Nat×Nat):∀ (vs:List Value) (i:Nat) (cur:Array Value) (w:World),w.heap[g]? = QZ (.cells cur t fr)->(∀ i,i<cur.size -> ¬ (fr.1<=i/\i<fr.2))->o+i+vs.length<=cur.size->(∀ v∈vs,v.oneCell'=QX) ->
  (storeCells ⟨g,o,Q0⟩ vs i).run P w = .ok () (w.setRow g (cur.toList.take (o+i)++vs++cur.toList.drop (o+i+vs.length)).toArray)
 | [],i,cur,w,hg,_,_,_=>by
  simp only [storeCells,List.append_nil,List.length_nil,Ro,List.take_append_drop,Array.toArray_toList];rw [setRow_self w g cur t fr hg]
  rfl
 | v::rest,i,cur,w,hg,hfz,hl,h1=>by
  have hi:o+i<cur.size:=by simp at hl;omega
  have hadd:(⟨g,o,Q0⟩:Addr).add i=⟨g,o+i,Q0⟩:=by unfold Addr.add;split <;> simp_all
  have hcell:w.cell? ⟨g,o+i,Q0⟩=QZ cur[o+i]:=by simp [World.cell?,hg,hi]
  have hfro:w.frozen? ⟨g,o+i,Q0⟩=QY:=by
   have := hfz _ hi;obtain ⟨lo,hi'⟩:=fr;simp only [World.frozen?,hg,Bool.and_eq_false_iff,decide_eq_false_iff_not];simp only at this;omega
  have hst:(store ((⟨g,o,Q0⟩:Addr).add i) v).run P w = .ok () (w.setRow g<|cur.setIfInBounds (o+i) v):=by
   rw [hadd,run_store P w _ v _ (h1 v<|by simp),hcell];simp [hfro,setCell_eq_setRow w g (o+i) cur t fr v hg]
  have ih:=mO g o t fr rest (i+1) (cur.setIfInBounds (o+i) v) (w.setRow g<|cur.setIfInBounds (o+i) v) (setRow_heap w g cur _ t _ hg) (by simpa using hfz) (by simp at hl ⊢;omega) (λx hx=>h1 x<|by simp [hx]);simp only [storeCells,Sem.run_bind,hst,Result.andThen_ok,ih,setRow_setRow]
  congr 3
  have e:=list_seg_step cur.toList (o+i) v rest (by simp at hl ⊢;omega);simpa [Array.toList_setIfInBounds,Nat.add_assoc] using e
def Cx.upd (c:Cx) (b:Nat) (k:ABlk) (p:Nat×Nat) (cs:Array Value):Cx:={ w:=c.w.setRow p.1 cs,fz:=c.fz,H:=c.H.set b (QZ k),φ:=λq=>if q=b then p else c.φ q }
theorem Cx.upd_live {c:Cx} {b q:Nat} {k k':ABlk} {p:Nat×Nat} {cs:Array Value} (h:(c.upd b k p cs).live q k'):(q=b/\k'=k)\/(q≠b/\c.live q k'):=by
 unfold Cx.live Cx.upd at h;simp only at h
 by_cases e:q=b
 ·grind
 rw [Rl (Ne.symm e)] at h;exact .inr ⟨e,h⟩
theorem Cx.upd_live_self {c:Cx} {b:Nat} {k k0:ABlk} {p:Nat×Nat} {cs:Array Value} (h:c.live b k0):(c.upd b k p cs).live b k:=by
 have := FE h;unfold Cx.live Cx.upd
 simp_all
theorem Cx.upd_φ {c:Cx} {b q:Nat} {k:ABlk} {p:Nat×Nat} {cs:Array Value} (hne:q≠b):(c.upd b k p cs).φ q=c.φ q:=if_neg hne
theorem Cx.upd_φ_self {c:Cx} {b:Nat} {k:ABlk} {p:Nat×Nat} {cs:Array Value}:(c.upd b k p cs).φ b=p:=if_pos rfl
theorem Cx.upd_ext {c:Cx} (hr:HRel c) {b:Nat} {k k0:ABlk} {o:Nat} {cs cs0:Array Value} {fr:Nat×Nat} (hl:c.live b k0) (hB:BRel c b k0 cs0<|QZ fr) (hsz:cs.size=cs0.size)
  (hv:(k.ver=k0.ver/\k.s=k0.s/\k.rows.length=k0.rows.length/\o=(c.φ b).2)\/k0.ver<k.ver):Ext c (c.upd b k ((c.φ b).1,o) cs) where
 os:=rfl
 tape:=rfl
 output:=rfl
 size:=by simp [Cx.upd]
 keep:=λg hg hn=>setRow_other _ _ _ _<|Ne.symm<|hn b k0 hl
 fz:=λ_ h=>h
 wN:=λ_ h => .inl h
 N:=by simp [Cx.upd]
 born:=λq ver h=>by
  unfold Cx.born at *
  by_cases e:q=b
  ·subst e;unfold Cx.live at hl;rw [hl] at h;simp only at h;have := Cx.upd_live_self (k:=k) (p:=((c.φ q).1,o)) (cs:=cs) hl;unfold Cx.live at this
   grind
  simp only [Cx.upd,Rl (Ne.symm e)];exact h
 hd:=λq ver x hb hx=>by
  obtain ⟨k',hl',rfl,o',hc,hx'⟩:=Cx.hd_some hx;rcases Cx.upd_live hl' with ⟨rfl,rfl⟩ | ⟨hne,hl2⟩
  ·rw [Cx.upd_φ_self] at hc hx';rcases hv with ⟨h1,h2,h3,h4⟩ | hv
   ·have e:=setRow_heap c.w (c.φ q).1 cs0 cs k0.ty fr hB.at_;have hc2:(c.w.setRow (c.φ q).1 cs).heap[(c.φ q).1]? = QZ o':=hc;rw [e] at hc2;obtain rfl:=osl hc2;rw [h1,Cx.hd_of hl hB.at_,<- hx'];simp only [hdo,Ml,h2,h3,hsz,h4]
   unfold Cx.born at hb;unfold Cx.live at hl
   grind
  rw [Cx.upd_φ hne] at hc hx';have hne2:(c.φ q).1≠(c.φ b).1:=hr.inj q b _ _ hl2 hl hne;have hc2:(c.w.setRow (c.φ b).1 cs).heap[(c.φ q).1]? = QZ o':=hc;rw [setRow_other _ _ _ _ hne2] at hc2;exact (Cx.hd_of hl2 hc2).trans hx'
 iG:=λq k' hl'=>by
  right
  rcases Cx.upd_live hl' with ⟨rfl,rfl⟩ | ⟨hne,hl2⟩
  ·exact ⟨q,k0,hl,by rw [Cx.upd_φ_self]⟩
  exact ⟨q,k',hl2,by rw [Cx.upd_φ hne]⟩
theorem Cx.upd_rel {c:Cx} (hr:HRel c) {b:Nat} {k k0:ABlk} {o:Nat} {cs cs0:Array Value} {fr:Nat×Nat} (hl:c.live b k0) (hB:BRel c b k0 cs0<|QZ fr) (hsz:cs.size=cs0.size) (hty:k.ty=k0.ty)
  (he:Ext c<|c.upd b k ((c.φ b).1,o) cs) (hs:0<k.s) (hf:o+k.rows.length*k.s<=cs.size) (hlen:∀ (i:Nat) (row:List AV),k.rows[i]? = QZ row->row.length=k.s)
  (h:∀ (i:Nat) (row:List AV) (j:Nat) (a:AV),k.rows[i]? = QZ row->row[j]? = QZ a->∃ u,cs[o+i*k.s+j]? = QZ u/\u.oneCell'=QX/\c.rel a u) (hse:k.s=k0.s:=by first | rfl | assumption | simp_all):HRel (c.upd b k ((c.φ b).1,o) cs) where
 gl:=hr.glx he
 lt:=λg hg=>by
  have := hr.lt g hg;simpa [Cx.upd] using this
 blk:=λq k' hq=>by
  rcases Cx.upd_live hq with ⟨rfl,rfl⟩ | ⟨hne,hl2⟩
  ·refine ⟨cs,QZ fr,⟨?_,by rw [Cx.upd_φ_self];exact hB.nf,hs,by rw [hsz,hse];exact hB.free,by rw [Cx.upd_φ_self];exact hf,hlen,λi row j a h1 h2=>?_⟩⟩
   ·rw [Cx.upd_φ_self];show _=QZ (Obj.cells cs k'.ty fr);rw [hty];exact setRow_heap c.w (c.φ q).1 cs0 cs k0.ty fr hB.at_
   obtain ⟨u,h3,h4,h5⟩:=h i row j a h1 h2;rw [Cx.upd_φ_self];exact ⟨u,h3,h4,h5.ext hr he⟩
  obtain ⟨cs',fr',hB'⟩:=hr.blk q k' hl2;have hne2:(c.φ q).1≠(c.φ b).1:=hr.inj q b _ _ hl2 hl hne;refine ⟨cs',fr',⟨?_,by rw [Cx.upd_φ hne];exact hB'.nf,hB'.pos,hB'.free,by rw [Cx.upd_φ hne];exact hB'.fits,hB'.len,λi row j a h1 h2=>?_⟩⟩
  ·rw [Cx.upd_φ hne];exact (setRow_other _ _ _ _ hne2).trans hB'.at_
  obtain ⟨u,h3,h4,h5⟩:=hB'.rel i row j a h1 h2;rw [Cx.upd_φ hne];exact ⟨u,h3,h4,h5.ext hr he⟩
 inj:=λq q' k1 k2 h1 h2 hne=>by
  have key:∀ q k1,(c.upd b k ((c.φ b).1,o) cs).live q k1->∃ k2,c.live q k2/\((c.upd b k ((c.φ b).1,o) cs).φ q).1=(c.φ q).1:=λq k1 h=>by
   rcases Cx.upd_live h with ⟨rfl,rfl⟩ | ⟨hne,hl2⟩
   ·exact ⟨k0,hl,by rw [Cx.upd_φ_self]⟩
   exact ⟨k1,hl2,by rw [Cx.upd_φ hne]⟩
  obtain ⟨x1,l1,e1⟩:=key q k1 h1;obtain ⟨x2,l2,e2⟩:=key q' k2 h2;rw [e1,e2];exact hr.inj q q' _ _ l1 l2 hne
end
theorem IP {α:Type} (row:List α) (j:Nat) (cs:List α) (h:j+cs.length<=row.length) (i:Nat):(row.take j++cs++row.drop (j+cs.length))[i]? = if j<=i/\i<j+cs.length then cs[i-j]? else row[i]? := by
 by_cases h1:i<j
 ·rw [if_neg (by omega),List.append_assoc,gal (by simp;omega),Rh,if_pos h1]
 grind
theorem GG {α:Type} (row:List α) (j:Nat) (cs:List α) (h:j+cs.length<=row.length):(row.take j++cs++row.drop (j+cs.length)).length=row.length:=by
 grind
theorem IQ {i i' j j' s:Nat} (hne:i≠i') (hj:j<s) (hj':j'<s):i*s+j≠i'*s+j':=by
 rcases Nat.lt_or_gt_of_ne hne with h | h
 ·have : (i+1)*s<=i'*s:=Rj _ (by omega)
  grind
 have : (i'+1)*s<=i*s:=Rj _ (by omega)
 grind
theorem Be {i n j s:Nat} (hi:i<n) (hj:j<=s):i*s+j<=n*s:=by
 have : (i+1)*s<=n*s:=Rj _ (by omega)
 grind
section
variable {P:Program} {o:Oper} {ρ:Operand->AV}
theorem IR {t:TypeId} {x y:Operand} {b ver s i j:Nat} {k:ABlk} {cs:List AV} {H:AH} (ho:o.op = .store t x y) (hx:ρ x = .hp b ver s i j) (hy:(ρ y).cells=QZ cs) (hb:H[b]? = QZ (QZ k)) (hv:k.ver=ver) (hs:k.s=s) (hi:i<k.rows.length)
  (hcs:cs.length=P.cellsOf t) (hj:j+cs.length<=s) (ht:(P.info? t).isSome=QX):QC P o ρ H .top (H.set b<|QZ { k with rows:=k.rows.set i (splice (k.rows.getD i []) j cs) }):=by
 intro c a K Q hH hr hxs hK;have h1:=hx ▸ hxs x (by rw [ho];simp [Op.operands]);have h2:=hxs y (by rw [ho];simp [Op.operands]);have hc:=xW h2 hy;have hcz:=hc.size;obtain ⟨ti,hti⟩:=lF ht;generalize hu:a.eval x=u at h1
 cases h1 with
 | fr h=>cases h
 | @hp _ _ _ _ _ ad hbn hh=>
  have hl:c.live b k:=by unfold Cx.live;rw [hH];exact hb
  obtain ⟨cur,fr,hB⟩:=hr.blk b k hl;obtain ⟨fr,rfl,hat,hd⟩:=hB.cells hl λx hx=>(hh x<|hv ▸ hx).1.trans hs.symm;rw [hv] at hd;obtain ⟨_,rfl⟩:=hh _ hd;have hfit:=hB.fits;have hr1:i*k.s+k.s<=k.rows.length*k.s:=Be hi<|Q7 _;have hrow0:k.rows[i]? = QZ (k.rows.getD i []):=by
   rw [List.getD,geq hi]
   rfl
  have hrl:=hB.len i _ hrow0;generalize k.rows.getD i []=row0 at *;have hle:(c.φ b).2+i*s+j+(a.eval y).cells.toList.length<=cur.toList.length:=by
   rw [Rx,Rx,hcz];rw [hs] at hr1 hfit;omega
  have hst:=mO (P:=P) (c.φ b).1 ((c.φ b).2+i*s+j) k.ty fr (a.eval y).cells.toList 0 cur c.w hat (hB.fre fr rfl) (by omega) (λv hv'=>by
   obtain ⟨q,hq⟩:=List.getElem?_of_mem hv';exact hc.one q v (by simp_all))
  rw [Ro] at hst;generalize hcs2:(cur.toList.take ((c.φ b).2+i*s+j)++(a.eval y).cells.toList++cur.toList.drop ((c.φ b).2+i*s+j+(a.eval y).cells.toList.length)).toArray=cs2 at hst;have hsz2:cs2.size=cur.size:=by
   rw [<- hcs2];have := GG cur.toList _ _ hle;simpa using this
  have hget:∀ q,cs2[q]? = if (c.φ b).2+i*s+j<=q/\q<(c.φ b).2+i*s+j+cs.length then (a.eval y).cells[q-((c.φ b).2+i*s+j)]? else cur[q]? := λq=>by
   rw [<- hcs2,List.getElem?_toArray,IP _ _ _ hle,Rx,hcz,Rn,Rn]
  have hext:=Cx.upd_ext (k:={ k with rows:=k.rows.set i (splice row0 j cs) }) (o:=(c.φ b).2) (cs:=cs2) hr hl hB hsz2 (.inl ⟨rfl,rfl,by simp,rfl⟩);have hrel:=Cx.upd_rel (k:={ k with rows:=k.rows.set i (splice row0 j cs) }) (o:=(c.φ b).2) (cs:=cs2) hr hl hB hsz2 rfl hext hB.pos (by simp_all) (λi' row' h=>by
    simp only at h
    by_cases e:i'=i
    ·subst e;rw [RD hi] at h;injection h with h;rw [<- h,pz _ _ _ (by rw [hrl];omega)];omega
    ·rw [Rl (Ne.symm e)] at h;exact hB.len i' row' h) (λi' row' j' a' h h'=>by
    simp only at h ⊢
    by_cases e:i'=i
    ·subst e;rw [RD hi] at h;injection h with h;rw [<- h,vZ _ _ _ (by omega)] at h';rw [hget]
     split at h'
     ·rename_i hj';rw [if_pos (by grind)];obtain ⟨u,g1,g2,g3⟩:=hc.get h';exact ⟨u,by rw [<- g1,hs];congr 1;omega,g2,g3⟩
     rename_i hj';rw [if_neg (by grind)];exact hB.rel i' row0 j' a' hrow0 h'
    rw [Rl (Ne.symm e)] at h;have hj'1:j'<row'.length:=(ges h').1;rw [hB.len i' row' h] at hj'1;rw [hget,if_neg (λhq=>?_)]
    ·exact hB.rel i' row' j' a' h h'
    have : i'*k.s+j'≠i*k.s+(i'*k.s+j'-i*s):=by
     refine IQ e hj'1 ?_;rw [hs] at hq ⊢;omega
    grind)
  unfold Oper.wp;have hrun:(execOp a.eval o).run P c.w = .ok .skip (c.upd b { k with rows:=k.rows.set i (splice row0 j cs) } ((c.φ b).1,(c.φ b).2) cs2).w:=by
   rw [execOp,ho];simp only [hu];have hsize:(sizeOf t).run P c.w = .ok (P.cellsOf t) c.w:=run_sizeOf c.w hti;have hne : ¬ ((a.eval y).cells.size≠P.cellsOf t):=by
    rw [hcz,hcs];simp
   simp only [Instr.storeAt,Instr.sureAddr,storeVar,Sem.run_bind,Sem.run_pure,Result.andThen_ok,hsize];rw [if_neg hne];simp only [hst,Result.andThen_ok]
   rfl
  rw [hrun];exact hK undef _ (by rw [<- hH];rfl) hrel hext .top
end
def GH (c:Cx) (g o s:Nat) (rows:List<|List AV):Prop:=(∀ (i:Nat) (row:List AV),rows[i]? = QZ row->row.length=s) /\
 ∀ (i:Nat) (row:List AV) (j:Nat) (a:AV),rows[i]? = QZ row->row[j]? = QZ a->∃ u,c.w.cell? ⟨g,o+(i*s+j),Q0⟩=QZ u/\u.oneCell'=QX/\c.rel a u
def C8 (c:Cx) (s:Nat) (rows:List<|List AV) (vs:List Value):Prop:=vs.length=rows.length*s/\(∀ v∈vs,v.oneCell'=QX) /\
 ∀ (i:Nat) (row:List AV) (j:Nat) (a:AV),rows[i]? = QZ row->row[j]? = QZ a->∃ u,vs[i*s+j]? = QZ u/\u.oneCell'=QX/\c.rel a u
theorem GH.list {c:Cx} {g o s:Nat} {rows:List (List AV)} (h:GH c g o s rows):∃ vs,C8 c s rows vs/\∀ (q:Nat) (u:Value),vs[q]? = QZ u->c.w.cell? ⟨g,o+q,Q0⟩=QZ u:=by
 obtain ⟨hl,h⟩:=h;have key:∀ q,q<rows.length*s->∃ u,c.w.cell? ⟨g,o+q,Q0⟩=QZ u/\u.oneCell'=QX:=λq hq=>by
  have hs:0<s:=by
   rcases Nat.eq_zero_or_pos s with h0 | h0
   ·subst h0;omega
   exact h0
  have h1:q / s<rows.length:=(Nat.div_lt_iff_lt_mul hs).2 hq;have h2:q % s<s:=Nat.mod_lt _ hs;have h3:q=q / s*s+q % s:=by rw [Nat.mul_comm];exact (Nat.div_add_mod q s).symm
  have hr:=geq h1;have hj:q % s<rows[q / s].length:=by rw [hl _ _ hr];exact h2
  obtain ⟨u,g1,g2,_⟩:=h _ _ _ _ hr<|geq hj;rw [<- h3] at g1;exact ⟨u,g1,g2⟩
 have hget:∀ q,q<rows.length*s->((Q9<|rows.length*s).map λq=>(c.w.cell? ⟨g,o+q,Q0⟩).getD undef)[q]? = c.w.cell? ⟨g,o+q,Q0⟩:=λq hq=>by
  obtain ⟨u,hu,_⟩:=key q hq;rw [Re,Rz hq,Rf,hu]
  rfl
 refine ⟨(Q9<|rows.length*s).map λq=>(c.w.cell? ⟨g,o+q,Q0⟩).getD undef,⟨by simp,λv hv=>?_,λi row j a h1 h2=>?_⟩,λq u hq=>?_⟩
 ·rw [Rw] at hv;obtain ⟨q,hq,rfl⟩:=hv;obtain ⟨u,hu,h1⟩:=key q (by simpa using hq);rw [hu];exact h1
 ·obtain ⟨u,g1,g2,g3⟩:=h i row j a h1 h2;have hi:i<rows.length:=(ges h1).1;have hj:j<s:=by
   have := (ges h2).1;rw [hl i row h1] at this;exact this
  have hf:=Be (s:=s) hi (j:=j+1) hj;exact ⟨u,by rw [hget _ (by omega)];exact g1,g2,g3⟩
 grind
structure SrcIs (P:Program) (c:Cx) (size:Nat) (v:Value) (news:List (List AV)) (vs:List Value):Prop where
 len:∀ w,(Builtin.lenOf v).run P w = .ok news.length w
 cells:∀ w,w.heap=c.w.heap->(Builtin.firstCells size news.length v).run P w = .ok vs.toArray w
 is:C8 c size news vs
 rows:∀ (i:Nat) (row:List AV),news[i]? = QZ row->row.length=size
section
variable {P:Program} {o:Oper} {ρ:Operand->AV}
theorem CI {w w':World} (h:w'.heap=w.heap) (a:Addr):w'.cell? a=w.cell? a:=by
 unfold World.cell?;rw [h]
theorem xY {c:Cx} {g oo size n cap:Nat} {A:Option Addr} {news:List (List AV)} (hn:news.length=n) (hA:0<n->A=QZ ⟨g,oo,Q0⟩) (hr:GH c g oo size news):∃ vs,SrcIs P c size (.slice A n cap) news vs:=by
 obtain ⟨vs,h1,h2⟩:=hr.list;refine ⟨vs,⟨λw=>by simp [Builtin.lenOf,hn],λw hw=>?_,h1,hr.1⟩⟩;rcases Nat.eq_zero_or_pos n with h0 | h0
 ·have hv:vs=[]:=List.eq_nil_of_length_eq_zero (by rw [h1.1,hn,h0,Nat.zero_mul]);subst hv
  cases A with
  | none=>simp [Builtin.firstCells]
  | some ad=>
   have := run_loadCells_list (P:=P) w ad [] (λj v h=>by grind);simp only [List.length_nil] at this;simp only [Builtin.firstCells,hn,h0,Nat.zero_mul,this]
 have hA':=hA h0;subst hA';have := run_loadCells_list (P:=P) w ⟨g,oo,Q0⟩ vs (λj v h=>by rw [add0,CI hw];simp_all);rw [h1.1] at this;simp only [Builtin.firstCells,this]
theorem IU {H:AH} {t:TypeId} {size:Nat} {x:AV} {K:List (List AV)->Prop} (h:NT H P t size x K):∃ news,K news/\∀ (c:Cx) (u:Value),c.H=H->HRel c->c.rel x u->∃ vs,SrcIs P c size u news vs:=by
 unfold NT at h
 split at h
 ·refine ⟨[],h,λc u _ _ hu=>?_⟩;obtain rfl:=eX hu;exact xY (g:=0) (oo:=0) rfl (λh=>absurd h<|by omega) ⟨λi row h=>by simp at h,λi row j a h=>by simp at h⟩
 ·rename_i n row;refine ⟨_,h.2,λc u _ _ hu=>?_⟩
  cases uB hu with
  | @sl _ cap s g oo _ A us hc hm ha hs hu2 h1' hx=>
   have hss:0<n->s=size:=λhn=>(hs 0 hn).symm.trans<|h.1 0 hn;have hget:∀ (i:Nat) (r:List AV),((List.range n).map row)[i]? = some r->i<n/\r=row i:=λi r hi=>by
    have hlt:i<n:=by
     have := (ges hi).1;simpa using this
    rw [List.getElem?_map,List.getElem?_range hlt,Option.map_some,sie] at hi;exact ⟨hlt,hi.symm⟩
   refine xY (g:=g) (oo:=oo) (by simp) (λhn=>(ha hn).1) ⟨λi r hi=>?_,λi r j a hi hj=>?_⟩
   ·obtain ⟨hlt,rfl⟩:=hget i r hi;exact h.1 i hlt
   obtain ⟨hlt,rfl⟩:=hget i r hi;have := hu2 i j a hlt hj;rw [hss (by omega),Nat.add_assoc] at this;exact ⟨_,this,h1' i j a hlt hj,.fr<|hx i j a hlt hj⟩
 ·rename_i b ver s off len
  split at h
  ·rename_i k hk;obtain ⟨⟨h1,h2,h3,h5⟩,h4⟩:=h;refine ⟨_,h4,λc u hH hr hu=>?_⟩;generalize hu':u=u' at hu
   cases hu with
   | fr h=>cases h
   | @hs _ _ _ _ _ cap A hb hc hm h0' hx=>
    have hl:c.live b k:=by unfold Cx.live;rw [hH];exact hk
    obtain ⟨cur,fr,hB⟩:=hr.blk b k hl;obtain ⟨fr,rfl,hat,hd⟩:=hB.cells hl (λx hx'=>by have := (hx x<|h1 ▸ hx').1;omega);rw [h1] at hd;obtain ⟨_,hle,hA,_⟩:=hx _ hd;have hget:∀ (i:Nat) (r:List AV),((k.rows.drop off).take len)[i]? = some r->k.rows[off+i]? = some r:=λi r hi=>by
     rw [List.getElem?_take] at hi
     split at hi
     ·rw [List.getElem?_drop] at hi;exact hi
     cases hi
    refine xY (g:=(c.φ b).1) (oo:=(c.φ b).2+off*s) (by simp at hle ⊢;omega) (λhn=>hA<|by omega) ⟨λi r hi=>?_,λi r j a hi hj=>?_⟩
    ·rw [hB.len _ r (hget i r hi),h2,h3]
    obtain ⟨u,g1,g2,g3⟩:=hB.rel _ r j a (hget i r hi) hj;refine ⟨u,?_,g2,g3⟩;rw [cell_of_row c.w _ _ cur k.ty fr hat,<- g1,h2,<- h3,Nat.add_mul]
    congr 1
    omega
  exact h.elim
 ·rename_i s;obtain ⟨⟨_,rfl⟩,h⟩:=h;refine ⟨_,h,λc u _ _ hu=>?_⟩;obtain ⟨rfl,_⟩:=iR hu;have hget:∀ (i:Nat) (r:List AV),(s.data.toList.map λb=>[AV.v (.int .u8 (b.toNat:Int))])[i]? = some r->∃ b,s.data.toList[i]? = some b/\r=[.v (.int .u8 (b.toNat:Int))]:=λi r hi=>by
   rw [List.getElem?_map,Option.map_eq_some_iff] at hi;obtain ⟨b,hb,rfl⟩:=hi;exact ⟨b,hb,rfl⟩
  refine ⟨s.data.toList.map λb => .int .u8 (b.toNat:Int),⟨λw=>by simp [Builtin.lenOf],λw _=>?_,⟨by simp,λv hv=>?_,λi r j a hi hj=>?_⟩,λi r hi=>?_⟩⟩
  ·have e:(List.map (λb=>[AV.v (.int .u8 (b.toNat:Int))]) s.data.toList).length=s.size:=by simp
   rw [e];have e2:s.extract 0 s.size=s:=ByteArray.extract_zero_size;simp only [Builtin.firstCells,e2,Sem.run_pure]
   congr 1
   exact Array.ext' (by simp)
  ·rw [List.mem_map] at hv;obtain ⟨b,_,rfl⟩:=hv
   rfl
  ·obtain ⟨b,hb,rfl⟩:=hget i r hi
   match j,hj with
   | 0,hj=>
    simp only [List.getElem?_cons_zero,sie] at hj;subst hj;refine ⟨.int .u8 (b.toNat:Int),?_,rfl,cO rfl⟩;rw [Nat.mul_one,Nat.add_zero,List.getElem?_map,hb]
    rfl
   | j+1,hj=>simp at hj
  obtain ⟨b,hb,rfl⟩:=hget i r hi
  rfl
 simp_all
end
section
variable {P:Program} {o:Oper} {ρ:Operand->AV}
theorem xZ {w w':World} {t u ty e:TypeId} (ht:P.underlying t=QZ (.slice e)) (hu:(∃ e2,P.underlying u=QZ (.slice e2))\/P.underlying u=QZ .string) {i:TypeInfo} (hi:P.info? e=QZ i) {A:Option Addr} {n cap m:Nat} {x:Value} {news:Array Value}
  (hlen:(Builtin.lenOf x).run P w = .ok m w) (hfc:(Builtin.firstCells i.size m x).run P w = .ok news w) (hroom:n+m<=cap)
  (hn:A=Q0->w'=w) (hsome:∀ a,A=QZ a->(storeCells (a.add<|n*i.size) news.toList).run P w = .ok () w') :
  (Builtin.append_ #[t,u] ty #[.slice A n cap,x]).run P w = .ok (.slice A (n+m) cap) w':=by
 rcases hu with ⟨e2,hu⟩ | hu
 ·cases A with
  | none=>
   obtain rfl:=hn rfl;simp [Builtin.append_,run_underlying ht,run_underlying hu,sizeOf,typeInfo,hi,hlen,hroom,hfc]
  | some a=>
   have hst:=hsome a rfl;simp [Builtin.append_,run_underlying ht,run_underlying hu,sizeOf,typeInfo,hi,hlen,hroom,hfc,hst]
 cases A with
 | none=>
  obtain rfl:=hn rfl;simp [Builtin.append_,run_underlying ht,run_underlying hu,sizeOf,typeInfo,hi,hlen,hroom,hfc]
 | some a=>
  have hst:=hsome a rfl;simp [Builtin.append_,run_underlying ht,run_underlying hu,sizeOf,typeInfo,hi,hlen,hroom,hfc,hst]
theorem rL {w:World} {t u ty e:TypeId} (ht:P.underlying t=QZ (.slice e)) (hu:(∃ e2,P.underlying u=QZ (.slice e2))\/P.underlying u=QZ .string) {i:TypeInfo} (hi:P.info? e=QZ i) {z:Value} (hz:i.zero=QZ z) {A:Option Addr} {n cap m:Nat} {x:Value} {olds news:Array Value}
  (hlen:(Builtin.lenOf x).run P w = .ok m w) (hfo:(Builtin.firstCells i.size n<|.slice A n cap).run P w.drew = .ok olds w.drew) (hfc:(Builtin.firstCells i.size m x).run P w.drew = .ok news w.drew) (hg:cap<n+m)
  (h63:n+m<=35184372088832) (hfit:(n+m)*i.bytes<=35184372088832) :
  ∃ nc,n+m<=nc/\nc<=9223372036854775807/\(Builtin.append_ #[t,u] ty #[.slice A n cap,x]).run P w = .ok (.slice (QZ ⟨w.heap.size,0,Q0⟩) (n+m) nc) (w.drew.alloc<|.cells (olds++news++Builtin.zeroCells z.cells (nc-(n+m))) e):=by
 have hge:=grownCap_ge w (n+m) cap e;have hcm:=grownCap_le_maxLen w (n+m) cap e (by simp only [maxLen];omega);simp only [maxLen] at hcm;refine ⟨grownCap w (n+m) cap e,hge,by omega,?_⟩;have hn : ¬ (n+m<=cap):=by omega
 have h63' : ¬ (9223372036854775807<((n:Int)+(m:Int))):=by omega
 have hfit':=growslice_fits (bytes:=i.bytes) hg (by omega);have h48' : ¬ (281474976710656<Builtin.nextslicecap (n+m) cap*i.bytes):=by omega
 rcases hu with ⟨e2,hu⟩ | hu
 ·simp [Builtin.append_,run_underlying ht,run_underlying hu,sizeOf,typeInfo,zeroValue,hi,hz,hlen,hn,h63',h48',Question.forced,hfo,hfc,newRow,grownCap]
 simp [Builtin.append_,run_underlying ht,run_underlying hu,sizeOf,typeInfo,zeroValue,hi,hz,hlen,hn,h63',h48',Question.forced,hfo,hfc,newRow,grownCap]
theorem qd (zs:Array Value) (n:Nat):(Builtin.zeroCells zs n).size=n*zs.size:=by simp [Builtin.zeroCells]
end
def Cx.drew (c:Cx):Cx:={ c with w:=c.w.drew }
theorem Cx.drew_ext (c:Cx):Ext c c.drew:=⟨rfl,rfl,rfl,Q7 _,λ_ _ _=>rfl,λ_ h=>h,λ_ h => .inl h,Q7 _,λ_ _ h=>h,λ_ _ _ _ h=>h,λb k h => .inr ⟨b,k,h,rfl⟩⟩
theorem Cx.drew_rel {c:Cx} (h:HRel c):HRel c.drew where
 gl:=h.glx c.drew_ext
 lt:=h.lt
 blk:=λb k hl=>by
  obtain ⟨cs,fr,hB⟩:=h.blk b k hl;exact ⟨cs,fr,⟨hB.at_,hB.nf,hB.pos,hB.free,hB.fits,hB.len,λi row j a h1 h2=>by
   obtain ⟨u,g1,g2,g3⟩:=hB.rel i row j a h1 h2;exact ⟨u,g1,g2,g3.ext h c.drew_ext⟩⟩⟩
 inj:=h.inj
def Cx.mov (c:Cx) (b:Nat) (k:ABlk) (cs:Array Value):Cx:={ w:=c.w.alloc (.cells cs k.ty),fz:=c.fz,H:=c.H.set b (QZ k),φ:=λq=>if q=b then (c.w.heap.size,0) else c.φ q }
theorem Cx.mov_live {c:Cx} {b q:Nat} {k k':ABlk} {cs:Array Value} (h:(c.mov b k cs).live q k'):(q=b/\k'=k)\/(q≠b/\c.live q k'):=Cx.upd_live (p:=(0,0)) (cs:=#[]) h
theorem Cx.mov_live_self {c:Cx} {b:Nat} {k k0:ABlk} {cs:Array Value} (h:c.live b k0):(c.mov b k cs).live b k:=Cx.upd_live_self (p:=(0,0)) (cs:=#[]) h
theorem Cx.mov_φ {c:Cx} {b q:Nat} {k:ABlk} {cs:Array Value} (hne:q≠b):(c.mov b k cs).φ q=c.φ q:=if_neg hne
theorem Cx.mov_φ_self {c:Cx} {b:Nat} {k:ABlk} {cs:Array Value}:(c.mov b k cs).φ b=(c.w.heap.size,0):=if_pos rfl
theorem Cx.mov_ext {c:Cx} (hr:HRel c) {b:Nat} {k k0:ABlk} {cs:Array Value} (hl:c.live b k0) (hv:k0.ver<k.ver):Ext c (c.mov b k cs) where
 os:=rfl
 tape:=rfl
 output:=rfl
 size:=by simp [Cx.mov]
 keep:=λg hg _=>Below.heap_alloc _ _ _ hg
 fz:=λ_ h=>h
 wN:=λ_ h => .inl h
 N:=by simp [Cx.mov]
 born:=λq ver h=>by
  unfold Cx.born at *
  by_cases e:q=b
  ·subst e;unfold Cx.live at hl;rw [hl] at h;simp only at h;have := Cx.mov_live_self (k:=k) (cs:=cs) hl;unfold Cx.live at this
   grind
  simp only [Cx.mov,Rl (Ne.symm e)];exact h
 hd:=λq ver x hb hx=>by
  obtain ⟨k',hl',rfl,o,hc,hx'⟩:=Cx.hd_some hx;rcases Cx.mov_live hl' with ⟨rfl,rfl⟩ | ⟨hne,hl2⟩
  ·unfold Cx.born at hb;unfold Cx.live at hl
   grind
  rw [Cx.mov_φ hne] at hc hx';have hc2:c.w.heap[(c.φ q).1]? = QZ o:=by
   rw [<- hc];exact (Below.heap_alloc _ _ _<|hr.live_lt hl2).symm
  exact (Cx.hd_of hl2 hc2).trans hx'
 iG:=λq k' hl'=>by
  rcases Cx.mov_live hl' with ⟨rfl,rfl⟩ | ⟨hne,hl2⟩
  ·left
   rw [Cx.mov_φ_self];omega
  right
  exact ⟨q,k',hl2,by rw [Cx.mov_φ hne]⟩
theorem Cx.mov_rel {c:Cx} (hr:HRel c) {b:Nat} {k k0:ABlk} {cs:Array Value} (hl:c.live b k0) (hv:k0.ver<k.ver) (hs:0<k.s) (hf:k.rows.length*k.s<=cs.size) (hlen:∀ (i:Nat) (row:List AV),k.rows[i]? = QZ row->row.length=k.s)
  (h:∀ (i:Nat) (row:List AV) (j:Nat) (a:AV),k.rows[i]? = QZ row->row[j]? = QZ a->∃ u,cs[i*k.s+j]? = QZ u/\u.oneCell'=QX/\c.rel a u):HRel (c.mov b k cs) where
 gl:=hr.glx<|Cx.mov_ext (cs:=cs) hr hl hv
 lt:=λg hg=>by
  have := hr.lt g hg;simp [Cx.mov];omega
 blk:=λq k' hq=>by
  have he:=Cx.mov_ext (cs:=cs) hr hl hv;rcases Cx.mov_live hq with ⟨rfl,rfl⟩ | ⟨hne,hl2⟩
  ·refine ⟨cs,QZ (0,0),⟨by rw [Cx.mov_φ_self];exact heap_alloc_new _ _,by rw [Cx.mov_φ_self];exact λhz=>Nat.lt_irrefl _<|hr.lt _ hz,hs,λf hf i _=>by grind,by rw [Cx.mov_φ_self];omega,hlen,λi row j a h1 h2=>?_⟩⟩;obtain ⟨u,h3,h4,h5⟩:=h i row j a h1 h2;exact ⟨u,by rw [Cx.mov_φ_self];simp_all,h4,h5.ext hr he⟩
  obtain ⟨cs',fr,hB⟩:=hr.blk q k' hl2;refine ⟨cs',fr,⟨by rw [Cx.mov_φ hne];exact (Below.heap_alloc _ _ _<|hr.live_lt hl2).trans hB.at_,by rw [Cx.mov_φ hne];exact hB.nf,hB.pos,hB.free,by rw [Cx.mov_φ hne];exact hB.fits,hB.len,λi row j a h1 h2=>?_⟩⟩;obtain ⟨u,h3,h4,h5⟩:=hB.rel i row j a h1 h2;exact ⟨u,by rw [Cx.mov_φ hne];exact h3,h4,h5.ext hr he⟩
 inj:=λq q' k1 k2 h1 h2 hne=>by
  rcases Cx.mov_live h1 with ⟨rfl,rfl⟩ | ⟨hn1,l1⟩
  ·rcases Cx.mov_live h2 with ⟨rfl,rfl⟩ | ⟨hn2,l2⟩
   ·omega
   have := hr.live_lt l2;rw [Cx.mov_φ_self,Cx.mov_φ hn2];omega
  rcases Cx.mov_live h2 with ⟨rfl,rfl⟩ | ⟨hn2,l2⟩
  ·have := hr.live_lt l1;rw [Cx.mov_φ_self,Cx.mov_φ hn1];omega
  rw [Cx.mov_φ hn1,Cx.mov_φ hn2];exact hr.inj q q' _ _ l1 l2 hne
theorem NV {c:Cx} {b:Nat} {k:ABlk} {cs:Array Value} {t:TypeId} {fr:Nat×Nat} {A:Option Addr} {n cap:Nat} (hl:c.live b k) (hc:c.w.heap[(c.φ b).1]? = QZ (.cells cs t fr)) (hn:n<=k.rows.length) (hcap:n<=cap) (hm:cap<=9223372036854775807)
  (hA:0<cap->A=QZ ⟨(c.φ b).1,(c.φ b).2,Q0⟩) (hfit:(c.φ b).2+cap*k.s<=cs.size):c.rel (.hs b k.ver k.s 0 n) (.slice A n cap):=by
 have hb:c.born b k.ver:=by
  unfold Cx.born;unfold Cx.live at hl;rw [hl];exact Q7 _
 refine .hs hb hcap hm (λh=>⟨_,hA h⟩) λx hx=>?_;replace hx:QZ (⟨(c.φ b).1,(c.φ b).2,k.s,k.rows.length,cs.size⟩:HI)=QZ x:=(Cx.hd_of hl hc).symm.trans hx
 grind
end
end Go.Proofs.YtabfkkjdfhbngaaGreatDoor
